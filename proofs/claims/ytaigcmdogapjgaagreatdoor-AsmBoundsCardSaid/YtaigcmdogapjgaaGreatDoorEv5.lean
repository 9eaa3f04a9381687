/- What is proved here: pieces of the evaluator's soundness: if the evaluator comes to a value, the model's run comes to it, for every world and tape; no conditions beyond the hypotheses of each theorem. -/
import Derived.Test.YtaigcmdogapjgaaGreatDoorEv4
import Derived.Stop.LaidErr
set_option linter.unusedSimpArgs false
set_option linter.unusedVariables false
set_option linter.defProp false
namespace Go.Proofs.YtaigcmdogapjgaaGreatDoor.Ev
open Go
abbrev a0 : Pos := .h
abbrev z0 : X := .t a0
abbrev a1 : Pos := .l a0
abbrev z1 : X := .t a1
abbrev a2 : Pos := .r a0
abbrev z2 : X := .t a2
abbrev a3 : Pos := .l a1
abbrev z3 : X := .t a3
abbrev a4 : Pos := .r a1
abbrev z4 : X := .t a4
abbrev a5 : Pos := .l a2
abbrev z5 : X := .t a5
abbrev a6 : Pos := .r a2
abbrev z6 : X := .t a6
abbrev a7 : Pos := .l a3
abbrev z7 : X := .t a7
abbrev a8 : Pos := .r a3
abbrev z8 : X := .t a8
abbrev a9 : Pos := .l a4
abbrev z9 : X := .t a9
abbrev a10 : Pos := .r a4
abbrev z10 : X := .t a10
abbrev a11 : Pos := .l a5
abbrev z11 : X := .t a11
abbrev a12 : Pos := .r a5
abbrev z12 : X := .t a12
abbrev a13 : Pos := .l a6
abbrev z13 : X := .t a13
abbrev a14 : Pos := .r a6
abbrev z14 : X := .t a14
abbrev a15 : Pos := .l a7
abbrev z15 : X := .t a15
abbrev a16 : Pos := .r a7
abbrev z16 : X := .t a16
abbrev a17 : Pos := .l a8
abbrev z17 : X := .t a17
abbrev a18 : Pos := .r a8
abbrev z18 : X := .t a18
abbrev a19 : Pos := .l a9
abbrev z19 : X := .t a19
abbrev a20 : Pos := .r a9
abbrev z20 : X := .t a20
abbrev a21 : Pos := .l a10
abbrev z21 : X := .t a21
abbrev a22 : Pos := .r a10
abbrev z22 : X := .t a22
abbrev a23 : Pos := .l a11
abbrev z23 : X := .t a23
abbrev a24 : Pos := .r a11
abbrev z24 : X := .t a24
abbrev a25 : Pos := .l a12
abbrev z25 : X := .t a25
abbrev a26 : Pos := .r a12
abbrev z26 : X := .t a26
abbrev a27 : Pos := .l a13
abbrev z27 : X := .t a27
abbrev a28 : Pos := .r a13
abbrev z28 : X := .t a28
abbrev a29 : Pos := .l a14
abbrev z29 : X := .t a29
abbrev a30 : Pos := .r a14
abbrev z30 : X := .t a30
abbrev a31 : Pos := .l a15
abbrev z31 : X := .t a31
abbrev a32 : Pos := .r a15
abbrev z32 : X := .t a32
abbrev a33 : Pos := .l a16
abbrev z33 : X := .t a33
abbrev a34 : Pos := .r a16
abbrev z34 : X := .t a34
abbrev a35 : Pos := .l a17
abbrev z35 : X := .t a35
abbrev a36 : Pos := .r a17
abbrev z36 : X := .t a36
abbrev a37 : Pos := .l a18
abbrev z37 : X := .t a37
abbrev a38 : Pos := .r a18
abbrev z38 : X := .t a38
abbrev a39 : Pos := .l a19
abbrev z39 : X := .t a39
abbrev a40 : Pos := .r a19
abbrev z40 : X := .t a40
abbrev a41 : Pos := .l a20
abbrev z41 : X := .t a41
abbrev a42 : Pos := .r a20
abbrev z42 : X := .t a42
abbrev a43 : Pos := .l a21
abbrev z43 : X := .t a43
abbrev a44 : Pos := .r a21
abbrev z44 : X := .t a44
abbrev a45 : Pos := .l a22
abbrev z45 : X := .t a45
abbrev a46 : Pos := .r a22
abbrev z46 : X := .t a46
abbrev a47 : Pos := .l a23
abbrev z47 : X := .t a47
abbrev a48 : Pos := .r a23
abbrev z48 : X := .t a48
abbrev a49 : Pos := .l a24
abbrev z49 : X := .t a49
abbrev a50 : Pos := .r a24
abbrev z50 : X := .t a50
abbrev a51 : Pos := .l a25
abbrev z51 : X := .t a51
abbrev a52 : Pos := .r a25
abbrev z52 : X := .t a52
abbrev a53 : Pos := .l a26
abbrev z53 : X := .t a53
abbrev a54 : Pos := .r a26
abbrev z54 : X := .t a54
abbrev a55 : Pos := .l a27
abbrev z55 : X := .t a55
abbrev a56 : Pos := .r a27
abbrev z56 : X := .t a56
abbrev a57 : Pos := .l a28
abbrev z57 : X := .t a57
abbrev a58 : Pos := .r a28
abbrev z58 : X := .t a58
abbrev a59 : Pos := .l a29
abbrev z59 : X := .t a59
abbrev a60 : Pos := .r a29
abbrev z60 : X := .t a60
abbrev a61 : Pos := .l a30
abbrev z61 : X := .t a61
abbrev a62 : Pos := .r a30
abbrev z62 : X := .t a62
abbrev a63 : Pos := .l a31
abbrev z63 : X := .t a63
abbrev a64 : Pos := .r a31
abbrev z64 : X := .t a64
abbrev a65 : Pos := .l a32
abbrev z65 : X := .t a65
abbrev a66 : Pos := .r a32
abbrev z66 : X := .t a66
abbrev a67 : Pos := .l a33
abbrev z67 : X := .t a67
abbrev a68 : Pos := .r a33
abbrev z68 : X := .t a68
abbrev a69 : Pos := .l a34
abbrev z69 : X := .t a69
abbrev a70 : Pos := .r a34
abbrev z70 : X := .t a70
abbrev a71 : Pos := .l a35
abbrev z71 : X := .t a71
abbrev a72 : Pos := .r a35
abbrev z72 : X := .t a72
abbrev a73 : Pos := .l a36
abbrev z73 : X := .t a73
abbrev a74 : Pos := .r a36
abbrev z74 : X := .t a74
abbrev a75 : Pos := .l a37
abbrev z75 : X := .t a75
abbrev a76 : Pos := .r a37
abbrev z76 : X := .t a76
abbrev a77 : Pos := .l a38
abbrev z77 : X := .t a77
abbrev a78 : Pos := .r a38
abbrev z78 : X := .t a78
abbrev a79 : Pos := .l a39
abbrev z79 : X := .t a79
abbrev a80 : Pos := .r a39
abbrev z80 : X := .t a80
abbrev a81 : Pos := .l a40
abbrev z81 : X := .t a81
abbrev a82 : Pos := .r a40
abbrev z82 : X := .t a82
abbrev a83 : Pos := .l a41
abbrev z83 : X := .t a83
abbrev a84 : Pos := .r a41
abbrev z84 : X := .t a84
abbrev a85 : Pos := .l a42
abbrev z85 : X := .t a85
abbrev a86 : Pos := .r a42
abbrev z86 : X := .t a86
abbrev a87 : Pos := .l a43
abbrev z87 : X := .t a87
abbrev a88 : Pos := .r a43
abbrev z88 : X := .t a88
abbrev a89 : Pos := .l a44
abbrev z89 : X := .t a89
abbrev a90 : Pos := .r a44
abbrev z90 : X := .t a90
abbrev a91 : Pos := .l a45
abbrev z91 : X := .t a91
abbrev a92 : Pos := .r a45
abbrev z92 : X := .t a92
abbrev a93 : Pos := .l a46
abbrev z93 : X := .t a93
abbrev a94 : Pos := .r a46
abbrev z94 : X := .t a94
abbrev a95 : Pos := .l a47
abbrev z95 : X := .t a95
abbrev a96 : Pos := .r a47
abbrev z96 : X := .t a96
abbrev a97 : Pos := .l a48
abbrev z97 : X := .t a97
abbrev a98 : Pos := .r a48
abbrev z98 : X := .t a98
abbrev a99 : Pos := .l a49
abbrev z99 : X := .t a99
abbrev a100 : Pos := .r a49
abbrev z100 : X := .t a100
abbrev a101 : Pos := .l a50
abbrev z101 : X := .t a101
abbrev a102 : Pos := .r a50
abbrev z102 : X := .t a102
abbrev a103 : Pos := .l a51
abbrev z103 : X := .t a103
abbrev a104 : Pos := .r a51
abbrev z104 : X := .t a104
abbrev a105 : Pos := .l a52
abbrev z105 : X := .t a105
abbrev a106 : Pos := .r a52
abbrev z106 : X := .t a106
abbrev a107 : Pos := .l a53
abbrev z107 : X := .t a107
abbrev a108 : Pos := .r a53
abbrev z108 : X := .t a108
abbrev a109 : Pos := .l a54
abbrev z109 : X := .t a109
abbrev a110 : Pos := .r a54
abbrev z110 : X := .t a110
abbrev a111 : Pos := .l a55
abbrev z111 : X := .t a111
abbrev a112 : Pos := .r a55
abbrev z112 : X := .t a112
abbrev a113 : Pos := .l a56
abbrev z113 : X := .t a113
abbrev a114 : Pos := .r a56
abbrev z114 : X := .t a114
abbrev a115 : Pos := .l a57
abbrev z115 : X := .t a115
abbrev a116 : Pos := .r a57
abbrev z116 : X := .t a116
abbrev a117 : Pos := .l a58
abbrev z117 : X := .t a117
abbrev a118 : Pos := .r a58
abbrev z118 : X := .t a118
abbrev a119 : Pos := .l a59
abbrev z119 : X := .t a119
abbrev a120 : Pos := .r a59
abbrev z120 : X := .t a120
abbrev a121 : Pos := .l a60
abbrev z121 : X := .t a121
abbrev a122 : Pos := .r a60
abbrev z122 : X := .t a122
abbrev a123 : Pos := .l a61
abbrev z123 : X := .t a123
abbrev a124 : Pos := .r a61
abbrev z124 : X := .t a124
abbrev a125 : Pos := .l a62
abbrev z125 : X := .t a125
abbrev a126 : Pos := .r a62
abbrev z126 : X := .t a126
abbrev a127 : Pos := .l a63
abbrev z127 : X := .t a127
abbrev a128 : Pos := .r a63
abbrev z128 : X := .t a128
abbrev a129 : Pos := .l a64
abbrev z129 : X := .t a129
abbrev a130 : Pos := .r a64
abbrev z130 : X := .t a130
abbrev a131 : Pos := .l a65
abbrev z131 : X := .t a131
abbrev a132 : Pos := .r a65
abbrev z132 : X := .t a132
abbrev a133 : Pos := .l a66
abbrev z133 : X := .t a133
abbrev a134 : Pos := .r a66
abbrev z134 : X := .t a134
abbrev a135 : Pos := .l a67
abbrev z135 : X := .t a135
abbrev a136 : Pos := .r a67
abbrev z136 : X := .t a136
abbrev a137 : Pos := .l a68
abbrev z137 : X := .t a137
abbrev a138 : Pos := .r a68
abbrev z138 : X := .t a138
abbrev a139 : Pos := .l a69
abbrev z139 : X := .t a139
abbrev a140 : Pos := .r a69
abbrev z140 : X := .t a140
abbrev a141 : Pos := .l a70
abbrev z141 : X := .t a141
abbrev a142 : Pos := .r a70
abbrev z142 : X := .t a142
abbrev a143 : Pos := .l a71
abbrev z143 : X := .t a143
abbrev a144 : Pos := .r a71
abbrev z144 : X := .t a144
abbrev a145 : Pos := .l a72
abbrev z145 : X := .t a145
abbrev a146 : Pos := .r a72
abbrev z146 : X := .t a146
abbrev a147 : Pos := .l a73
abbrev z147 : X := .t a147
abbrev a148 : Pos := .r a73
abbrev z148 : X := .t a148
abbrev a149 : Pos := .l a74
abbrev z149 : X := .t a149
abbrev a150 : Pos := .r a74
abbrev z150 : X := .t a150
abbrev a151 : Pos := .l a75
abbrev z151 : X := .t a151
abbrev a152 : Pos := .r a75
abbrev z152 : X := .t a152
abbrev a153 : Pos := .l a76
abbrev z153 : X := .t a153
abbrev a154 : Pos := .r a76
abbrev z154 : X := .t a154
abbrev a155 : Pos := .l a77
abbrev z155 : X := .t a155
abbrev a156 : Pos := .r a77
abbrev z156 : X := .t a156
abbrev a157 : Pos := .l a78
abbrev z157 : X := .t a157
abbrev a158 : Pos := .r a78
abbrev z158 : X := .t a158
abbrev a159 : Pos := .l a79
abbrev z159 : X := .t a159
abbrev a160 : Pos := .r a79
abbrev z160 : X := .t a160
abbrev a161 : Pos := .l a80
abbrev z161 : X := .t a161
abbrev a162 : Pos := .r a80
abbrev z162 : X := .t a162
abbrev a163 : Pos := .l a81
abbrev z163 : X := .t a163
abbrev a164 : Pos := .r a81
abbrev z164 : X := .t a164
abbrev a165 : Pos := .l a82
abbrev z165 : X := .t a165
abbrev a166 : Pos := .r a82
abbrev z166 : X := .t a166
abbrev a167 : Pos := .l a83
abbrev z167 : X := .t a167
abbrev a168 : Pos := .r a83
abbrev z168 : X := .t a168
abbrev a169 : Pos := .l a84
abbrev z169 : X := .t a169
abbrev a170 : Pos := .r a84
abbrev z170 : X := .t a170
abbrev a171 : Pos := .l a85
abbrev z171 : X := .t a171
abbrev a172 : Pos := .r a85
abbrev z172 : X := .t a172
abbrev a173 : Pos := .l a86
abbrev z173 : X := .t a173
abbrev a174 : Pos := .r a86
abbrev z174 : X := .t a174
abbrev a175 : Pos := .l a87
abbrev z175 : X := .t a175
abbrev a176 : Pos := .r a87
abbrev z176 : X := .t a176
abbrev a177 : Pos := .l a88
abbrev z177 : X := .t a177
abbrev a178 : Pos := .r a88
abbrev z178 : X := .t a178
abbrev a179 : Pos := .l a89
abbrev z179 : X := .t a179
abbrev a180 : Pos := .r a89
abbrev z180 : X := .t a180
abbrev a181 : Pos := .l a90
abbrev z181 : X := .t a181
abbrev a182 : Pos := .r a90
abbrev z182 : X := .t a182
abbrev a183 : Pos := .l a91
abbrev z183 : X := .t a183
abbrev a184 : Pos := .r a91
abbrev z184 : X := .t a184
abbrev a185 : Pos := .l a92
abbrev z185 : X := .t a185
abbrev a186 : Pos := .r a92
abbrev z186 : X := .t a186
abbrev a187 : Pos := .l a93
abbrev z187 : X := .t a187
abbrev a188 : Pos := .r a93
abbrev z188 : X := .t a188
abbrev a189 : Pos := .l a94
abbrev z189 : X := .t a189
abbrev a190 : Pos := .r a94
abbrev z190 : X := .t a190
abbrev a191 : Pos := .l a95
abbrev z191 : X := .t a191
abbrev a192 : Pos := .r a95
abbrev z192 : X := .t a192
abbrev a193 : Pos := .l a96
abbrev z193 : X := .t a193
abbrev a194 : Pos := .r a96
abbrev z194 : X := .t a194
abbrev a195 : Pos := .l a97
abbrev z195 : X := .t a195
abbrev sk1 : T := .n .e none .e
abbrev sk2 : T := .n sk1 none sk1
abbrev sk3 : T := .n sk2 none sk2
abbrev sk4 : T := .n sk3 none sk3
abbrev sk5 : T := .n sk4 none sk4
abbrev sk6 : T := .n sk5 none sk5
abbrev sk7 : T := .n sk6 none sk6
abbrev sk8 : T := .n sk7 none sk7
abbrev uv1 (u : List (Option V)) (a : Nat) : T := .n .e (uO u a) .e
abbrev uv3 (u : List (Option V)) (a b c : Nat) : T := .n (uv1 u a) (uO u b) (uv1 u c)
abbrev uv7 (u : List (Option V)) (a b c d e f g : Nat) : T := .n (uv3 u a b c) (uO u d) (uv3 u e f g)
abbrev qq (d : Pos) (o : QO) : CO := ⟨some d, .q o, none⟩
abbrev aa (d : Pos) (o : AO) : CO := ⟨some d, .a o, none⟩
abbrev ee (d : Pos) (o : EO) : CO := ⟨some d, .e o, none⟩
abbrev ez (o : EO) : CO := ⟨none, .e o, none⟩
abbrev x6 (n : Int) : X := .c (.i .i64 n)
abbrev xT : X := .c (.b true)
abbrev xF : X := .c (.b false)
theorem wu {b b1 : CC} (h : b = b1) (k : Kn) (s : St) (R : Ex → St → Prop) : Wp b k s R = Wp b1 k s R := congrArg (fun x => Wp x k s R) h
end Go.Proofs.YtaigcmdogapjgaaGreatDoor.Ev
namespace Go.Proofs.YtaigcmdogapjgaaGreatDoor.Ev
open Go
end Go.Proofs.YtaigcmdogapjgaaGreatDoor.Ev
namespace Go.Proofs.YtaigcmdogapjgaaGreatDoor.Ev
open Go
section
variable {Φ : Nat → Option CF} {rd : Option Nat} {fn : Nat} {F : RO}
def nckV : V → Option V
  | .p b o => some (.p b o)
  | .f g h c => some (.f g h c)
  | .y l => some (.y l)
  | .a t v => some (.a t v)
  | _ => none
theorem v_nck (x : X) (M : Mem) (t : T) : (qop (.nck x) F M t).val = nckV (x.ev t) := by
  show (q_nck x F M t).val = _
  unfold q_nck
  cases x.ev t <;> rfl
theorem nckV_p (b o : Nat) : nckV (.p b o) = some (.p b o) := Eq.trans rfl (Eq.refl _)
theorem dq_nck (x : X) (M : Mem) (t : T) : dqR (.nck x) F M t = oV (nckV (x.ev t)) := by
  refine (dq_of ?_).trans (congrArg oV (v_nck (F := F) x M t))
  intro F' M'
  refine qv_oV ?_
  show (q_nck x F' M' t = .f ∨ ∃ y, q_nck x F' M' t = .v y)
  unfold q_nck
  cases x.ev t <;> first | exact .inl rfl | exact .inr ⟨_, rfl⟩
def QV (r : QR) : Prop := r = .f ∨ ∃ y, r = .v y
def PutDA (o : Option (V × Blk)) (base i : Nat) (p : Pos) (r : List (Nat × Nat × CO)) (k : Kn) (t : T) (M : Mem) (c : Nat) (pend : List (Nat × Nat × Blk)) (reads : List (Nat × Nat)) (R : DS → Prop) : Prop := match o with
  | some x => WpD base r k (.mk (t.setP p x.1) M c ((i, base + i, x.2) :: pend) reads) R
  | none => False
theorem putDA (v : V) (b : Blk) (base i : Nat) (p : Pos) (r : List (Nat × Nat × CO)) (k : Kn) (t : T) (M : Mem) (c : Nat) (pend : List (Nat × Nat × Blk)) (reads : List (Nat × Nat)) (R : DS → Prop) :
    PutDA (some (v, b)) base i p r k t M c pend reads R = WpD base r k (.mk (t.setP p v) M c ((i, base + i, b) :: pend) reads) R := Eq.trans rfl (Eq.refl _)
theorem wd_a (base i mask : Nat) (p : Pos) (o : AO) (r : List (Nat × Nat × CO)) (t : T) (M : Mem) (c : Nat) (pend : List (Nat × Nat × Blk)) (reads : List (Nat × Nat)) (R : DS → Prop) (hl : (look F M (base + i)).isNone = true) (hr : readFree (base + i) reads = true) :
    WpD base ((i, mask, .mk (some p) (.a o) none) :: r) (K Φ rd fn F) (.mk t M c pend reads) R = PutDA (aop o (base + i) t) base i p r (K Φ rd fn F) t M c pend reads R := by
  have he : dOp (K Φ rd fn F) base (i, mask, .mk (some p) (.a o) none) (.mk t M c pend reads) = d_a1 i (base + i) (some p) t M c pend reads (aop o (base + i) t) := by
    show (fN (Nat.add base i) fun b => bif (look F M b).isNone && readFree b reads then d_a1 i b (some p) t M c pend reads (aop o b t) else none) = _
    rw [fN_eq]
    show (bif (look F M (base + i)).isNone && readFree (base + i) reads then d_a1 i (base + i) (some p) t M c pend reads (aop o (base + i) t) else none) = _
    rw [hl, hr]; rfl
  apply propext
  rw [wd_cons, he]
  cases aop o (base + i) t with
  | none => exact ⟨fun ⟨s', h, _⟩ => (by cases h), False.elim⟩
  | some x =>
    have h2 : d_a1 i (base + i) (some p) t M c pend reads (some x) = some (.mk (t.setP p x.1) M c ((i, base + i, x.2) :: pend) reads) := by
      show ((setT t (some p) x.1).force fun t => some (DS.mk t M c ((i, base + i, x.2) :: pend) reads)) = _
      rw [Tr.force_eq]; rfl
    rw [h2]
    constructor
    · rintro ⟨s', h, q⟩; obtain rfl := Option.some.inj h; exact q
    · exact fun q => ⟨_, rfl, q⟩
theorem readFree_nil (b : Nat) : readFree b [] = true := Eq.trans rfl (Eq.refl _)
theorem readFree_cons (b i b' : Nat) (r : List (Nat × Nat)) (h : b' ≠ b) : readFree b ((i, b') :: r) = readFree b r := by
  show (bif Nat.beq b' b then false else readFree b r) = _
  rw [beqN, decide_eq_false h]; rfl
noncomputable def rowP (ty n : Nat) (row : List V) : Blk := .cells ty n false 0 false [] (rowT row)
def BufAt (M : Mem) (c0 c b : Nat) (v : V) (l : List UInt8) : Prop :=
  (l = [] ∧ v = .l0) ∨ (c0 ≤ b ∧ b < c ∧ ∃ n, (l.length ≤ n ∧ 0 < n) ∧ v = .u b 0 l.length 0 n ∧ M.get b = some (rowP 5 n (l.map bV)))
theorem BufAt.up {M M' : Mem} {c0 c c' b : Nat} {v : V} {l : List UInt8} (h : BufAt M c0 c b v l) (hc : c ≤ c') (hb : b < c → M'.get b = M.get b) : BufAt M' c0 c' b v l := by
  rcases h with h | ⟨h1, h2, n, h3, h4, h5⟩
  · exact .inl h
  · exact .inr ⟨h1, by omega, n, h3, h4, by rw [hb h2]; exact h5⟩
end
end Go.Proofs.YtaigcmdogapjgaaGreatDoor.Ev
namespace Go.Proofs.YtaigcmdogapjgaaGreatDoor.Ev
open Go
def siB (s : List UInt8) (pos : Nat) : Blk := .siter s.length (strN s) pos
noncomputable def rgsA (v : V) (b : Nat) : Option (V × Blk) := onS v none fun n s => some (.p b 0, .siter n s 0)
theorem a_rgs_w (x : X) (b : Nat) (t : T) : aop (.rgs x) b t = rgsA (x.ev t) b := Eq.trans rfl (Eq.refl _)
theorem rgsA_s (l : List UInt8) (b : Nat) : rgsA (sV l) b = some (.p b 0, siB l 0) := Eq.trans rfl (Eq.refl _)
theorem rune_hi (s : ByteArray) (i : Nat) (h : 128 ≤ (s.get! i).toNat) : 128 ≤ (Utf8.decode s i).1 := by
  unfold Utf8.decode
  simp only [Nat.add_zero, Utf8.runeError]
  rw [if_neg (by omega)]
  repeat' split
  all_goals first | omega | (simp_all; done) | (simp_all; omega)
noncomputable def nxsE (M : Mem) (c : Nat) : V → RC
  | .p b 0 => nxsIn M c b (M.get b)
  | _ => .f
theorem x_nxs_w {Φ : Nat → Option CF} {rd : Option Nat} {fn : Nat} {F : RO} (x : X) (M : Mem) (c : Nat) (t : T) : doE (.nxs x) (K Φ rd fn F) M c t = nxsE M c (x.ev t) := Eq.trans rfl (Eq.refl _)
theorem nxs_end {M : Mem} {b : Nat} {l : List UInt8} (c : Nat) (h : M.get b = some (siB l l.length)) : nxsE M c (.p b 0) = .k (.t [.b false]) M c := by
  show nxsIn M c b (M.get b) = _
  rw [h]
  show (bif Nat.blt l.length l.length then _ else RC.k (.t [.b false]) M c) = _
  rw [bltN, decide_eq_false (Nat.lt_irrefl _), cond_false]
theorem nxs_lo {M : Mem} {b : Nat} {l : List UInt8} {i : Nat} (c : Nat) (h : M.get b = some (siB l i)) (hi : i < l.length) (hc : l[i].toNat < 128) : nxsE M c (.p b 0) = .k (.t [.b true, .i .i64 (i : Int), .i .i32 (l[i].toNat : Int)]) (M.set b (siB l (i + 1))) c := by
  show nxsIn M c b (M.get b) = _
  rw [h]
  show (bif Nat.blt i l.length then (fN (Nat.mod (Nat.div (strN l) (p256 i)) 256) fun ch => bif Nat.blt ch 128 then _ else _) else _) = _
  rw [bltN, decide_eq_true hi, cond_true, fN_eq, show Nat.mod (Nat.div (strN l) (p256 i)) 256 = l[i].toNat from strN_get l i hi, bltN, decide_eq_true hc, cond_true, fN_eq, setM_eq]; rfl
theorem nxs_hi {M : Mem} {b : Nat} {l : List UInt8} {i : Nat} (c : Nat) (h : M.get b = some (siB l i)) (hi : i < l.length) (hc : 128 ≤ l[i].toNat) : ∃ r p : Nat, 128 ≤ r ∧ nxsE M c (.p b 0) = .k (.t [.b true, .i .i64 (i : Int), .i .i32 (r : Int)]) (M.set b (siB l p)) c := by
  refine ⟨(Utf8.decode (ba l.length (strN l)) i).1, i + (Utf8.decode (ba l.length (strN l)) i).2, rune_hi _ _ (by rw [ba_get hi, strN_get l i hi]; exact hc), ?_⟩
  show nxsIn M c b (M.get b) = _
  rw [h]
  show (bif Nat.blt i l.length then (fN (Nat.mod (Nat.div (strN l) (p256 i)) 256) fun ch => bif Nat.blt ch 128 then _ else nxsU M c b l.length (strN l) i (Utf8.decode (ba l.length (strN l)) i)) else _) = _
  rw [bltN, decide_eq_true hi, cond_true, fN_eq, show Nat.mod (Nat.div (strN l) (p256 i)) 256 = l[i].toNat from strN_get l i hi, bltN, decide_eq_false (by omega), cond_false]
  unfold nxsU
  rw [fN_eq, fN_eq, setM_eq]; rfl
theorem wd_em {Φ : Nat → Option CF} {rd : Option Nat} {fn : Nat} {F : RO} (base i mask j b : Nat) (blk : Blk) (dst : Option Pos) (o : EO) (r : List (Nat × Nat × CO)) (t : T) (M : Mem) (c : Nat) (reads : List (Nat × Nat)) (R : DS → Prop) (hj : (mask / 2 ^ j % 2 == 1) = true) (hb : befB mask reads = true) :
    WpD base ((i, mask, .mk dst (.e o) none) :: r) (K Φ rd fn F) (.mk t M c [(j, b, blk)] reads) R = PutDE (doE o (K Φ rd fn F) (M.set b blk) c t) F dst base r (K Φ rd fn F) t reads R := by
  have hp := befB_protect hb
  have hj' : testBit mask j = true := by
    show Nat.beq (Nat.mod (Nat.div mask (Nat.pow 2 j)) 2) 1 = true
    rw [beqN]; exact decide_eq_true (show mask / 2 ^ j % 2 = 1 by simpa using hj)
  have hmg : merge mask [(j, b, blk)] M = (M.set b blk, []) := by
    show (bif testBit mask j then (M.set b blk).force (fun M => merge mask [] M) else _) = _
    rw [hj', cond_true, Tr.force_eq]; rfl
  have he : dOp (K Φ rd fn F) base (i, mask, .mk dst (.e o) none) (.mk t M c [(j, b, blk)] reads) = d_e2 F dst t [] reads [] (doE o (K Φ rd fn F) (M.set b blk) c t) := by
    show d_e0 o (K Φ rd fn F) mask dst t c reads (merge mask [(j, b, blk)] M) = _
    rw [hmg]
    show d_e1 o (K Φ rd fn F) dst t c [] reads (protect mask reads F (M.set b blk) []) = _
    rw [hp]; rfl
  apply propext
  rw [wd_cons, he]
  cases hd : doE o (K Φ rd fn F) (M.set b blk) c t with
  | f => exact ⟨fun ⟨s', h, _⟩ => (by cases h), False.elim⟩
  | k v M' c' =>
    have h2 : d_e2 F dst t [] reads [] (.k v M' c') = if roFree M' F = true then some (DS.mk (setT t dst v) M' c' [] reads) else none := by
      show (bif roFree M' F && pendFree F M' [] then (unprotect [] M').force fun M => (setT t dst v).force fun t => some (DS.mk t M c' [] reads) else none) = _
      cases hr : roFree M' F with
      | false => rfl
      | true =>
        show ((unprotect [] M').force fun M => (setT t dst v).force fun t => some (DS.mk t M c' [] reads)) = _
        rw [Tr.force_eq, Tr.force_eq]; rfl
    rw [h2]
    show _ ↔ (roFree M' F = true ∧ WpD base r (K Φ rd fn F) (.mk (setT t dst v) M' c' [] reads) R)
    cases hr : roFree M' F with
    | false => exact ⟨fun ⟨s', h, _⟩ => (by simp at h), fun h => (by cases h.1)⟩
    | true =>
      constructor
      · rintro ⟨s', h, q⟩
        simp only [if_true] at h
        obtain rfl := Option.some.inj h; exact ⟨rfl, q⟩
      · exact fun h => ⟨_, rfl, h.2⟩
end Go.Proofs.YtaigcmdogapjgaaGreatDoor.Ev
namespace Go.Proofs.YtaigcmdogapjgaaGreatDoor.Ev
open Go Go.RowKit Go.ChangeShapes
theorem cell_plain {W : World} {a : Addr} {v : Value} (h : W.cell? a = some v) : ∃ r o, a = ⟨r, o, none⟩ ∧ r < W.heap.size := by
  obtain ⟨r, o, sp⟩ := a
  unfold World.cell? at h
  split at h
  · rename_i cs ty fr hh
    have hlt : r < W.heap.size := (Array.getElem?_eq_some_iff.1 hh).1
    cases sp with
    | none => exact ⟨r, o, rfl, hlt⟩
    | some k => simp at h
  · cases h
end Go.Proofs.YtaigcmdogapjgaaGreatDoor.Ev
namespace Go.Proofs.YtaigcmdogapjgaaGreatDoor.Ev
open Go Go.RowKit Go.ChangeShapes
noncomputable def errQ (F : RO) (g : Nat) : Option (Nat × Nat × Nat × Nat) := match roGet F g with
  | some (.cells ty n false fz true d c) => bif Nat.beq n 1 && Nat.beq fz 1 then (match cell 1 d c 0 with
    | some (.a t (.p b o)) => some (ty, t, b, o)
    | _ => none) else none
  | _ => none
theorem errQ_some {F : RO} {g ty t b o : Nat} (h : errQ F g = some (ty, t, b, o)) : ∃ d c, roGet F g = some (.cells ty 1 false 1 true d c) ∧ cell 1 d c 0 = some (.a t (.p b o)) := by
  unfold errQ at h
  split at h
  · rename_i ty' n fz d c hF
    cases hh : Nat.beq n 1 && Nat.beq fz 1 with
    | false => rw [hh] at h; cases h
    | true =>
      rw [hh, cond_true] at h
      rw [Bool.and_eq_true, beqN, beqN] at hh
      obtain rfl := of_decide_eq_true hh.1
      obtain rfl := of_decide_eq_true hh.2
      split at h
      · rename_i t' b' o' hc
        injection h with h; injection h with h1 h; injection h with h2 h; injection h with h3 h4
        subst h1 h2 h3 h4
        exact ⟨d, c, hF, hc⟩
      · cases h
  · cases h
noncomputable def errsIn (F : RO) : List Nat → Bool
  | [] => true
  | g :: r => Nat.blt g 1000 && ((errQ F g).isSome && errsIn F r)
theorem errsIn_mem {F : RO} : ∀ {L : List Nat}, errsIn F L = true → ∀ g ∈ L, g < 1000 ∧ ∃ ty t b o, errQ F g = some (ty, t, b, o)
  | [], _, g, hg => by cases hg
  | x :: r, h, g, hg => by
    have h' : (Nat.blt x 1000 && ((errQ F x).isSome && errsIn F r)) = true := h
    rw [Bool.and_eq_true, Bool.and_eq_true, bltN] at h'
    rcases List.mem_cons.1 hg with e | hg'
    · subst e
      obtain ⟨⟨ty, t, b, o⟩, hq⟩ := Option.isSome_iff_exists.1 h'.2.1
      exact ⟨of_decide_eq_true h'.1, ty, t, b, o, hq⟩
    · exact errsIn_mem h'.2.2 g hg'
noncomputable def errBlk (ty t k o : Nat) : Blk := .cells ty 1 false 1 true [.a t (.p k o)] .e
noncomputable def errF (F : RO) (q : Nat → Nat × Nat × Nat) : List Nat → Nat → RO
  | [], _ => F
  | g :: r, k => (g, errBlk (q g).1 (q g).2.1 k (q g).2.2) :: errF F q r (Nat.succ k)
theorem errF_get {F : RO} {q : Nat → Nat × Nat × Nat} : ∀ {L : List Nat} {k b : Nat} {blk : Blk}, roGet (errF F q L k) b = some blk → roGet F b = some blk ∨ ∃ i, L[i]? = some b ∧ blk = errBlk (q b).1 (q b).2.1 (k + i) (q b).2.2
  | [], k, b, blk, h => .inl h
  | g :: r, k, b, blk, h => by
    have h' : Bool.rec (motive := fun _ => Option Blk) (roGet (errF F q r (k + 1)) b) (some (errBlk (q g).1 (q g).2.1 k (q g).2.2)) (Nat.beq g b) = some blk := h
    rw [bb, beqN] at h'
    by_cases e : g = b
    · rw [if_pos (by simpa using e)] at h'
      subst e
      exact .inr ⟨0, rfl, (Option.some.inj h').symm⟩
    · rw [if_neg (by simpa using e)] at h'
      rcases errF_get h' with h | ⟨i, h1, h2⟩
      · exact .inl h
      · exact .inr ⟨i + 1, h1, by rw [h2, show k + 1 + i = k + (i + 1) by omega]⟩
noncomputable def errN (F : RO) (L : List Nat) (i : Nat) : Nat := match L[i]? with
  | some g => (match errQ F g with | some (_, _, b, _) => b | none => 0)
  | none => 0
noncomputable def errE (E : Env) (F : RO) (L : List Nat) : Env := ⟨fun x => if x < 1000 then E.ρ x else E.ρ (errN F L (x - 1000)), fun x => if x < 1000 then E.β x else E.β (errN F L (x - 1000)), fun x => if x < 1000 then E.κ x else E.κ (errN F L (x - 1000))⟩
theorem errE_ext (E : Env) (F : RO) (L : List Nat) : Ext (fun x => x < 1000) E (errE E F L) := ⟨fun b hb => if_pos hb, fun b hb => if_pos hb, fun b hb => if_pos hb⟩
theorem rel_errs {P : Program} {E : Env} {F : RO} {M : Mem} {c : Nat → Prop} {w : World} {L : List Tab} {gs : List Nat} (hr : Rel P E F M c w) (hglob : ∀ g, g < 1000 → E.ρ g = g ∧ E.β g = 0) (h : tabsIn F L = true) (he : errsIn F gs = true) :
    ∃ ty q, Rel P (errE E F gs) (errF (tabF L ty) q gs 1000) .e (fun x => x < 1000 + gs.length) w := by
  obtain ⟨ty, hT⟩ := rel_tabsIn hr hglob h
  have hall := errsIn_mem he
  have hgl : ∀ g, g < 1000 → (errE E F gs).ρ g = g := fun g hg => ((errE_ext E F gs).ρ g hg).trans (hglob g hg).1
  refine ⟨ty, fun g => match errQ F g with | some (ty, t, _, o) => (ty, t, o) | none => (0, 0, 0), ⟨?_, ?_, fun b hb => rfl⟩⟩
  · intro b blk hb
    rw [look_none_M (show (Tr.e : Mem).get b = none from rfl)] at hb
    rcases errF_get hb with hb | ⟨i, hi, rfl⟩
    · obtain ⟨h1, h2, o, h3, h4⟩ := hT.has b blk (by rw [look_none_M (show (Tr.e : Mem).get b = none from rfl)]; exact hb)
      have h1' : b < 1000 := h1
      exact ⟨Nat.lt_of_lt_of_le h1' (Nat.le_add_right _ _), bdBlk_mono (fun x (hx : x < 1000) => Nat.lt_of_lt_of_le hx (Nat.le_add_right _ _)) blk h2, o, by rw [hgl b h1', ← (hglob b h1').1]; exact h3, h4.ext (errE_ext E F gs) h1' h2⟩
    · have hm := List.mem_of_getElem? hi
      obtain ⟨hb1, ty', t, b', o, hq⟩ := hall b hm
      obtain ⟨d, cc, hF, hc⟩ := errQ_some hq
      have hl : look F M b = some (.cells ty' 1 false 1 true d cc) := by
        rw [look_none_M (hr.apart b (by rw [hF]; rfl))]; exact hF
      obtain ⟨_, hbd, obj, ho, arr, fr, rfl, hC⟩ := hr.has _ _ hl
      have hil : i < gs.length := (List.getElem?_eq_some_iff.1 hi).1
      have hn : errN F gs i = b' := by unfold errN; rw [hi]; simp only [hq]
      simp only [hq]
      refine ⟨Nat.lt_of_lt_of_le hb1 (Nat.le_add_right _ _), ?_, _, by rw [hgl b hb1, ← (hglob b hb1).1]; exact ho, arr, fr, rfl, ?_, ?_, ?_, fun hh => by cases hh⟩
      · intro k v hv
        rw [cell_eq] at hv
        split at hv
        · obtain rfl : k = 0 := by omega
          obtain rfl := Option.some.inj hv
          show 1000 + i < 1000 + gs.length
          omega
        · cases hv
      · intro k v hv
        rw [cell_eq] at hv
        split at hv
        · obtain rfl : k = 0 := by omega
          obtain rfl := Option.some.inj hv
          have := hC.cell 0 _ hc
          rw [(errE_ext E F gs).β b hb1, this]
          show some (Value.iface t (.pointer (some ⟨E.ρ b', E.β b' + o, none⟩))) = some (Value.iface t (.pointer (some ⟨(errE E F gs).ρ (1000 + i), (errE E F gs).β (1000 + i) + o, none⟩)))
          have e1 : (errE E F gs).ρ (1000 + i) = E.ρ b' := by
            show (if 1000 + i < 1000 then _ else E.ρ (errN F gs (1000 + i - 1000))) = _
            rw [if_neg (by omega), show 1000 + i - 1000 = i by omega, hn]
          have e2 : (errE E F gs).β (1000 + i) = E.β b' := by
            show (if 1000 + i < 1000 then _ else E.β (errN F gs (1000 + i - 1000))) = _
            rw [if_neg (by omega), show 1000 + i - 1000 = i by omega, hn]
          rw [e1, e2]
        · cases hv
      · have := hC.size
        show arr.size = (errE E F gs).β b + 1 + (errE E F gs).κ b * _
        rw [(errE_ext E F gs).β b hb1, (errE_ext E F gs).κ b hb1]
        exact this
      · rw [(errE_ext E F gs).β b hb1]; exact hC.free
  · intro b b' h1 h2 e
    have lt : ∀ x, (look (errF (tabF L ty) (fun g => match errQ F g with | some (ty, t, _, o) => (ty, t, o) | none => (0, 0, 0)) gs 1000) .e x).isSome → x < 1000 := by
      intro x hx
      obtain ⟨y, hy⟩ := Option.isSome_iff_exists.1 hx
      rw [look_none_M (show (Tr.e : Mem).get x = none from rfl)] at hy
      rcases errF_get hy with hy | ⟨i, hi, _⟩
      · exact (hT.has x y (by rw [look_none_M (show (Tr.e : Mem).get x = none from rfl)]; exact hy)).1
      · exact (hall x (List.mem_of_getElem? hi)).1
    rw [hgl b (lt b h1), hgl b' (lt b' h2)] at e
    exact e
noncomputable def knownE (L : List Tab) (gs : List Nat) : RO → List V → Mem → Nat → RC := fun F args M ct => match args with | [] => bif tabsIn F L && errsIn F gs then .k (.b true) M ct else .f | _ => .f
theorem knownE_nil {F : RO} {L : List Tab} {gs : List Nat} (h : tabsIn F L = true) (h' : errsIn F gs = true) (M : Mem) (c : Nat) : knownE L gs F [] M c = .k (.b true) M c := by
  show (bif tabsIn F L && errsIn F gs then RC.k (.b true) M c else .f) = _
  rw [h, h']; rfl
noncomputable def runE (Φ : Nat → Option CF) (fuel : Nat) (F : RO) (f n : Nat) : RC := callC (exec Φ fuel) F f [] .e n (Φ f)
theorem orc_closed_errs {P : Program} (hm : P.follows .mixedOrders = true) {Φ : Nat → Option CF} (hΦ : PhiOk P Φ) {fuel f n : Nat} {L : List Tab} {gs : List Nat} (hn : 1000 + gs.length = n) (h : ∀ ty q, isT (runE Φ fuel (errF (tabF L ty) q gs 1000) f n) = true) :
    OrcOk P f (knownE L gs) := by
  subst hn
  intro F args M ct v N ct' hg E c w hr hglob hbig hf ha
  cases args with
  | cons a r => cases hg
  | nil =>
    have hg' : (bif tabsIn F L && errsIn F gs then RC.k (.b true) M ct else .f) = .k v N ct' := hg
    cases ht : tabsIn F L && errsIn F gs with
    | false => rw [ht] at hg'; cases hg'
    | true =>
      rw [ht] at hg'
      rw [Bool.and_eq_true] at ht
      have hg2 : RC.k (.b true) M ct = .k v N ct' := hg'
      injection hg2 with e1 e2 e3
      subst e1 e2 e3
      obtain ⟨ty, q, hrel⟩ := rel_errs hr hglob ht.1 ht.2
      obtain ⟨M', ct2, hk⟩ := isT_some (h ty q)
      have hgl : ∀ g, g < 1000 → (errE E F gs).ρ g = g ∧ (errE E F gs).β g = 0 := fun g hg => ⟨((errE_ext E F gs).ρ g hg).trans (hglob g hg).1, ((errE_ext E F gs).β g hg).trans (hglob g hg).2⟩
      obtain ⟨fn, h1, h2, h3, hC⟩ := callOk_of (rd := none) (fn := 0) (F₀ := []) hΦ (exec_sound hm hΦ fuel) (errF (tabF L ty) q gs 1000) f [] .e (1000 + gs.length) (.b true) M' ct2 hk (errE E F gs) (fun x => x < 1000 + gs.length) w hrel hgl (fun g hg => Nat.lt_of_lt_of_le hg (Nat.le_add_right _ _)) (fun b hb hc => Nat.lt_irrefl _ (Nat.lt_of_lt_of_le hc hb)) trivial
      refine ⟨fn, h1, h2, h3, hC.mono ?_⟩
      rintro e w' ⟨E', c', rfl, hS, hb, hG⟩
      have hfr : ∀ r, r < w.heap.size → w'.heap[r]? = w.heap[r]? := fun r hr' => hS.frame r hr' (fun b hb => by cases hb)
      have hhas : ∀ b blk, look F M b = some blk → c b ∧ bdBlk c blk ∧ ∃ o, w'.heap[E.ρ b]? = some o ∧ BlkRel P E b blk o := by
        intro b blk hb
        obtain ⟨g1, g2, o, ho, g3⟩ := hr.has b blk hb
        exact ⟨g1, g2, o, by rw [hfr _ (Array.getElem?_eq_some_iff.1 ho).1]; exact ho, g3⟩
      exact ⟨E, c, rfl, ⟨.refl c E, fun _ h => h, ⟨hhas, hr.inj, hr.apart⟩, fun b hb => .inl ⟨b, hb, rfl⟩, fun r hr' _ => hfr r hr', hS.size, hS.os, hS.output, hS.tape⟩, trivial, .refl _ _⟩
theorem errQ_of {P : Program} {n nm : String} {text : List UInt8} {r : List (String × DataW Unit)} {W : World} {C g : Nat} {ti tp te ts : TypeId} {ms : Array (String × TypeId)} {f : Field}
    (hC : W.heap.size ≤ C) (h : laidMet P ((n, .iface nm (.ptr (.agg [.lit (.string text)]))) :: r) W)
    (hg : P.globalNamed n = some g) (ht : (P.globals[g]?).map (·.type) = some ti) (hi : P.underlying ti = some (.interface ms)) (hrow : ∀ u, P.typeName? 3 u = some nm → u = tp)
    (hp : P.underlying tp = some (.pointer te)) (he : P.underlying te = some (.struct #[f])) (hft : f.type = ts) (hfo : f.offset = 0) (hs : P.underlying ts = some .string) (hc : P.cellsOf te = 1) (hcs : P.cellsOf ts = 1) :
    (errQ (heapF W C) g).isSome = true := by
  obtain ⟨a, s, hv, hca, _, _⟩ := laid_sentinel h hg ht hi hrow hp he hft hfo hs hc hcs
  obtain ⟨rb, o, rfl, hlt⟩ := cell_plain hca
  have hv2 : vOf C (.iface tp (.pointer (some ⟨rb, o, none⟩))) = some (.a tp (.p rb o)) := if_pos (Nat.lt_of_lt_of_le hlt hC)
  unfold World.var? at hv
  rw [hg] at hv
  simp only [Option.bind_some] at hv
  split at hv
  · rename_i cs ty fr hh
    obtain rfl := Option.some.inj hv
    have hcell : cell (#[Value.iface tp (.pointer (some ⟨rb, o, none⟩))]).size [] (optTr ((#[Value.iface tp (.pointer (some ⟨rb, o, none⟩))]).toList.map (vOf C)) 0 .e) 0 = some (.a tp (.p rb o)) := (heap_cell (ty := ty)).2 ⟨_, rfl, hv2⟩
    unfold errQ
    rw [heapF_get]
    have hh' : W.heap[g]? = some (.cells #[Value.iface tp (.pointer (some ⟨rb, o, none⟩))] ty fr) := hh
    rw [hh']
    show Option.isSome (bif Nat.beq 1 1 && Nat.beq 1 1 then (match cell 1 [] (optTr ((#[Value.iface tp (.pointer (some ⟨rb, o, none⟩))]).toList.map (vOf C)) 0 .e) 0 with
      | some (.a t (.p b o)) => some (ty, t, b, o)
      | _ => none) else none) = true
    have hcell' : cell 1 [] (optTr ((#[Value.iface tp (.pointer (some ⟨rb, o, none⟩))]).toList.map (vOf C)) 0 .e) 0 = some (.a tp (.p rb o)) := hcell
    rw [hcell']
    rfl
  · cases hv
end Go.Proofs.YtaigcmdogapjgaaGreatDoor.Ev
namespace Go.Proofs.YtaigcmdogapjgaaGreatDoor.Ev
open Go
section
variable {Φ : Nat → Option CF} {rd : Option Nat} {fn : Nat} {F : RO}
def scopeQ (I : Nat → Nat → St → Prop) (n : Nat) (Q : Ex → St → Prop) : Ex → St → Prop
  | .gto l, s => ∃ m, m < n ∧ I m l s
  | e, s => Q e s
theorem scopeQ_ret (I : Nat → Nat → St → Prop) (n : Nat) (Q : Ex → St → Prop) (s : St) : scopeQ I n Q .ret s = Q .ret s := Eq.trans rfl (Eq.refl _)
theorem wp_scopes {tbl : CC} {Q : Ex → St → Prop} (I : Nat → Nat → St → Prop) (h : ∀ n l s, I n l s → ∃ c, findL l tbl = some c ∧ Wp c (K Φ rd fn F) s (scopeQ I n Q)) :
    ∀ n b s, Wp b (K Φ rd fn F) s (scopeQ I n Q) → Wp (.scope b tbl) (K Φ rd fn F) s Q := by
  intro n
  induction n using Nat.strongRecOn with
  | _ n ih =>
    rintro b s ⟨e, s', he, q⟩
    have h0 : execC (.scope b tbl) (K Φ rd fn F) s = r_scope tbl (K Φ rd fn F) (execC b (K Φ rd fn F) s) := rfl
    cases e with
    | gto l =>
      obtain ⟨m, hm, hI⟩ := q
      obtain ⟨c, hc, hw⟩ := h m l s' hI
      obtain ⟨e2, s2, h2, q2⟩ := ih m hm c s' hw
      refine ⟨e2, s2, ?_, q2⟩
      rw [h0, he]
      show s_jump tbl (K Φ rd fn F) s' (findL l tbl) = _
      rw [hc]
      show again (K Φ rd fn F) (.scope c tbl) s' = _
      rw [← h2]
      exact den_eq Φ rd fn F (.scope c tbl) s'
    | nrm => exact ⟨_, _, by rw [h0, he]; rfl, q⟩
    | ret => exact ⟨_, _, by rw [h0, he]; rfl, q⟩
    | ext id => exact ⟨_, _, by rw [h0, he]; rfl, q⟩
end
end Go.Proofs.YtaigcmdogapjgaaGreatDoor.Ev
namespace Go.Proofs.YtaigcmdogapjgaaGreatDoor.Ev
open Go
section
variable {Φ : Nat → Option CF} {rd : Option Nat} {fn : Nat} {F : RO}
theorem protect_lk {c : Nat} (mask : Nat) : ∀ (reads : List (Nat × Nat)) (F : RO) (M : Mem) (s : List (Nat × Blk)), roFree M F = true → (∀ x, c ≤ x → M.get x = none) →
    ∃ F' M' s2, protect mask reads F M s = Pr.mk F' M' (s2 ++ s) ∧ roFree M' F' = true ∧ (∀ b, look F' M' b = look F M b) ∧ (∀ x, c ≤ x → M'.get x = none) ∧ ∀ N : Mem, (∀ x, x < c → N.get x = M'.get x) → ∀ x, (unprotect s2 N).get x = if x < c then M.get x else N.get x
  | [], F, M, s, h2, h3 => ⟨F, M, [], rfl, h2, fun _ => rfl, h3, fun N hN x => by
      show N.get x = _
      split
      · rename_i h; exact hN x h
      · rfl⟩
  | (i, x) :: r, F, M, s, h2, h3 => by
    rw [protect]
    cases ht : testBit mask i with
    | true => exact protect_lk mask r F M s h2 h3
    | false =>
      show ∃ F' M' s2, (match M.get x with | none => protect mask r F M s | some blk => (M.del x).force fun M => protect mask r ((x, blk) :: F) M ((x, blk) :: s)) = _ ∧ _
      cases hb : M.get x with
      | none => exact protect_lk mask r F M s h2 h3
      | some blk =>
        have hxc : x < c := by
          apply Classical.byContradiction
          intro hx
          rw [h3 x (by omega)] at hb; cases hb
        have hfr : roFree (M.del x) ((x, blk) :: F) = true := by
          rw [roFree_cons, Tr.get_del, if_pos rfl, roFree_del x h2]; rfl
        obtain ⟨F', M', s2, g1, g2, g3, g4, g5⟩ := protect_lk mask r ((x, blk) :: F) (M.del x) ((x, blk) :: s) hfr (fun y hy => by rw [Tr.get_del]; split <;> first | rfl | exact h3 y hy)
        refine ⟨F', M', s2 ++ [(x, blk)], ?_, g2, fun b => ?_, g4, fun N hN z => ?_⟩
        · show ((M.del x).force fun M => protect mask r ((x, blk) :: F) M ((x, blk) :: s)) = _
          rw [Tr.force_eq, g1, List.append_assoc]; rfl
        · rw [g3]
          by_cases e : b = x
          · subst e
            rw [look_some_M hb, look_none_M (by rw [Tr.get_del, if_pos rfl]), roGet_cons, if_pos rfl]
          · cases hM : M.get b with
            | some y => rw [look_some_M hM, look_some_M (by rw [Tr.get_del, if_neg e]; exact hM)]
            | none => rw [look_none_M hM, look_none_M (by rw [Tr.get_del, if_neg e]; exact hM), roGet_cons, if_neg (fun h => e h.symm)]
        · have key : ∀ (s2 : List (Nat × Blk)) (N : Mem), unprotect (s2 ++ [(x, blk)]) N = (unprotect s2 N).set x blk := by
            intro s2
            induction s2 with
            | nil => intro N; show (N.set x blk).force (fun M => M) = _; rw [Tr.force_eq]; rfl
            | cons a s2 ih => intro N; show (N.set a.1 a.2).force (fun M => unprotect (s2 ++ [(x, blk)]) M) = _; rw [Tr.force_eq, ih]; show _ = ((N.set a.1 a.2).force fun M => unprotect s2 M).set x blk; rw [Tr.force_eq]
          rw [key, Tr.get_set, g5 N hN]
          by_cases e1 : z = x
          · subst e1
            rw [if_pos rfl, if_pos hxc, hb]
          · rw [if_neg e1, Tr.get_del, if_neg e1]
theorem wd_ef (base i mask : Nat) (dst : Option Pos) (o : EO) (r : List (Nat × Nat × CO)) (t : T) (M : Mem) (c : Nat) (reads : List (Nat × Nat)) (R : DS → Prop) (ok : Okm F M c)
    (h : ∀ F' M', Okm F' M' c → (∀ b, look F' M' b = look F M b) → RTo (doE o (K Φ rd fn F') M' c t) fun v M2 c2 => Gr c M' c2 M2 ∧ ∀ M3, Gr c M c2 M3 → (∀ x, c ≤ x → M3.get x = M2.get x) → WpD base r (K Φ rd fn F) (.mk (setT t dst v) M3 c2 [] reads) R) :
    WpD base ((i, mask, .mk dst (.e o) none) :: r) (K Φ rd fn F) (.mk t M c [] reads) R := by
  obtain ⟨F', M', s2, g1, g2, g3, g4, g5⟩ := protect_lk (c := c) mask reads F M [] ok.free ok.hiM
  have ok' : Okm F' M' c := by
    refine ⟨g4, fun b hb => ?_, fun b hb => ?_, ok.ge⟩
    · have := g3 b
      rw [look_none_M (g4 b hb), ok.look hb] at this
      exact this
    · have : ∃ blk, (b, blk) ∈ F' := by
        clear g1 g2 g3 g5 h
        induction F' with
        | nil => cases hb
        | cons a F' ih =>
          obtain ⟨k, z⟩ := a
          rw [roGet_cons] at hb
          split at hb
          · rename_i e; have e : k = b := e; exact ⟨z, by rw [e]; exact List.mem_cons_self ..⟩
          · obtain ⟨blk, hm⟩ := ih hb; exact ⟨blk, List.mem_cons_of_mem _ hm⟩
      obtain ⟨blk, hm⟩ := this
      exact roFree_iff F' g2 b blk hm
  obtain ⟨v, M2, c2, hd, hg, hR⟩ := h F' M' ok' g3
  have hun := g5 M2 hg.old
  have he : dOp (K Φ rd fn F) base (i, mask, .mk dst (.e o) none) (.mk t M c [] reads) = some (.mk (setT t dst v) (unprotect s2 M2) c2 [] reads) := by
    show d_e1 o (K Φ rd fn F) dst t c [] reads (protect mask reads F M []) = _
    rw [g1]
    show d_e2 F' dst t [] reads (s2 ++ []) (doE o (K Φ rd fn F') M' c t) = _
    rw [hd, List.append_nil]
    show (bif roFree M2 F' && true then (unprotect s2 M2).force fun M => (setT t dst v).force fun t => some (DS.mk t M c2 [] reads) else none) = _
    rw [(hg.ok ok').free]
    show ((unprotect s2 M2).force fun M => (setT t dst v).force fun t => some (DS.mk t M c2 [] reads)) = _
    rw [Tr.force_eq, Tr.force_eq]
  rw [wd_cons]
  have hle := hg.le
  exact ⟨_, he, hR _ ⟨hle, fun b hb => by rw [hun, if_pos hb], fun b hb => by rw [hun, if_neg (by omega)]; exact hg.new b hb⟩ (fun x hx => by rw [hun, if_neg (by omega)])⟩
theorem load1_lk {F' : RO} {M M' : Mem} (h : ∀ b, look F' M' b = look F M b) (b o : Nat) : load1 F' M' b o = load1 F M b o := by
  show asCells (look F' M' b) none (fun m d c => cell m d c o) = asCells (look F M b) none fun m d c => cell m d c o
  rw [h]
theorem SlAt.lk {F' : RO} {M M' : Mem} {c sz : Nat} {v : V} {es : List (List V)} (h : ∀ b, look F' M' b = look F M b) (hs : SlAt F M c sz v es) : SlAt F' M' c sz v es := by
  obtain ⟨h0, h1 | ⟨b, o, h1, h2, h3⟩⟩ := hs
  · exact ⟨h0, .inl h1⟩
  · exact ⟨h0, .inr ⟨b, o, h1, h2, fun k hk => by rw [load1_lk h]; exact h3 k hk⟩⟩
end
end Go.Proofs.YtaigcmdogapjgaaGreatDoor.Ev
namespace Go.Proofs.YtaigcmdogapjgaaGreatDoor.Ev
open Go
section
variable {Φ : Nat → Option CF} {rd : Option Nat} {fn : Nat} {F : RO}
end
end Go.Proofs.YtaigcmdogapjgaaGreatDoor.Ev
namespace Go.Proofs.YtaigcmdogapjgaaGreatDoor.Ev
open Go
section
variable {Φ : Nat → Option CF} {rd : Option Nat} {fn : Nat} {F : RO}
structure GrX (h : Nat → Prop) (c : Nat) (M : Mem) (c' : Nat) (M' : Mem) : Prop where
  le : c ≤ c'
  old : ∀ b, b < c → ¬ h b → M'.get b = M.get b
  new : ∀ b, c' ≤ b → M'.get b = none
theorem GrX.of {h : Nat → Prop} {c c' : Nat} {M M' : Mem} (g : Gr c M c' M') : GrX h c M c' M' := ⟨g.le, fun b hb _ => g.old b hb, g.new⟩
theorem GrX.trans {h : Nat → Prop} {M M1 M2 : Mem} {c c1 c2 : Nat} (g : GrX h c M c1 M1) (g2 : GrX h c1 M1 c2 M2) : GrX h c M c2 M2 :=
  ⟨Nat.le_trans g.le g2.le, fun b hb hn => (g2.old b (Nat.lt_of_lt_of_le hb g.le) hn).trans (g.old b hb hn), g2.new⟩
theorem GrX.gr {h : Nat → Prop} {M M1 : Mem} {c0 c c1 : Nat} (g : GrX h c M c1 M1) (h0 : c0 ≤ c) (hh : ∀ b, b < c0 → ¬ h b) : Gr c0 M c1 M1 :=
  ⟨Nat.le_trans h0 g.le, fun b hb => g.old b (by omega) (hh b hb), g.new⟩
theorem GrX.set {h : Nat → Prop} {M : Mem} {c b : Nat} (ok : Okm F M c) (hb : b < c) (hh : h b) (x : Blk) : GrX h c M c (M.set b x) :=
  ⟨Nat.le_refl _, fun b' _ hn => get_ne _ _ fun e => hn (by rw [e]; exact hh), fun b' hb' => by rw [get_ne _ _ (by omega)]; exact ok.hiM b' hb'⟩
theorem GrX.ok {h : Nat → Prop} {M M1 : Mem} {c c1 : Nat} (g : GrX h c M c1 M1) (ho : Okm F M c) (hh : ∀ b, b < c → h b → ∃ x, M.get b = some x) : Okm F M1 c1 := by
  refine ⟨g.new, fun b hb => ho.hiF b (Nat.le_trans g.le hb), fun b hb => ?_, Nat.le_trans ho.ge g.le⟩
  have hlt : b < c := by
    by_cases hc : b < c
    · exact hc
    · rw [ho.hiF b (by omega)] at hb; cases hb
  rw [g.old b hlt fun hx => ?_]
  · exact ho.ap b hb
  · obtain ⟨x, hx⟩ := hh b hlt hx
    rw [ho.ap b hb] at hx; cases hx
end
end Go.Proofs.YtaigcmdogapjgaaGreatDoor.Ev
namespace Go.Proofs.YtaigcmdogapjgaaGreatDoor.Ev
open Go
theorem orc_den_errs {P : Program} (hm : P.follows .mixedOrders = true) {Φ : Nat → Option CF} (hΦ : PhiOk P Φ) {f n : Nat} {L : List Tab} {gs : List Nat} (hn : 1000 + gs.length = n)
    (h : ∀ ty q, Calls Φ (errF (tabF L ty) q gs 1000) f [] .e n fun r _ _ => r = .b true) : OrcOk P f (knownE L gs) := by
  subst hn
  intro F args M ct v N ct' hg E c w hr hglob hbig hf ha
  cases args with
  | cons a r => cases hg
  | nil =>
    have hg' : (bif tabsIn F L && errsIn F gs then RC.k (.b true) M ct else .f) = .k v N ct' := hg
    cases ht : tabsIn F L && errsIn F gs with
    | false => rw [ht] at hg'; cases hg'
    | true =>
      rw [ht] at hg'
      rw [Bool.and_eq_true] at ht
      have hg2 : RC.k (.b true) M ct = .k v N ct' := hg'
      injection hg2 with e1 e2 e3
      subst e1 e2 e3
      obtain ⟨ty, q, hrel⟩ := rel_errs hr hglob ht.1 ht.2
      obtain ⟨v2, M', ct2, hk, rfl⟩ := h ty q
      have hgl : ∀ g, g < 1000 → (errE E F gs).ρ g = g ∧ (errE E F gs).β g = 0 := fun g hg => ⟨((errE_ext E F gs).ρ g hg).trans (hglob g hg).1, ((errE_ext E F gs).β g hg).trans (hglob g hg).2⟩
      obtain ⟨fn, h1, h2, h3, hC⟩ := callOk_of (rd := none) (fn := 0) (F₀ := []) hΦ (den_ok hm hΦ) (errF (tabF L ty) q gs 1000) f [] .e (1000 + gs.length) (.b true) M' ct2 hk (errE E F gs) (fun x => x < 1000 + gs.length) w hrel hgl (fun g hg => Nat.lt_of_lt_of_le hg (Nat.le_add_right _ _)) (fun b hb hc => Nat.lt_irrefl _ (Nat.lt_of_lt_of_le hc hb)) trivial
      refine ⟨fn, h1, h2, h3, hC.mono ?_⟩
      rintro e w' ⟨E', c', rfl, hS, hb, hG⟩
      have hfr : ∀ r, r < w.heap.size → w'.heap[r]? = w.heap[r]? := fun r hr' => hS.frame r hr' (fun b hb => by cases hb)
      have hhas : ∀ b blk, look F M b = some blk → c b ∧ bdBlk c blk ∧ ∃ o, w'.heap[E.ρ b]? = some o ∧ BlkRel P E b blk o := by
        intro b blk hb
        obtain ⟨g1, g2, o, ho, g3⟩ := hr.has b blk hb
        exact ⟨g1, g2, o, by rw [hfr _ (Array.getElem?_eq_some_iff.1 ho).1]; exact ho, g3⟩
      exact ⟨E, c, rfl, ⟨.refl c E, fun _ h => h, ⟨hhas, hr.inj, hr.apart⟩, fun b hb => .inl ⟨b, hb, rfl⟩, fun r hr' _ => hfr r hr', hS.size, hS.os, hS.output, hS.tape⟩, trivial, .refl _ _⟩
theorem wp_run {Φ : Nat → Option CF} {fuel : Nat} {rd : Option Nat} {fn : Nat} {F : RO} {cc : CC} {s s1 : St} {e : Ex} {Q : Ex → St → Prop} (h : exec Φ fuel rd fn F cc s = .k e s1) (hq : Q e s1) : Wp cc (K Φ rd fn F) s Q := by
  refine ⟨e, s1, ?_, hq⟩
  have hd : den Φ rd fn F cc s = .k e s1 := by rw [den_of (n := fuel) (by rw [h]; exact fun h => by cases h), h]
  rw [← hd]; exact (den_eq Φ rd fn F cc s).symm
noncomputable def runS (Φ : Nat → Option CF) (fuel fn : Nat) (F : RO) (cc : CC) (s : Option St) : Option St := match s with
  | some s => (match exec Φ fuel none fn F cc s with
    | .k .nrm s1 => some s1
    | _ => none)
  | none => none
theorem runS_some {Φ : Nat → Option CF} {fuel fn : Nat} {F : RO} {cc : CC} {s : Option St} {s1 : St} (h : runS Φ fuel fn F cc s = some s1) : ∃ s0, s = some s0 ∧ ∀ Q : Ex → St → Prop, Q .nrm s1 → Wp cc (K Φ none fn F) s0 Q := by
  cases s with
  | none => cases h
  | some s0 =>
    refine ⟨s0, rfl, fun Q hq => ?_⟩
    unfold runS at h
    simp only at h
    split at h
    · rename_i s2 hx
      obtain rfl := Option.some.inj h
      exact wp_run hx hq
    · cases h
noncomputable def E1 (E : Env) (b : Nat) : Env := ⟨fun x => if x < 1000 then x else E.ρ b, fun x => if x < 1000 then 0 else E.β b, fun x => if x < 1000 then 0 else E.κ b⟩
theorem ext_no (E E' : Env) : Ext (fun _ => False) E E' := ⟨fun _ h => h.elim, fun _ h => h.elim, fun _ h => h.elim⟩
theorem blk_at {P : Program} {E E' : Env} {b b' ty n fz : Nat} {ex str : Bool} {d : List V} {t : T} {o : Obj} (h : BlkRel P E b (.cells ty n ex fz str d t) o) (hβ : E'.β b' = E.β b) (hκ : E'.κ b' = E.κ b) (hbd : bdBlk (fun _ => False) (.cells ty n ex fz str d t)) : BlkRel P E' b' (.cells ty n ex fz str d t) o := by
  obtain ⟨arr, fr, rfl, hC⟩ := h
  refine ⟨arr, fr, rfl, ⟨fun k v hk => ?_, ?_, ?_, ?_⟩⟩
  · rw [hβ, conc_ext (ext_no E E') v (hbd k v hk)]; exact hC.cell k v hk
  · rw [hβ, hκ]; exact hC.size
  · rw [hβ]; exact hC.free
  · rw [hβ]; exact hC.plain
theorem E1_at (E : Env) (b : Nat) : (E1 E b).ρ 1000 = E.ρ b ∧ (E1 E b).β 1000 = E.β b ∧ (E1 E b).κ 1000 = E.κ b := by
  refine ⟨?_, ?_, ?_⟩ <;> simp [E1]
theorem rel_at {P : Program} {E : Env} {F : RO} {M : Mem} {c : Nat → Prop} {w : World} {b ty n fz : Nat} {ex str : Bool} {d : List V} {t : T} (hr : Rel P E F M c w) (hb : M.get b = some (.cells ty n ex fz str d t)) (hbd : bdBlk (fun _ => False) (.cells ty n ex fz str d t)) :
    Rel P (E1 E b) [] (Tr.set .e 1000 (.cells ty n ex fz str d t)) (fun x => x < 1001) w := by
  have hget : ∀ x blk, look [] (Tr.set (.e : Mem) 1000 (.cells ty n ex fz str d t)) x = some blk → x = 1000 ∧ blk = .cells ty n ex fz str d t := by
    intro x blk hx
    by_cases e : x = 1000
    · subst e
      rw [look_some_M (get_same _ _ _)] at hx
      exact ⟨rfl, (Option.some.inj hx).symm⟩
    · rw [look_none_M ((get_ne _ _ e).trans rfl)] at hx; cases hx
  obtain ⟨_, _, o, ho, hB⟩ := hr.has b _ (look_some_M hb)
  refine ⟨fun x blk hx => ?_, fun x y hx hy _ => ?_, fun x hx => by cases hx⟩
  · obtain ⟨rfl, rfl⟩ := hget x blk hx
    refine ⟨show 1000 < 1001 by omega, bdBlk_mono (fun _ h => h.elim) _ hbd, o, ?_, blk_at hB (E1_at E b).2.1 (E1_at E b).2.2 hbd⟩
    rw [(E1_at E b).1]; exact ho
  · obtain ⟨a, ha⟩ := Option.isSome_iff_exists.1 hx
    obtain ⟨a', ha'⟩ := Option.isSome_iff_exists.1 hy
    exact (hget x a ha).1.trans (hget y a' ha').1.symm
open Classical in
noncomputable def atO (k : Nat) (row : Blk) (fv v : V) : RO → List V → Mem → Nat → RC := fun _ args M ct => if ∃ b, args = [.u b 0 k 0 k, fv] ∧ M.get b = some row then .k v M ct else .f
theorem atO_eq {k b : Nat} {row : Blk} {fv v : V} {F : RO} {M : Mem} {ct : Nat} (h : M.get b = some row) : atO k row fv v F [.u b 0 k 0 k, fv] M ct = .k v M ct := if_pos ⟨b, rfl, h⟩
theorem orc_at {P : Program} (hm : P.follows .mixedOrders = true) {Φ : Nat → Option CF} (hΦ : PhiOk P Φ) {fuel f k ty n fz : Nat} {ex str : Bool} {d : List V} {t : T} {fv v : V} (hfv : bd (fun _ => False) fv) (hv : bd (fun _ => False) v) (hbd : bdBlk (fun _ => False) (.cells ty n ex fz str d t))
    (h : ∃ M1 c1, callC (exec Φ fuel) [] f [.u 1000 0 k 0 k, fv] (Tr.set .e 1000 (.cells ty n ex fz str d t)) 1001 (Φ f) = .k v M1 c1 ∧ M1.get 1000 = some (.cells ty n ex fz str d t)) : OrcOk P f (atO k (.cells ty n ex fz str d t) fv v) := by
  intro F args M ct v' N ct' hg E c w hr hglob hbig hf ha
  unfold atO at hg
  split at hg
  · rename_i hx
    injection hg with e1 e2 e3
    subst e1 e2 e3
    obtain ⟨b, rfl, hb⟩ := hx
    obtain ⟨M1, c1, hrun, h1⟩ := h
    obtain ⟨fn, g1, g2, g3, hC⟩ := callOk_of (rd := none) (fn := 0) (F₀ := []) hΦ (exec_sound hm hΦ fuel) [] f _ _ 1001 v M1 c1 hrun (E1 E b) (fun x => x < 1001) w (rel_at hr hb hbd) (fun g hg => ⟨if_pos hg, if_pos hg⟩) (fun g hg => by show g < 1001; omega) (fun x hx hc => by have : x < 1001 := hc; omega) ⟨show 1000 < 1001 by omega, bd_mono (fun _ h => h.elim) _ hfv, trivial⟩
    obtain ⟨r1, r2, r3⟩ := E1_at E b
    have hargs : concs (E1 E b) [.u 1000 0 k 0 k, fv] = concs E [.u b 0 k 0 k, fv] := by
      show [conc (E1 E b) (.u 1000 0 k 0 k), conc (E1 E b) fv] = [conc E (.u b 0 k 0 k), conc E fv]
      rw [conc_ext (ext_no E (E1 E b)) fv hfv]
      simp only [conc, r1, r2, r3]
    rw [hargs] at hC
    refine ⟨fn, g1, g2, g3, hC.mono ?_⟩
    rintro e w' ⟨E', c', rfl, hS, hb', hG⟩
    have l1 : (1000 : Nat) < 1001 := by omega
    have hρ : E'.ρ 1000 = E.ρ b := (hS.ext.ρ 1000 l1).trans r1
    have hβ : E'.β 1000 = E.β b := (hS.ext.β 1000 l1).trans r2
    have hκ : E'.κ 1000 = E.κ b := (hS.ext.κ 1000 l1).trans r3
    have hfr : ∀ r, r < w.heap.size → E.ρ b ≠ r → w'.heap[r]? = w.heap[r]? := fun r hr' hne => hS.frame r hr' fun x hx => by
      have : x = 1000 := by
        by_cases e : x = 1000
        · exact e
        · rw [get_ne _ _ e] at hx; cases hx
      subst this
      rw [r1]; exact hne
    have hhas : ∀ x blk, look F M x = some blk → c x ∧ bdBlk c blk ∧ ∃ o, w'.heap[E.ρ x]? = some o ∧ BlkRel P E x blk o := by
      intro x blk hx
      obtain ⟨k1, k2, o, ho, k3⟩ := hr.has x blk hx
      by_cases e : E.ρ b = E.ρ x
      · have hxb : x = b := hr.inj x b (by rw [hx]; rfl) (by rw [look_some_M hb]; rfl) e.symm
        subst hxb
        rw [look_some_M hb] at hx
        obtain rfl := Option.some.inj hx
        obtain ⟨_, _, o', ho', hB'⟩ := hS.rel.has 1000 _ (look_some_M h1)
        rw [hρ] at ho'
        exact ⟨k1, k2, o', ho', blk_at hB' hβ.symm hκ.symm hbd⟩
      · exact ⟨k1, k2, o, by rw [hfr _ (Array.getElem?_eq_some_iff.1 ho).1 e]; exact ho, k3⟩
    refine ⟨E, c, by rw [conc_ext (ext_no E E') v hv], ⟨.refl c E, fun _ h => h, ⟨hhas, hr.inj, hr.apart⟩, fun b hb => .inl ⟨b, hb, rfl⟩, fun r hr' hn => hfr r hr' (hn b (by rw [hb]; rfl)), hS.size, hS.os, hS.output, hS.tape⟩, bd_mono (fun _ h => h.elim) _ hv, .refl _ _⟩
  · cases hg
noncomputable def elseO (Φ : Nat → Option CF) (fuel f : Nat) (q : List V → Bool) (g : RO → List V → Mem → Nat → RC) : RO → List V → Mem → Nat → RC := fun F args M ct => bif q args then g F args M ct else callC (exec Φ fuel) F f args M ct (Φ f)
theorem orc_else {P : Program} (hm : P.follows .mixedOrders = true) {Φ : Nat → Option CF} (hΦ : PhiOk P Φ) {fuel f : Nat} {q : List V → Bool} {g : RO → List V → Mem → Nat → RC} (hg : OrcOk P f g) : OrcOk P f (elseO Φ fuel f q g) := by
  intro F args M ct v N ct' h
  unfold elseO at h
  cases hq : q args with
  | true =>
    rw [hq, cond_true] at h
    exact hg F args M ct v N ct' h
  | false =>
    rw [hq, cond_false] at h
    exact callOk_of (rd := none) (fn := 0) (F₀ := []) hΦ (exec_sound hm hΦ fuel) F f args M ct v N ct' h
end Go.Proofs.YtaigcmdogapjgaaGreatDoor.Ev
namespace Go.Proofs.YtaigcmdogapjgaaGreatDoor.Ev
open Go
theorem setParams_two (p q : Pos) (x y : V) (t : T) : setParams [p, q] [x, y] t = some ((t.setP p x).setP q y) := by
  show (t.setP p x).force (fun t => (t.setP q y).force fun t => some t) = _
  rw [Tr.force_eq, Tr.force_eq]
end Go.Proofs.YtaigcmdogapjgaaGreatDoor.Ev
set_option maxRecDepth 10000
set_option maxHeartbeats 4000000
namespace Go.Proofs.YtaigcmdogapjgaaGreatDoor.Ev
open Go
noncomputable def b106_1 : CC := (.reg [(qq a4 (.mv (x6 0)))])
noncomputable def b106_2 : CC := (.reg [(qq a5 (.mv z0)), (qq a6 (.mv z1)), (qq a7 (.xib z5 z6)), (qq a4 (.mv z7))])
noncomputable def c106 : CF := .mk 4 [.t a4] (.seq b106_1 (.seq b106_2 .ret))
theorem e106 (v0 v1 : V) : argTr 4 [v0, v1] = (.n (.n sk2 (some v1) sk2) (some v0) sk3) := rfl
def B106 := ai @e106 (ai (wu b106_1.eq_1) (wu b106_2.eq_1))
noncomputable def b83_1 : CC := (.reg [(qq a4 (.mv (x6 0)))])
noncomputable def b83_2 : CC := (.reg [(qq a14 (.mv z1)), (qq a15 (.ln .str z14)), (qq a5 (.mv z15))])
noncomputable def b83_3 : CC := (.reg [(qq a17 (.mv z5)), (qq a18 (.bi .eql z17 (x6 0))), (qq a19 (.mv z18)), ⟨(some a20), .q (.mv z1), (some (a19, false))⟩, ⟨(some a21), .q (.mv z0), (some (a19, false))⟩, ⟨(some a22), .q (.bi .eql z20 z21), (some (a19, false))⟩, (qq a23 (.pk z19 xT z22)), (qq a16 (.mv z23))])
noncomputable def b83_4 : CC := (.reg [(qq a4 (.mv (x6 0)))])
noncomputable def b83_5 : CC := (.reg [(qq a25 (.mv z5)), (qq a26 (.bi .eql z25 (x6 1))), (qq a24 (.mv z26))])
noncomputable def b83_6 : CC := (.reg [(qq a27 (.mv z0)), (qq a28 (.mv z1)), (qq a29 (.ixS z28 (x6 0))), (ee a30 (.call 106 [z27, z29])), (qq a4 (.mv z30))])
noncomputable def b83_7 : CC := (.reg [(qq a32 (.mv z5)), (qq a33 (.mv z0)), (qq a34 (.ln .str z33)), (qq a35 (.bi .geq z32 z34)), (qq a31 (.mv z35))])
noncomputable def b83_8 : CC := (.reg [(qq a4 (.mv (x6 (-1))))])
noncomputable def b83_9 : CC := (.reg [(qq a37 (.mv z5)), (qq a38 (.ld1 (.c (.p 0 0)))), (qq a39 (.bi .leq z37 z38)), (qq a40 (.mv z39)), ⟨(some a41), .q (.mv z0), (some (a40, true))⟩, ⟨(some a42), .q (.ln .str z41), (some (a40, true))⟩, ⟨(some a43), .q (.bi .leq z42 (x6 64)), (some (a40, true))⟩, (qq a44 (.pk z40 z43 xF)), (qq a36 (.mv z44))])
noncomputable def b83_10 : CC := (.reg [(qq a45 (.mv z0)), (qq a46 (.mv z1)), (qq a47 (.bad)), (qq a4 (.mv z47))])
noncomputable def b83_11 : CC := (.cond z36 (.seq b83_10 .ret) .skip)
noncomputable def b83_12 : CC := (.cond z31 (.seq b83_8 .ret) (.seq b83_9 b83_11))
noncomputable def b83_13 : CC := (.cond z24 (.seq b83_6 .ret) (.seq b83_7 b83_12))
noncomputable def b83_14 : CC := (.cond z16 (.seq b83_4 .ret) (.seq b83_5 b83_13))
noncomputable def b83_15 : CC := (.reg [(qq a48 (.mv z1)), (qq a49 (.ixS z48 (x6 0))), (qq a6 (.mv z49))])
noncomputable def b83_16 : CC := (.reg [(qq a50 (.mv z1)), (qq a51 (.ixS z50 (x6 1))), (qq a7 (.mv z51))])
noncomputable def b83_17 : CC := (.reg [(qq a8 (.mv (x6 0)))])
noncomputable def b83_18 : CC := (.reg [(qq a52 (.mv z0)), (qq a53 (.ln .str z52)), (qq a54 (.mv z5)), (qq a55 (.bi .sub z53 z54)), (qq a56 (.bi .add z55 (x6 1))), (qq a9 (.mv z56))])
noncomputable def b83_19 : CC := (.reg [(qq a10 (.mv (x6 0)))])
noncomputable def b83_20 : CC := (.reg [(qq a57 (.mv z8)), (qq a58 (.mv z9)), (qq a59 (.bi .lss z57 z58))])
noncomputable def b83_21 : CC := (.seq b83_20 (.cond z59 .skip (.exit 1)))
noncomputable def b83_22 : CC := (.reg [(qq a60 (.mv z0)), (qq a61 (.mv z8)), (qq a62 (.ixS z60 z61)), (qq a63 (.mv z6)), (qq a64 (.bi .neq z62 z63))])
noncomputable def b83_23 : CC := (.reg [(qq a65 (.mv z0)), (qq a66 (.mv z8)), (qq a67 (.bi .add z66 (x6 1))), (qq a68 (.mv z9)), (qq a69 (.slS z65 (some z67) (some z68))), (qq a70 (.mv z6)), (ee a71 (.call 106 [z69, z70])), (qq a11 (.mv z71))])
noncomputable def b83_24 : CC := (.reg [(qq a72 (.mv z11)), (qq a73 (.bi .lss z72 (x6 0)))])
noncomputable def b83_25 : CC := (.reg [(qq a4 (.mv (x6 (-1))))])
noncomputable def b83_26 : CC := (.cond z73 (.seq b83_25 .ret) .skip)
noncomputable def b83_27 : CC := (.reg [(qq a74 (.mv z8)), (qq a75 (.mv z11)), (qq a76 (.bi .add z75 (x6 1))), (qq a77 (.bi .add z74 z76)), (qq a8 (.mv z77))])
noncomputable def b83_28 : CC := (.cond z64 (.seq b83_23 (.seq (.seq b83_24 b83_26) b83_27)) .skip)
noncomputable def b83_29 : CC := (.reg [(qq a78 (.mv z0)), (qq a79 (.mv z8)), (qq a80 (.bi .add z79 (x6 1))), (qq a81 (.ixS z78 z80)), (qq a82 (.mv z7)), (qq a83 (.bi .eql z81 z82)), (qq a84 (.mv z83)), ⟨(some a85), .q (.mv z0), (some (a84, true))⟩, ⟨(some a86), .q (.mv z8), (some (a84, true))⟩, ⟨(some a87), .q (.mv z8), (some (a84, true))⟩, ⟨(some a88), .q (.mv z5), (some (a84, true))⟩, ⟨(some a89), .q (.bi .add z87 z88), (some (a84, true))⟩, ⟨(some a90), .q (.slS z85 (some z86) (some z89)), (some (a84, true))⟩, ⟨(some a91), .q (.mv z1), (some (a84, true))⟩, ⟨(some a92), .q (.bi .eql z90 z91), (some (a84, true))⟩, (qq a93 (.pk z84 z92 xF))])
noncomputable def b83_30 : CC := (.reg [(qq a94 (.mv z8)), (qq a4 (.mv z94))])
noncomputable def b83_31 : CC := (.cond z93 (.seq b83_30 .ret) .skip)
noncomputable def b83_32 : CC := (.reg [(qq a95 (.mv z8)), (qq a96 (.bi .add z95 (x6 1))), (qq a8 (.mv z96))])
noncomputable def b83_33 : CC := (.reg [(qq a97 (.mv z10)), (qq a98 (.bi .add z97 (x6 1))), (qq a10 (.mv z98))])
noncomputable def b83_34 : CC := (.reg [(qq a99 (.mv z5)), (qq a100 (.ld1 (.c (.p 0 0)))), (qq a101 (.bi .leq z99 z100)), (qq a102 (.mv z101)), ⟨(some a103), .q (.mv z10), (some (a102, true))⟩, ⟨(some a104), .q (.mv z8), (some (a102, true))⟩, ⟨(some a105), .e (.call 108 [z104]), (some (a102, true))⟩, ⟨(some a106), .q (.bi .gtr z103 z105), (some (a102, true))⟩, (qq a107 (.pk z102 z106 xF))])
noncomputable def b83_35 : CC := (.reg [(qq a108 (.mv z0)), (qq a109 (.mv z8)), (qq a110 (.slS z108 (some z109) none)), (qq a111 (.mv z1)), (qq a112 (.bad)), (qq a12 (.mv z112))])
noncomputable def b83_36 : CC := (.reg [(qq a113 (.mv z12)), (qq a114 (.bi .geq z113 (x6 0)))])
noncomputable def b83_37 : CC := (.reg [(qq a115 (.mv z12)), (qq a116 (.mv z8)), (qq a117 (.bi .add z115 z116)), (qq a4 (.mv z117))])
noncomputable def b83_38 : CC := (.cond z114 (.seq b83_37 .ret) .skip)
noncomputable def b83_39 : CC := (.reg [(qq a4 (.mv (x6 (-1))))])
noncomputable def b83_40 : CC := (.seq b83_35 (.seq (.seq b83_36 b83_38) (.seq b83_39 .ret)))
noncomputable def b83_41 : CC := (.reg [(qq a118 (.mv z5)), (qq a119 (.ld1 (.c (.p 0 0)))), (qq a120 (.bi .gtr z118 z119)), (qq a121 (.mv z120)), ⟨(some a122), .q (.mv z10), (some (a121, true))⟩, ⟨(some a123), .q (.mv z8), (some (a121, true))⟩, ⟨(some a124), .q (.bi .shr z123 (.c (.i .u64 4))), (some (a121, true))⟩, ⟨(some a125), .q (.bi .add (x6 4) z124), (some (a121, true))⟩, ⟨(some a126), .q (.bi .geq z122 z125), (some (a121, true))⟩, (qq a127 (.pk z121 z126 xF)), (qq a128 (.mv z127)), ⟨(some a129), .q (.mv z8), (some (a128, true))⟩, ⟨(some a130), .q (.mv z9), (some (a128, true))⟩, ⟨(some a131), .q (.bi .lss z129 z130), (some (a128, true))⟩, (qq a132 (.pk z128 z131 xF))])
noncomputable def b83_42 : CC := (.reg [(qq a133 (.mv z0)), (qq a134 (.mv z8)), (qq a135 (.slS z133 (some z134) none)), (qq a136 (.mv z1)), (ee a137 (.call 109 [z135, z136])), (qq a13 (.mv z137))])
noncomputable def b83_43 : CC := (.reg [(qq a138 (.mv z13)), (qq a139 (.bi .lss z138 (x6 0)))])
noncomputable def b83_44 : CC := (.reg [(qq a4 (.mv (x6 (-1))))])
noncomputable def b83_45 : CC := (.cond z139 (.seq b83_44 .ret) .skip)
noncomputable def b83_46 : CC := (.reg [(qq a140 (.mv z8)), (qq a141 (.mv z13)), (qq a142 (.bi .add z140 z141)), (qq a4 (.mv z142))])
noncomputable def b83_47 : CC := (.seq b83_42 (.seq (.seq b83_43 b83_45) (.seq b83_46 .ret)))
noncomputable def b83_48 : CC := (.cond z132 b83_47 .skip)
noncomputable def b83_49 : CC := (.cond z107 b83_40 (.seq b83_41 b83_48))
noncomputable def b83_50 : CC := (.seq (.seq b83_29 b83_31) (.seq b83_32 (.seq b83_33 (.seq b83_34 b83_49))))
noncomputable def b83_51 : CC := (.loop (.seq b83_21 (.block 2 (.seq (.seq b83_22 b83_28) b83_50))))
noncomputable def b83_52 : CC := (.reg [(qq a4 (.mv (x6 (-1))))])
noncomputable def b83_53 : CC := (.seq b83_18 (.seq b83_19 (.seq (.block 1 b83_51) (.seq b83_52 .ret))))
noncomputable def b83_54 : CC := (.seq (.block 0 (.seq b83_3 b83_14)) (.seq b83_15 (.seq b83_16 (.seq b83_17 b83_53))))
noncomputable def c83 : CF := .mk 8 [.t a4] (.seq b83_1 (.seq b83_2 b83_54))
theorem e83 (v0 v1 : V) : argTr 8 [v0, v1] = (.n (.n sk6 (some v1) sk6) (some v0) sk7) := rfl
def B83 := ai @e83 (ai (wu b83_1.eq_1) (ai (wu b83_2.eq_1) (ai (wu b83_3.eq_1) (ai (wu b83_4.eq_1) (ai (wu b83_5.eq_1) (ai (wu b83_6.eq_1) (ai (wu b83_7.eq_1) (ai (wu b83_8.eq_1) (ai (wu b83_9.eq_1) (ai (wu b83_10.eq_1) (ai (wu b83_11.eq_1) (ai (wu b83_12.eq_1) (ai (wu b83_13.eq_1) (ai (wu b83_14.eq_1) (ai (wu b83_15.eq_1) (ai (wu b83_16.eq_1) (ai (wu b83_17.eq_1) (ai (wu b83_18.eq_1) (ai (wu b83_19.eq_1) (ai (wu b83_20.eq_1) (ai (wu b83_21.eq_1) (ai (wu b83_22.eq_1) (ai (wu b83_23.eq_1) (ai (wu b83_24.eq_1) (ai (wu b83_25.eq_1) (ai (wu b83_26.eq_1) (ai (wu b83_27.eq_1) (ai (wu b83_28.eq_1) (ai (wu b83_29.eq_1) (ai (wu b83_30.eq_1) (ai (wu b83_31.eq_1) (ai (wu b83_32.eq_1) (ai (wu b83_33.eq_1) (ai (wu b83_34.eq_1) (ai (wu b83_35.eq_1) (ai (wu b83_36.eq_1) (ai (wu b83_37.eq_1) (ai (wu b83_38.eq_1) (ai (wu b83_39.eq_1) (ai (wu b83_40.eq_1) (ai (wu b83_41.eq_1) (ai (wu b83_42.eq_1) (ai (wu b83_43.eq_1) (ai (wu b83_44.eq_1) (ai (wu b83_45.eq_1) (ai (wu b83_46.eq_1) (ai (wu b83_47.eq_1) (ai (wu b83_48.eq_1) (ai (wu b83_49.eq_1) (ai (wu b83_50.eq_1) (ai (wu b83_51.eq_1) (ai (wu b83_52.eq_1) (ai (wu b83_53.eq_1) (wu b83_54.eq_1))))))))))))))))))))))))))))))))))))))))))))))))))))))
noncomputable def b49_1 : CC := (.reg [(qq a4 (.mv (.c (.s 0 0)))), (qq a5 (.mv (.c (.s 0 0)))), (qq a6 (.mv xF))])
noncomputable def b49_2 : CC := (.reg [(qq a8 (.mv z0)), (qq a9 (.mv z1)), (ee a10 (.call 83 [z8, z9])), (qq a7 (.mv z10))])
noncomputable def b49_3 : CC := (.reg [(qq a11 (.mv z7)), (qq a12 (.bi .geq z11 (x6 0)))])
noncomputable def b49_4 : CC := (.dreg 12 [(0, 0, (qq a13 (.mv z0))), (1, 0, (qq a14 (.mv z7))), (2, 3, (qq a15 (.slS z13 none (some z14)))), (3, 0, (qq a16 (.mv z0))), (4, 0, (qq a17 (.mv z7))), (5, 0, (qq a18 (.mv z1))), (6, 32, (qq a19 (.ln .str z18))), (7, 112, (qq a20 (.bi .add z17 z19))), (8, 248, (qq a21 (.slS z16 (some z20) none))), (9, 7, (qq a4 (.mv z15))), (10, 1023, (qq a5 (.mv z21))), (11, 2047, (qq a6 (.mv xT)))])
noncomputable def b49_5 : CC := (.seq b49_3 (.cond z12 (.seq b49_4 .ret) .skip))
noncomputable def b49_6 : CC := (.reg [(qq a22 (.mv z0)), (qq a4 (.mv z22)), (qq a5 (.mv (.c (.s 0 0)))), (qq a6 (.mv xF))])
noncomputable def c49 : CF := .mk 5 [.t a4, .t a5, .t a6] (.seq b49_1 (.seq (.seq b49_2 b49_5) (.seq b49_6 .ret)))
theorem e49 (v0 v1 : V) : argTr 5 [v0, v1] = (.n (.n sk3 (some v1) sk3) (some v0) sk4) := rfl
def B49 := ai @e49 (ai (wu b49_1.eq_1) (ai (wu b49_2.eq_1) (ai (wu b49_3.eq_1) (ai (wu b49_4.eq_1) (ai (wu b49_5.eq_1) (wu b49_6.eq_1))))))
noncomputable def b26_1 : CC := (.reg [(qq a4 (.mv (.c (.s 0 0)))), (qq a5 (.mv (.c (.s 0 0)))), (qq a6 (.mv xF))])
noncomputable def b26_2 : CC := (.reg [(qq a7 (.mv z0)), (qq a8 (.mv z1)), (ee a9 (.call 49 [z7, z8])), (qq a10 (.ex 0 z9)), (qq a11 (.ex 1 z9)), (qq a12 (.ex 2 z9)), (qq a4 (.mv z10)), (qq a5 (.mv z11)), (qq a6 (.mv z12))])
noncomputable def c26 : CF := .mk 4 [.t a4, .t a5, .t a6] (.seq b26_1 (.seq b26_2 .ret))
theorem e26 (v0 v1 : V) : argTr 4 [v0, v1] = (.n (.n sk2 (some v1) sk2) (some v0) sk3) := rfl
def B26 := ai @e26 (ai (wu b26_1.eq_1) (wu b26_2.eq_1))
noncomputable def b111_1 : CC := (.reg [(qq a4 (.mv xF))])
noncomputable def b111_2 : CC := (.reg [(qq a5 (.mv z0)), (qq a6 (.ln .str z5)), (qq a7 (.mv z1)), (qq a8 (.ln .str z7)), (qq a9 (.bi .geq z6 z8)), (qq a10 (.mv z9)), ⟨(some a11), .q (.mv z0), (some (a10, true))⟩, ⟨(some a12), .q (.mv z1), (some (a10, true))⟩, ⟨(some a13), .q (.ln .str z12), (some (a10, true))⟩, ⟨(some a14), .q (.slS z11 none (some z13)), (some (a10, true))⟩, ⟨(some a15), .q (.mv z1), (some (a10, true))⟩, ⟨(some a16), .q (.bi .eql z14 z15), (some (a10, true))⟩, (qq a17 (.pk z10 z16 xF)), (qq a4 (.mv z17))])
noncomputable def c111 : CF := .mk 5 [.t a4] (.seq b111_1 (.seq b111_2 .ret))
noncomputable def b85_1 : CC := (.reg [(qq a4 (.mv (.c (.s 0 0))))])
noncomputable def b85_2 : CC := (.reg [(qq a5 (.mv z0)), (qq a6 (.mv z1)), (ee a7 (.call 111 [z5, z6]))])
noncomputable def b85_3 : CC := (.reg [(qq a8 (.mv z0)), (qq a9 (.mv z1)), (qq a10 (.ln .str z9)), (qq a11 (.slS z8 (some z10) none)), (qq a4 (.mv z11))])
noncomputable def b85_4 : CC := (.seq b85_2 (.cond z7 (.seq b85_3 .ret) .skip))
noncomputable def b85_5 : CC := (.reg [(qq a12 (.mv z0)), (qq a4 (.mv z12))])
noncomputable def c85 : CF := .mk 4 [.t a4] (.seq b85_1 (.seq b85_4 (.seq b85_5 .ret)))
noncomputable def b54_1 : CC := (.reg [(qq a4 (.mv (.c (.s 0 0))))])
noncomputable def b54_2 : CC := (.reg [(qq a5 (.mv z0)), (qq a6 (.mv z1)), (ee a7 (.call 85 [z5, z6])), (qq a4 (.mv z7))])
noncomputable def c54 : CF := .mk 4 [.t a4] (.seq b54_1 (.seq b54_2 .ret))
noncomputable def asS : V → Option (List UInt8)
  | .s n x => if strN (bl n x) = x then some (bl n x) else none
  | _ => none
theorem asS_s (l : List UInt8) : asS (sV l) = some l := by
  show (if strN (bl l.length (strN l)) = strN l then some (bl l.length (strN l)) else none) = _
  rw [strN_bl, if_pos rfl]
theorem of_asS {v : V} {l : List UInt8} (h : asS v = some l) : v = sV l := by
  unfold asS at h
  split at h
  · rename_i n x
    split at h
    · rename_i hx
      obtain rfl := Option.some.inj h
      show V.s n x = V.s (bl n x).length (strN (bl n x))
      rw [hx, bl_length]
    · cases h
  · cases h
def fnd (c : UInt8) : List UInt8 → Nat → Option Nat
  | [], _ => none
  | x :: r, i => if x = c then some i else fnd c r (i + 1)
theorem fnd_lt {c : UInt8} : ∀ {l : List UInt8} {i k : Nat}, fnd c l i = some k → i ≤ k ∧ k < i + l.length
  | [], i, k, h => by cases h
  | x :: r, i, k, h => by
    unfold fnd at h
    split at h
    · obtain rfl := Option.some.inj h; simp
    · have := fnd_lt h; rw [List.length_cons]; omega
theorem findB_s (c : UInt8) : ∀ (l : List UInt8) (i : Nat), findB c.toNat l.length (strN l) i = fnd c l i
  | [], i => rfl
  | x :: r, i => by
    have hx := UInt8.toNat_lt x
    show (bif Nat.beq ((x.toNat + 256 * strN r) % 256) c.toNat then some i else findB c.toNat r.length ((x.toNat + 256 * strN r) / 256) (Nat.succ i)) = _
    rw [show (x.toNat + 256 * strN r) % 256 = x.toNat by omega, show (x.toNat + 256 * strN r) / 256 = strN r by omega, beqN, fnd]
    by_cases h : x = c
    · subst h; rw [decide_eq_true rfl, if_pos rfl]; rfl
    · rw [decide_eq_false (fun e => h (UInt8.toNat_inj.1 e)), if_neg h, cond_false]
      exact findB_s c r (i + 1)
noncomputable def xibV (x c : V) : Option V := (qop (.xib (.c x) (.c c)) [] .e .e).val
theorem v_xib {F : RO} (x c : X) (M : Mem) (t : T) : (qop (.xib x c) F M t).val = xibV (x.ev t) (c.ev t) := Eq.trans rfl (Eq.refl _)
def idxZ : Option Nat → Int
  | some k => (k : Int)
  | none => -1
theorem xibV_s (l : List UInt8) (c : UInt8) : xibV (sV l) (bV c) = some (.i .i64 (idxZ (fnd c l 0))) := by
  show (q_xib1 (findB (Nat.mod c.toNat 256) l.length (strN l) 0)).val = _
  have := UInt8.toNat_lt c
  rw [show Nat.mod c.toNat 256 = c.toNat from Nat.mod_eq_of_lt (by omega), findB_s]
  cases fnd c l 0 <;> rfl
noncomputable def asB : V → Option UInt8
  | .i .u8 (.ofNat n) => if n < 256 then some (UInt8.ofNat n) else none
  | _ => none
noncomputable def h106 : List V → Option V
  | [v, w] => (asS v).bind fun l => (asB w).bind fun b => some (.i .i64 (idxZ (fnd b l 0)))
  | _ => none
theorem ixS0 (b : UInt8) : ixSV (sV [b]) (.i .i64 0) = some (bV b) := ixSs [b] .i64 0 (by simp)
noncomputable def h83 : List V → Option V
  | [v, w] => (asS v).bind fun l => (asS w).bind fun s => match s with | [b] => some (.i .i64 (idxZ (fnd b l 0))) | _ => none
  | _ => none
def cutV (c : UInt8) (l : List UInt8) : V := match fnd c l 0 with
  | some k => .t [sV (l.take k), sV (l.drop (k + 1)), .b true]
  | none => .t [sV l, .s 0 0, .b false]
theorem dq_slS {F : RO} (x : X) (lo hi : Option X) (M : Mem) (t : T) : dqR (.slS x lo hi) F M t = oV (slSV (x.ev t) (lo.map fun x => x.ev t) (hi.map fun x => x.ev t)) := by
  refine (dq_of ?_).trans (congrArg oV (v_slS (F := F) x lo hi M t))
  intro F' M'
  refine qv_oV ?_
  show ((onS (x.ev t) QR.f fun n s => q_slS1 n s (optN t 0 lo) (optN t n hi)) = .f ∨ ∃ y, (onS (x.ev t) QR.f fun n s => q_slS1 n s (optN t 0 lo) (optN t n hi)) = .v y)
  cases x.ev t with
  | s n s =>
    show QV (q_slS1 n s (optN t 0 lo) (optN t n hi))
    generalize optN t 0 lo = a
    generalize optN t n hi = b
    cases a with
    | none => exact .inl rfl
    | some a =>
      cases b with
      | none => exact .inl rfl
      | some b =>
        show QV (Bool.rec (motive := fun _ => QR) .f (Bool.rec (motive := fun _ => QR) .f (vS (b - a) (s / 256 ^ a % 256 ^ (b - a))) (Nat.ble b n)) (Nat.ble a b))
        cases Nat.ble a b with
        | false => exact .inl rfl
        | true =>
          cases Nat.ble b n with
          | false => exact .inl rfl
          | true => exact .inr ⟨_, by show vS _ _ = _; unfold vS; rw [fN_eq, fN_eq]⟩
  | _ => exact .inl rfl
noncomputable def h49 : List V → Option V
  | [v, w] => (asS v).bind fun l => (asS w).bind fun s => match s with | [b] => if l.length ≤ 1073741824 then some (cutV b l) else none | _ => none
  | _ => none
theorem cutV_t (b : UInt8) (l : List UInt8) : ∃ x y z, cutV b l = .t [x, y, z] := by
  unfold cutV
  cases fnd b l 0 <;> exact ⟨_, _, _, rfl⟩
end Go.Proofs.YtaigcmdogapjgaaGreatDoor.Ev
set_option maxRecDepth 10000
set_option maxHeartbeats 8000000
namespace Go.Proofs.YtaigcmdogapjgaaGreatDoor.Ev
open Go
noncomputable def b55_1 : CC := (.reg [(aa a2 (.al 113 [(.b false), (.b false), (.b false), (.b false)]))])
noncomputable def b55_2 : CC := (.reg [(qq a5 (.bi .eql z3 (x6 1))), (qq a4 (.mv z5))])
noncomputable def b55_3 : CC := (.reg [(qq a6 (.bld [(.b false), (.b false), (.b false), (.b false)] [(3, 1, xT)])), (ez (.st 4 z2 z6))])
noncomputable def b55_4 : CC := (.reg [(qq a8 (.bi .eql z3 (x6 2))), (qq a7 (.mv z8))])
noncomputable def b55_5 : CC := (.reg [(qq a9 (.bld [(.b false), (.b false), (.b false), (.b false)] [(1, 1, xT)])), (ez (.st 4 z2 z9))])
noncomputable def b55_6 : CC := (.reg [(qq a11 (.bi .eql z3 (x6 3))), (qq a10 (.mv z11))])
noncomputable def b55_7 : CC := (.reg [(qq a12 (.bld [(.b false), (.b false), (.b false), (.b false)] [(0, 1, xT), (3, 1, xT)])), (ez (.st 4 z2 z12))])
noncomputable def b55_8 : CC := (.reg [(qq a14 (.bi .eql z3 (x6 4))), (qq a13 (.mv z14))])
noncomputable def b55_9 : CC := (.reg [(qq a15 (.bld [(.b false), (.b false), (.b false), (.b false)] [(0, 1, xT), (1, 1, xT)])), (ez (.st 4 z2 z15))])
noncomputable def b55_10 : CC := (.reg [(qq a17 (.bi .eql z3 (x6 5))), (qq a16 (.mv z17))])
noncomputable def b55_11 : CC := (.reg [(qq a18 (.bld [(.b false), (.b false), (.b false), (.b false)] [(0, 1, xT), (1, 1, xT), (2, 1, xT)])), (ez (.st 4 z2 z18))])
noncomputable def b55_12 : CC := (.reg [(qq a20 (.bi .eql z3 (x6 6))), (qq a19 (.mv z20))])
noncomputable def b55_13 : CC := (.reg [(qq a21 (.bld [(.b false), (.b false), (.b false), (.b false)] [(0, 1, xT), (1, 1, xT), (3, 1, xT)])), (ez (.st 4 z2 z21))])
noncomputable def b55_14 : CC := (.cond z19 (.seq b55_13 .ret) .skip)
noncomputable def b55_15 : CC := (.cond z16 (.seq b55_11 .ret) (.seq b55_12 b55_14))
noncomputable def b55_16 : CC := (.cond z13 (.seq b55_9 .ret) (.seq b55_10 b55_15))
noncomputable def b55_17 : CC := (.cond z10 (.seq b55_7 .ret) (.seq b55_8 b55_16))
noncomputable def b55_18 : CC := (.cond z7 (.seq b55_5 .ret) (.seq b55_6 b55_17))
noncomputable def b55_19 : CC := (.cond z4 (.seq b55_3 .ret) (.seq b55_4 b55_18))
noncomputable def b55_20 : CC := (.seq (.reg [(qq a3 (.mv z0))]) (.block 0 (.seq b55_2 b55_19)))
noncomputable def b55_21 : CC := (.reg [(qq a22 (.bld [(.b false), (.b false), (.b false), (.b false)] [])), (ez (.st 4 z2 z22))])
noncomputable def c55 : CF := .mk 5 [.cn a2 4] (.seq b55_1 (.seq b55_20 (.seq b55_21 .ret)))
noncomputable def b87_1 : CC := (.reg [(qq a3 (.mv z0)), (qq a4 (.bi .geq z3 (x6 0))), (qq a5 (.mv z4)), ⟨(some a6), .q (.mv z0), (some (a5, true))⟩, ⟨(some a7), .q (.bi .lss z6 (x6 16)), (some (a5, true))⟩, (qq a8 (.pk z5 z7 xF)), (qq a2 (.mv z8))])
noncomputable def b87_2 : CC := (.seq (.reg [(qq a2 (.mv xF))]) (.seq b87_1 .ret))
noncomputable def c87 : CF := .mk 4 [.t a2] b87_2
noncomputable def b86_1 : CC := (.reg [(qq a3 (.mv z0)), (qq a4 (.bi .eql z3 (x6 3))), (qq a5 (.mv z4)), ⟨(some a6), .q (.mv z0), (some (a5, false))⟩, ⟨(some a7), .q (.bi .eql z6 (x6 6)), (some (a5, false))⟩, (qq a8 (.pk z5 xT z7)), (qq a2 (.mv z8))])
noncomputable def b86_2 : CC := (.seq (.reg [(qq a2 (.mv xF))]) (.seq b86_1 .ret))
noncomputable def c86 : CF := .mk 4 [.t a2] b86_2
def formI (op : Int) : Int := if op = 3 ∨ op = 23 then 1 else if op = 24 then 2 else if op = 5 ∨ op = 6 ∨ op = 25 then 3 else if op = 7 then 4 else if 8 ≤ op ∧ op ≤ 17 then 5 else if 18 ≤ op ∧ op ≤ 22 ∨ 26 ≤ op ∧ op ≤ 28 then 6 else 0
def dI (f : Int) : Bool := decide (f = 3 ∨ f = 4 ∨ f = 5 ∨ f = 6)
def aI (f : Int) : Bool := decide (f = 2 ∨ f = 4 ∨ f = 5 ∨ f = 6)
def bI (f : Int) : Bool := decide (f = 5)
def iI (f : Int) : Bool := decide (f = 1 ∨ f = 3 ∨ f = 6)
def regI (b : Bool) (n : Int) : Bool := decide (n = 0 ∨ b = true ∧ 0 < n ∧ n < 16)
noncomputable def b73_1 : CC := (.reg [(aa a0 (.al 133 [(.s 0 0), (.s 0 0), (.s 0 0), (.s 0 0), (.s 0 0), (.s 0 0), (.s 0 0), (.s 0 0), (.s 0 0), (.s 0 0), (.s 0 0), (.s 0 0), (.s 0 0), (.s 0 0), (.s 0 0), (.s 0 0), (.s 0 0), (.s 0 0), (.s 0 0), (.s 0 0), (.s 0 0), (.s 0 0), (.s 0 0), (.s 0 0), (.s 0 0), (.s 0 0), (.s 0 0), (.s 0 0), (.s 0 0)]))])
noncomputable def b73_2 : CC := (.reg [(qq a1 (.bld [(.s 0 0), (.s 0 0), (.s 0 0), (.s 0 0), (.s 0 0), (.s 0 0), (.s 0 0), (.s 0 0), (.s 0 0), (.s 0 0), (.s 0 0), (.s 0 0), (.s 0 0), (.s 0 0), (.s 0 0), (.s 0 0), (.s 0 0), (.s 0 0), (.s 0 0), (.s 0 0), (.s 0 0), (.s 0 0), (.s 0 0), (.s 0 0), (.s 0 0), (.s 0 0), (.s 0 0), (.s 0 0), (.s 0 0)] [(0, 1, (.c (.s 0 0))), (1, 1, (.c (.s 3 7368558))), (2, 1, (.c (.s 4 1886352499))), (3, 1, (.c (.s 4 1819042147))), (4, 1, (.c (.s 4 1801675106))), (5, 1, (.c (.s 5 500152823651))), (6, 1, (.c (.s 4 1751607656))), (7, 1, (.c (.s 4 2037411683))), (8, 1, (.c (.s 3 6579297))), (9, 1, (.c (.s 3 6452595))), (10, 1, (.c (.s 3 7107949))), (11, 1, (.c (.s 3 7760228))), (12, 1, (.c (.s 3 6582125))), (13, 1, (.c (.s 3 6581857))), (14, 1, (.c (.s 2 29295))), (15, 1, (.c (.s 3 7499640))), (16, 1, (.c (.s 3 7104627))), (17, 1, (.c (.s 3 7497843))), (18, 1, (.c (.s 4 1768186977))), (19, 1, (.c (.s 4 1684107116))), (20, 1, (.c (.s 5 435711603827))), (21, 1, (.c (.s 5 422590902124))), (22, 1, (.c (.s 6 108187851125875))), (23, 1, (.c (.s 4 1886221674))), (24, 1, (.c (.s 5 491512493418))), (25, 1, (.c (.s 4 1802398060))), (26, 1, (.c (.s 3 7431522))), (27, 1, (.c (.s 3 6647394))), (28, 1, (.c (.s 3 7629922)))])), (ez (.st 29 z0 z1))])
noncomputable def c73 : CF := .mk 2 [.cn a0 29] (.seq b73_1 (.seq b73_2 .ret))
theorem e73 : argTr 2 [] = sk2 := rfl
def B73 := ai @e73 (ai (wu b73_1.eq_1) (wu b73_2.eq_1))
noncomputable def names53 : List V := [(.s 0 0), (.s 3 7368558), (.s 4 1886352499), (.s 4 1819042147), (.s 4 1801675106), (.s 5 500152823651), (.s 4 1751607656), (.s 4 2037411683), (.s 3 6579297), (.s 3 6452595), (.s 3 7107949), (.s 3 7760228), (.s 3 6582125), (.s 3 6581857), (.s 2 29295), (.s 3 7499640), (.s 3 7104627), (.s 3 7497843), (.s 4 1768186977), (.s 4 1684107116), (.s 5 435711603827), (.s 5 422590902124), (.s 6 108187851125875), (.s 4 1886221674), (.s 5 491512493418), (.s 4 1802398060), (.s 3 7431522), (.s 3 6647394), (.s 3 7629922)]
theorem t73 (Φ : Nat → Option CF) (h : Φ 73 = some c73) (ct : Nat) : To Φ 73 [] ct (.g names53) := by
  refine to_walk h ?_
  simp only [WX, Nat.reduceAdd, Nat.reduceLeDiff, B73]
  rfl
noncomputable def b80_1 : CC := (.reg [(qq a3 (.mv z0)), (qq a4 (.bi .lss z3 (x6 1))), (qq a5 (.mv z4)), ⟨(some a6), .q (.mv z0), (some (a5, false))⟩, ⟨(some a7), .q (.bi .gtr z6 (x6 28)), (some (a5, false))⟩, (qq a8 (.pk z5 xT z7))])
noncomputable def b80_2 : CC := (.seq (.reg [(qq a2 (.mv (.c (.s 0 0))))]) .ret)
noncomputable def b80_3 : CC := (.reg [(ee a9 (.call 73 [])), (qq a10 (.mv z0)), (qq a11 (.ixA1 29 1 z9 z10)), (qq a2 (.mv z11))])
noncomputable def b80_4 : CC := (.seq (.seq b80_1 (.cond z8 b80_2 .skip)) (.seq b80_3 .ret))
noncomputable def b80_5 : CC := (.seq (.reg [(qq a2 (.mv (.c (.s 0 0))))]) b80_4)
noncomputable def c80 : CF := .mk 4 [.t a2] b80_5
noncomputable def h73 : List V → Option V
  | [] => some (.g names53)
  | _ => none
theorem h73_eq : h73 [] = some (.g names53) := rfl
def mayI (op d a b i : Int) : Bool :=
  decide (1 ≤ op) && (decide (op ≤ 28) && (regI (dI (formI op)) d && (regI (aI (formI op)) a && (regI (bI (formI op)) b && (decide (i = 0) || (iI (formI op) && (decide (op = 3 ∨ op = 6) && (decide (0 ≤ i) && decide (i ≤ 65535)) || decide (op ≠ 3 ∧ op ≠ 6) && (decide (-32768 ≤ i) && decide (i ≤ 32767)))))))))
end Go.Proofs.YtaigcmdogapjgaaGreatDoor.Ev
set_option maxRecDepth 10000
set_option maxHeartbeats 8000000
namespace Go.Proofs.YtaigcmdogapjgaaGreatDoor.Ev
open Go
noncomputable def b59_1 : CC := (.reg [(aa a1 (.bx 46 5 z0)), (qq a2 (.mv xF))])
noncomputable def b59_2 : CC := (.reg [(qq a8 (.fa 0 z1)), (qq a9 (.ld1 z8)), (ee a10 (.call 56 [z9])), (ee a11 (.call 55 [z10])), (aa a3 (.al 113 [(.b false), (.b false), (.b false), (.b false)])), (ez (.st 4 z3 z11))])
noncomputable def b59_3 : CC := (.reg [(qq a12 (.ldn 5 z1)), (aa a4 (.al 46 [(.i .i64 0), (.i .i64 0), (.i .i64 0), (.i .i64 0), (.i .i64 0)])), (ez (.st 5 z4 z12))])
noncomputable def b59_4 : CC := (.reg [(qq a13 (.fa 0 z3)), (qq a14 (.ld1 z13))])
noncomputable def b59_5 : CC := (.reg [(qq a15 (.fa 1 z4)), (ez (.st 1 z15 (x6 0)))])
noncomputable def b59_6 : CC := (.reg [(qq a16 (.fa 1 z3)), (qq a17 (.ld1 z16))])
noncomputable def b59_7 : CC := (.reg [(qq a18 (.fa 2 z4)), (ez (.st 1 z18 (x6 0)))])
noncomputable def b59_8 : CC := (.seq b59_6 (.cond z17 b59_7 .skip))
noncomputable def b59_9 : CC := (.reg [(qq a19 (.fa 2 z3)), (qq a20 (.ld1 z19))])
noncomputable def b59_10 : CC := (.reg [(qq a21 (.fa 3 z4)), (ez (.st 1 z21 (x6 0)))])
noncomputable def b59_11 : CC := (.seq b59_9 (.cond z20 b59_10 .skip))
noncomputable def b59_12 : CC := (.reg [(qq a22 (.fa 3 z3)), (qq a23 (.ld1 z22))])
noncomputable def b59_13 : CC := (.reg [(qq a24 (.fa 4 z4)), (ez (.st 1 z24 (x6 0)))])
noncomputable def b59_14 : CC := (.seq b59_12 (.cond z23 b59_13 .skip))
noncomputable def b59_15 : CC := (.reg [(qq a5 (.mv (x6 (-32768)))), (qq a6 (.mv (x6 32767)))])
noncomputable def b59_16 : CC := (.reg [(qq a25 (.fa 0 z1)), (qq a26 (.ld1 z25)), (ee a27 (.call 86 [z26]))])
noncomputable def b59_17 : CC := (.reg [(qq a5 (.mv (x6 0))), (qq a6 (.mv (x6 65535)))])
noncomputable def b59_18 : CC := (.seq b59_16 (.cond z27 b59_17 .skip))
noncomputable def b59_19 : CC := (.reg [(qq a7 (.mv (.c (.f 87 [] []))))])
noncomputable def b59_20 : CC := (.reg [(qq a28 (.fa 0 z1)), (qq a29 (.ld1 z28)), (ee a30 (.call 80 [z29])), (qq a31 (.bi .neq z30 (.c (.s 0 0)))), (qq a32 (.mv z31)), ⟨(some a33), .q (.ldn 5 z4), (some (a32, true))⟩, ⟨(some a34), .q (.fa 0 z1), (some (a32, true))⟩, ⟨(some a35), .q (.ld1 z34), (some (a32, true))⟩, ⟨(some a36), .q (.bld [(.i .i64 0), (.i .i64 0), (.i .i64 0), (.i .i64 0), (.i .i64 0)] [(0, 1, z35)]), (some (a32, true))⟩, ⟨(some a37), .q (.eq false (.agg [(0, .int), (1, .int), (2, .int), (3, .int), (4, .int)]) false z33 z36), (some (a32, true))⟩, (qq a38 (.pk z32 z37 xF)), (qq a39 (.mv z38)), ⟨(some a40), .q (.mv z7), (some (a39, true))⟩, ⟨(some a41), .q (.fa 1 z1), (some (a39, true))⟩, ⟨(some a42), .q (.ld1 z41), (some (a39, true))⟩, ⟨(some a43), .e (.cv z40 [z42]), (some (a39, true))⟩, (qq a44 (.pk z39 z43 xF)), (qq a45 (.mv z44)), ⟨(some a46), .q (.mv z7), (some (a45, true))⟩, ⟨(some a47), .q (.fa 2 z1), (some (a45, true))⟩, ⟨(some a48), .q (.ld1 z47), (some (a45, true))⟩, ⟨(some a49), .e (.cv z46 [z48]), (some (a45, true))⟩, (qq a50 (.pk z45 z49 xF)), (qq a51 (.mv z50)), ⟨(some a52), .q (.mv z7), (some (a51, true))⟩, ⟨(some a53), .q (.fa 3 z1), (some (a51, true))⟩, ⟨(some a54), .q (.ld1 z53), (some (a51, true))⟩, ⟨(some a55), .e (.cv z52 [z54]), (some (a51, true))⟩, (qq a56 (.pk z51 z55 xF)), (qq a57 (.mv z56)), ⟨(some a58), .q (.fa 4 z1), (some (a57, true))⟩, ⟨(some a59), .q (.ld1 z58), (some (a57, true))⟩, ⟨(some a60), .q (.mv z5), (some (a57, true))⟩, ⟨(some a61), .q (.bi .geq z59 z60), (some (a57, true))⟩, (qq a62 (.pk z57 z61 xF)), (qq a63 (.mv z62)), ⟨(some a64), .q (.fa 4 z1), (some (a63, true))⟩, ⟨(some a65), .q (.ld1 z64), (some (a63, true))⟩, ⟨(some a66), .q (.mv z6), (some (a63, true))⟩, ⟨(some a67), .q (.bi .leq z65 z66), (some (a63, true))⟩, (qq a68 (.pk z63 z67 xF)), (qq a2 (.mv z68))])
noncomputable def b59_21 : CC := (.seq b59_15 (.seq b59_18 (.seq b59_19 (.seq b59_20 .ret))))
noncomputable def b59_22 : CC := (.seq (.seq b59_4 (.cond z14 b59_5 .skip)) (.seq b59_8 (.seq b59_11 (.seq b59_14 b59_21))))
noncomputable def c59 : CF := .mk 7 [.t a2] (.seq b59_1 (.seq b59_2 (.seq b59_3 b59_22)))
end Go.Proofs.YtaigcmdogapjgaaGreatDoor.Ev
set_option maxRecDepth 10000
set_option maxHeartbeats 8000000
namespace Go.Proofs.YtaigcmdogapjgaaGreatDoor.Ev
open Go
noncomputable def b60_1 : CC := (.reg [(aa a1 (.bx 46 5 z0)), (qq a2 (.mv (.c (.i .u32 0)))), (qq a3 (.mv (x6 0)))])
noncomputable def b60_2 : CC := (.reg [(qq a4 (.ldn 5 z1)), (ee a5 (.call 59 [z4])), (qq a6 (.un .not z5))])
noncomputable def b60_3 : CC := (.reg [(qq a2 (.mv (.c (.i .u32 0)))), (qq a3 (.mv (x6 2)))])
noncomputable def b60_4 : CC := (.seq b60_2 (.cond z6 (.seq b60_3 .ret) .skip))
noncomputable def b60_5 : CC := (.reg [(qq a7 (.fa 0 z1)), (qq a8 (.ld1 z7)), (qq a9 (.ci .u32 z8)), (qq a10 (.fa 1 z1)), (qq a11 (.ld1 z10)), (qq a12 (.ci .u32 z11)), (qq a13 (.bi .shl z12 (.c (.i .u64 12)))), (qq a14 (.bi .or z9 z13)), (qq a15 (.fa 2 z1)), (qq a16 (.ld1 z15)), (qq a17 (.ci .u32 z16)), (qq a18 (.bi .shl z17 (.c (.i .u64 8)))), (qq a19 (.bi .or z14 z18)), (qq a20 (.fa 3 z1)), (qq a21 (.ld1 z20)), (qq a22 (.ci .u32 z21)), (qq a23 (.bi .shl z22 (.c (.i .u64 16)))), (qq a24 (.bi .or z19 z23)), (qq a25 (.fa 4 z1)), (qq a26 (.ld1 z25)), (qq a27 (.ci .u16 z26)), (qq a28 (.ci .u32 z27)), (qq a29 (.bi .shl z28 (.c (.i .u64 16)))), (qq a30 (.bi .or z24 z29)), (qq a2 (.mv z30)), (qq a3 (.mv (x6 0)))])
noncomputable def c60 : CF := .mk 5 [.t a2, .t a3] (.seq b60_1 (.seq b60_4 (.seq b60_5 .ret)))
def wordI (op d a b i : Int) : Nat := op.toNat + 4096 * d.toNat + 256 * a.toNat + 65536 * b.toNat + 65536 * (i % 65536).toNat
end Go.Proofs.YtaigcmdogapjgaaGreatDoor.Ev
set_option maxRecDepth 10000
set_option maxHeartbeats 8000000
namespace Go.Proofs.YtaigcmdogapjgaaGreatDoor.Ev
open Go
end Go.Proofs.YtaigcmdogapjgaaGreatDoor.Ev
