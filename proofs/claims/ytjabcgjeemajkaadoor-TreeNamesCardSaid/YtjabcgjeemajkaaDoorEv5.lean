/- What is proved here: pieces of the evaluator's soundness: if the evaluator comes to a value, the model's run comes to it, for every world and tape; no conditions beyond the hypotheses of each theorem. -/
import Derived.Test.YtjabcgjeemajkaaDoorEv4
set_option linter.unusedSimpArgs false
set_option linter.unusedVariables false
set_option linter.defProp false
set_option maxRecDepth 10000
set_option maxHeartbeats 4000000
namespace Go.Proofs.YtjabcgjeemajkaaDoor.Ev
open Go
noncomputable section
section
variable {Φ : Nat → Option CF} {rd : Option Nat} {fn : Nat} {F : RO}
def rowP (ty n : Nat) (row : List V) : Blk := .cells ty n false 0 false [] (rowT row)
def BufAt (M : Mem) (c0 c b : Nat) (v : V) (l : List UInt8) : Prop :=
 (l = [] ∧ v = .l0) ∨ (c0 ≤ b ∧ b < c ∧ ∃ n, (l.length ≤ n ∧ 0 < n) ∧ v = .u b 0 l.length 0 n ∧ M.get b = some (rowP 5 n (l.map bV)))
theorem BufAt.up {M M' : Mem} {c0 c c' b : Nat} {v : V} {l : List UInt8} (h : BufAt M c0 c b v l) (hc : c ≤ c') (hb : b < c → M'.get b = M.get b) : BufAt M' c0 c' b v l := by
 rcases h with h | ⟨h1, h2, n, h3, h4, h5⟩
 · exact .inl h
 · exact .inr ⟨h1, by omega, n, h3, h4, by rw [hb h2]; exact h5⟩
end
def b61_1 : CC := (.reg [(qq a4 (.mv (x6 0)))])
def b61_2 : CC := (.reg [(qq a5 (.mv z0)), (qq a6 (.mv z1)), (qq a7 (.xib z5 z6)), (qq a4 (.mv z7))])
def c61 : CF := .mk 4 [.t a4] (.seq b61_1 (.seq b61_2 .ret))
theorem e61 (v0 v1 : V) : argTr 4 [v0, v1] = (.n (.n sk2 (some v1) sk2) (some v0) sk3) := rfl
def B61 := ai @e61 (ai (wu b61_1.eq_1) (wu b61_2.eq_1))
def b59_1 : CC := (.reg [(qq a4 (.mv (x6 0)))])
def b59_2 : CC := (.reg [(qq a14 (.mv z1)), (qq a15 (.ln .str z14)), (qq a5 (.mv z15))])
def b59_3 : CC := (.reg [(qq a17 (.mv z5)), (qq a18 (.bi .eql z17 (x6 0))), (qq a19 (.mv z18)), ⟨(some a20), .q (.mv z1), (some (a19, false))⟩, ⟨(some a21), .q (.mv z0), (some (a19, false))⟩, ⟨(some a22), .q (.bi .eql z20 z21), (some (a19, false))⟩, (qq a23 (.pk z19 xT z22)), (qq a16 (.mv z23))])
def b59_4 : CC := (.reg [(qq a4 (.mv (x6 0)))])
def b59_5 : CC := (.reg [(qq a25 (.mv z5)), (qq a26 (.bi .eql z25 (x6 1))), (qq a24 (.mv z26))])
def b59_6 : CC := (.reg [(qq a27 (.mv z0)), (qq a28 (.mv z1)), (qq a29 (.ixS z28 (x6 0))), (ee a30 (.call 61 [z27, z29])), (qq a4 (.mv z30))])
def b59_7 : CC := (.reg [(qq a32 (.mv z5)), (qq a33 (.mv z0)), (qq a34 (.ln .str z33)), (qq a35 (.bi .geq z32 z34)), (qq a31 (.mv z35))])
def b59_8 : CC := (.reg [(qq a4 (.mv (x6 (-1))))])
def b59_9 : CC := (.reg [(qq a37 (.mv z5)), (qq a38 (.ld1 (.c (.p 0 0)))), (qq a39 (.bi .leq z37 z38)), (qq a40 (.mv z39)), ⟨(some a41), .q (.mv z0), (some (a40, true))⟩, ⟨(some a42), .q (.ln .str z41), (some (a40, true))⟩, ⟨(some a43), .q (.bi .leq z42 (x6 64)), (some (a40, true))⟩, (qq a44 (.pk z40 z43 xF)), (qq a36 (.mv z44))])
def b59_10 : CC := (.reg [(qq a45 (.mv z0)), (qq a46 (.mv z1)), (qq a47 (.bad)), (qq a4 (.mv z47))])
def b59_11 : CC := (.cond z36 (.seq b59_10 .ret) .skip)
def b59_12 : CC := (.cond z31 (.seq b59_8 .ret) (.seq b59_9 b59_11))
def b59_13 : CC := (.cond z24 (.seq b59_6 .ret) (.seq b59_7 b59_12))
def b59_14 : CC := (.cond z16 (.seq b59_4 .ret) (.seq b59_5 b59_13))
def b59_15 : CC := (.reg [(qq a48 (.mv z1)), (qq a49 (.ixS z48 (x6 0))), (qq a6 (.mv z49))])
def b59_16 : CC := (.reg [(qq a50 (.mv z1)), (qq a51 (.ixS z50 (x6 1))), (qq a7 (.mv z51))])
def b59_17 : CC := (.reg [(qq a8 (.mv (x6 0)))])
def b59_18 : CC := (.reg [(qq a52 (.mv z0)), (qq a53 (.ln .str z52)), (qq a54 (.mv z5)), (qq a55 (.bi .sub z53 z54)), (qq a56 (.bi .add z55 (x6 1))), (qq a9 (.mv z56))])
def b59_19 : CC := (.reg [(qq a10 (.mv (x6 0)))])
def b59_20 : CC := (.reg [(qq a57 (.mv z8)), (qq a58 (.mv z9)), (qq a59 (.bi .lss z57 z58))])
def b59_21 : CC := (.seq b59_20 (.cond z59 .skip (.exit 1)))
def b59_22 : CC := (.reg [(qq a60 (.mv z0)), (qq a61 (.mv z8)), (qq a62 (.ixS z60 z61)), (qq a63 (.mv z6)), (qq a64 (.bi .neq z62 z63))])
def b59_23 : CC := (.reg [(qq a65 (.mv z0)), (qq a66 (.mv z8)), (qq a67 (.bi .add z66 (x6 1))), (qq a68 (.mv z9)), (qq a69 (.slS z65 (some z67) (some z68))), (qq a70 (.mv z6)), (ee a71 (.call 61 [z69, z70])), (qq a11 (.mv z71))])
def b59_24 : CC := (.reg [(qq a72 (.mv z11)), (qq a73 (.bi .lss z72 (x6 0)))])
def b59_25 : CC := (.reg [(qq a4 (.mv (x6 (-1))))])
def b59_26 : CC := (.cond z73 (.seq b59_25 .ret) .skip)
def b59_27 : CC := (.reg [(qq a74 (.mv z8)), (qq a75 (.mv z11)), (qq a76 (.bi .add z75 (x6 1))), (qq a77 (.bi .add z74 z76)), (qq a8 (.mv z77))])
def b59_28 : CC := (.cond z64 (.seq b59_23 (.seq (.seq b59_24 b59_26) b59_27)) .skip)
def b59_29 : CC := (.reg [(qq a78 (.mv z0)), (qq a79 (.mv z8)), (qq a80 (.bi .add z79 (x6 1))), (qq a81 (.ixS z78 z80)), (qq a82 (.mv z7)), (qq a83 (.bi .eql z81 z82)), (qq a84 (.mv z83)), ⟨(some a85), .q (.mv z0), (some (a84, true))⟩, ⟨(some a86), .q (.mv z8), (some (a84, true))⟩, ⟨(some a87), .q (.mv z8), (some (a84, true))⟩, ⟨(some a88), .q (.mv z5), (some (a84, true))⟩, ⟨(some a89), .q (.bi .add z87 z88), (some (a84, true))⟩, ⟨(some a90), .q (.slS z85 (some z86) (some z89)), (some (a84, true))⟩, ⟨(some a91), .q (.mv z1), (some (a84, true))⟩, ⟨(some a92), .q (.bi .eql z90 z91), (some (a84, true))⟩, (qq a93 (.pk z84 z92 xF))])
def b59_30 : CC := (.reg [(qq a94 (.mv z8)), (qq a4 (.mv z94))])
def b59_31 : CC := (.cond z93 (.seq b59_30 .ret) .skip)
def b59_32 : CC := (.reg [(qq a95 (.mv z8)), (qq a96 (.bi .add z95 (x6 1))), (qq a8 (.mv z96))])
def b59_33 : CC := (.reg [(qq a97 (.mv z10)), (qq a98 (.bi .add z97 (x6 1))), (qq a10 (.mv z98))])
def b59_34 : CC := (.reg [(qq a99 (.mv z5)), (qq a100 (.ld1 (.c (.p 0 0)))), (qq a101 (.bi .leq z99 z100)), (qq a102 (.mv z101)), ⟨(some a103), .q (.mv z10), (some (a102, true))⟩, ⟨(some a104), .q (.mv z8), (some (a102, true))⟩, ⟨(some a105), .e (.call 63 [z104]), (some (a102, true))⟩, ⟨(some a106), .q (.bi .gtr z103 z105), (some (a102, true))⟩, (qq a107 (.pk z102 z106 xF))])
def b59_35 : CC := (.reg [(qq a108 (.mv z0)), (qq a109 (.mv z8)), (qq a110 (.slS z108 (some z109) none)), (qq a111 (.mv z1)), (qq a112 (.bad)), (qq a12 (.mv z112))])
def b59_36 : CC := (.reg [(qq a113 (.mv z12)), (qq a114 (.bi .geq z113 (x6 0)))])
def b59_37 : CC := (.reg [(qq a115 (.mv z12)), (qq a116 (.mv z8)), (qq a117 (.bi .add z115 z116)), (qq a4 (.mv z117))])
def b59_38 : CC := (.cond z114 (.seq b59_37 .ret) .skip)
def b59_39 : CC := (.reg [(qq a4 (.mv (x6 (-1))))])
def b59_40 : CC := (.seq b59_35 (.seq (.seq b59_36 b59_38) (.seq b59_39 .ret)))
def b59_41 : CC := (.reg [(qq a118 (.mv z5)), (qq a119 (.ld1 (.c (.p 0 0)))), (qq a120 (.bi .gtr z118 z119)), (qq a121 (.mv z120)), ⟨(some a122), .q (.mv z10), (some (a121, true))⟩, ⟨(some a123), .q (.mv z8), (some (a121, true))⟩, ⟨(some a124), .q (.bi .shr z123 (.c (.i .u64 4))), (some (a121, true))⟩, ⟨(some a125), .q (.bi .add (x6 4) z124), (some (a121, true))⟩, ⟨(some a126), .q (.bi .geq z122 z125), (some (a121, true))⟩, (qq a127 (.pk z121 z126 xF)), (qq a128 (.mv z127)), ⟨(some a129), .q (.mv z8), (some (a128, true))⟩, ⟨(some a130), .q (.mv z9), (some (a128, true))⟩, ⟨(some a131), .q (.bi .lss z129 z130), (some (a128, true))⟩, (qq a132 (.pk z128 z131 xF))])
def b59_42 : CC := (.reg [(qq a133 (.mv z0)), (qq a134 (.mv z8)), (qq a135 (.slS z133 (some z134) none)), (qq a136 (.mv z1)), (ee a137 (.call 64 [z135, z136])), (qq a13 (.mv z137))])
def b59_43 : CC := (.reg [(qq a138 (.mv z13)), (qq a139 (.bi .lss z138 (x6 0)))])
def b59_44 : CC := (.reg [(qq a4 (.mv (x6 (-1))))])
def b59_45 : CC := (.cond z139 (.seq b59_44 .ret) .skip)
def b59_46 : CC := (.reg [(qq a140 (.mv z8)), (qq a141 (.mv z13)), (qq a142 (.bi .add z140 z141)), (qq a4 (.mv z142))])
def b59_47 : CC := (.seq b59_42 (.seq (.seq b59_43 b59_45) (.seq b59_46 .ret)))
def b59_48 : CC := (.cond z132 b59_47 .skip)
def b59_49 : CC := (.cond z107 b59_40 (.seq b59_41 b59_48))
def b59_50 : CC := (.seq (.seq b59_29 b59_31) (.seq b59_32 (.seq b59_33 (.seq b59_34 b59_49))))
def b59_51 : CC := (.loop (.seq b59_21 (.block 2 (.seq (.seq b59_22 b59_28) b59_50))))
def b59_52 : CC := (.reg [(qq a4 (.mv (x6 (-1))))])
def b59_53 : CC := (.seq b59_18 (.seq b59_19 (.seq (.block 1 b59_51) (.seq b59_52 .ret))))
def b59_54 : CC := (.seq (.block 0 (.seq b59_3 b59_14)) (.seq b59_15 (.seq b59_16 (.seq b59_17 b59_53))))
def c59 : CF := .mk 8 [.t a4] (.seq b59_1 (.seq b59_2 b59_54))
theorem e59 (v0 v1 : V) : argTr 8 [v0, v1] = (.n (.n sk6 (some v1) sk6) (some v0) sk7) := rfl
def B59 := ai @e59 (ai (wu b59_1.eq_1) (ai (wu b59_2.eq_1) (ai (wu b59_3.eq_1) (ai (wu b59_4.eq_1) (ai (wu b59_5.eq_1) (ai (wu b59_6.eq_1) (ai (wu b59_7.eq_1) (ai (wu b59_8.eq_1) (ai (wu b59_9.eq_1) (ai (wu b59_10.eq_1) (ai (wu b59_11.eq_1) (ai (wu b59_12.eq_1) (ai (wu b59_13.eq_1) (ai (wu b59_14.eq_1) (ai (wu b59_15.eq_1) (ai (wu b59_16.eq_1) (ai (wu b59_17.eq_1) (ai (wu b59_18.eq_1) (ai (wu b59_19.eq_1) (ai (wu b59_20.eq_1) (ai (wu b59_21.eq_1) (ai (wu b59_22.eq_1) (ai (wu b59_23.eq_1) (ai (wu b59_24.eq_1) (ai (wu b59_25.eq_1) (ai (wu b59_26.eq_1) (ai (wu b59_27.eq_1) (ai (wu b59_28.eq_1) (ai (wu b59_29.eq_1) (ai (wu b59_30.eq_1) (ai (wu b59_31.eq_1) (ai (wu b59_32.eq_1) (ai (wu b59_33.eq_1) (ai (wu b59_34.eq_1) (ai (wu b59_35.eq_1) (ai (wu b59_36.eq_1) (ai (wu b59_37.eq_1) (ai (wu b59_38.eq_1) (ai (wu b59_39.eq_1) (ai (wu b59_40.eq_1) (ai (wu b59_41.eq_1) (ai (wu b59_42.eq_1) (ai (wu b59_43.eq_1) (ai (wu b59_44.eq_1) (ai (wu b59_45.eq_1) (ai (wu b59_46.eq_1) (ai (wu b59_47.eq_1) (ai (wu b59_48.eq_1) (ai (wu b59_49.eq_1) (ai (wu b59_50.eq_1) (ai (wu b59_51.eq_1) (ai (wu b59_52.eq_1) (ai (wu b59_53.eq_1) (wu b59_54.eq_1))))))))))))))))))))))))))))))))))))))))))))))))))))))
def b44_1 : CC := (.reg [(qq a3 (.mv (x6 1)))])
def b44_2 : CC := (.reg [(qq a4 (.mv z3)), (qq a5 (.bi .leq z4 (x6 96)))])
def b44_3 : CC := (.reg [(qq a8 (.mv z0)), (qq a9 (.nck z8)), (qq a10 (.fa 0 z9)), (qq a11 (.ld1 z10)), (qq a12 (.mv z3)), (qq a13 (.lk .int .p0 false z11 z12)), (qq a14 (.eq false .ptr true z13 (.c .p0)))])
def b44_4 : CC := (.reg [(qq a15 (.mv z3)), (qq a2 (.mv z15))])
def b44_5 : CC := (.seq b44_3 (.cond z14 (.seq b44_4 .ret) .skip))
def b44_6 : CC := (.reg [(qq a6 (.mv z3)), (qq a7 (.bi .add z6 (x6 1))), (qq a3 (.mv z7))])
def b44_7 : CC := (.seq (.seq b44_2 (.cond z5 .skip (.exit 0))) (.seq (.block 1 b44_5) b44_6))
def b44_8 : CC := (.seq (.reg [(qq a2 (.mv (x6 0)))]) .ret)
def b44_9 : CC := (.seq (.reg [(qq a2 (.mv (x6 0)))]) (.seq (.seq b44_1 (.block 0 (.loop b44_7))) b44_8))
def c44 : CF := .mk 5 [.t a2] b44_9
def b50_1 : CC := (.reg [(qq a4 (.mv xF))])
def b50_2 : CC := (.reg [(qq a5 (.mv z0)), (qq a6 (.ln .str z5)), (qq a7 (.mv z1)), (qq a8 (.ln .str z7)), (qq a9 (.bi .geq z6 z8)), (qq a10 (.mv z9)), ⟨(some a11), .q (.mv z0), (some (a10, true))⟩, ⟨(some a12), .q (.mv z1), (some (a10, true))⟩, ⟨(some a13), .q (.ln .str z12), (some (a10, true))⟩, ⟨(some a14), .q (.slS z11 none (some z13)), (some (a10, true))⟩, ⟨(some a15), .q (.mv z1), (some (a10, true))⟩, ⟨(some a16), .q (.bi .eql z14 z15), (some (a10, true))⟩, (qq a17 (.pk z10 z16 xF)), (qq a4 (.mv z17))])
def c50 : CF := .mk 5 [.t a4] (.seq b50_1 (.seq b50_2 .ret))
theorem e50 (v0 v1 : V) : argTr 5 [v0, v1] = (.n (.n sk3 (some v1) sk3) (some v0) sk4) := rfl
def B50 := ai @e50 (ai (wu b50_1.eq_1) (wu b50_2.eq_1))
def b41_1 : CC := (.reg [(qq a4 (.mv (.c (.s 0 0))))])
def b41_2 : CC := (.reg [(qq a5 (.mv z0)), (qq a6 (.mv z1)), (ee a7 (.call 50 [z5, z6]))])
def b41_3 : CC := (.reg [(qq a8 (.mv z0)), (qq a9 (.mv z1)), (qq a10 (.ln .str z9)), (qq a11 (.slS z8 (some z10) none)), (qq a4 (.mv z11))])
def b41_4 : CC := (.seq b41_2 (.cond z7 (.seq b41_3 .ret) .skip))
def b41_5 : CC := (.reg [(qq a12 (.mv z0)), (qq a4 (.mv z12))])
def c41 : CF := .mk 4 [.t a4] (.seq b41_1 (.seq b41_4 (.seq b41_5 .ret)))
theorem e41 (v0 v1 : V) : argTr 4 [v0, v1] = (.n (.n sk2 (some v1) sk2) (some v0) sk3) := rfl
def B41 := ai @e41 (ai (wu b41_1.eq_1) (ai (wu b41_2.eq_1) (ai (wu b41_3.eq_1) (ai (wu b41_4.eq_1) (wu b41_5.eq_1)))))
def b27_1 : CC := (.reg [(qq a4 (.mv (.c (.s 0 0))))])
def b27_2 : CC := (.reg [(qq a5 (.mv z0)), (qq a6 (.mv z1)), (ee a7 (.call 41 [z5, z6])), (qq a4 (.mv z7))])
def c27 : CF := .mk 4 [.t a4] (.seq b27_1 (.seq b27_2 .ret))
theorem e27 (v0 v1 : V) : argTr 4 [v0, v1] = (.n (.n sk2 (some v1) sk2) (some v0) sk3) := rfl
def B27 := ai @e27 (ai (wu b27_1.eq_1) (wu b27_2.eq_1))
def asS : V → Option (List UInt8)
 | .s n x => if strN (bl n x) = x then some (bl n x) else none
 | _ => none
theorem asS_s (l : List UInt8) : asS (sV l) = some l := by
 show (if strN (bl l.length (strN l)) = strN l then some (bl l.length (strN l)) else none) = _
 rw [strN_bl, if_pos rfl]
theorem of_asS {v : V} {l : List UInt8} (h : asS v = some l) : v = sV l := by
 unfold asS at h
 split at h
 · rename_i n x
   split at h
   · rename_i hx
     obtain rfl := Option.some.inj h
     show V.s n x = V.s (bl n x).length (strN (bl n x))
     rw [hx, bl_length]
   · cases h
 · cases h
def fnd (c : UInt8) : List UInt8 → Nat → Option Nat
 | [], _ => none
 | x :: r, i => if x = c then some i else fnd c r (i + 1)
theorem findB_s (c : UInt8) : ∀ (l : List UInt8) (i : Nat), findB c.toNat l.length (strN l) i = fnd c l i
 | [], i => rfl
 | x :: r, i => by
   have hx := UInt8.toNat_lt x
   show (bif Nat.beq ((x.toNat + 256 * strN r) % 256) c.toNat then some i else findB c.toNat r.length ((x.toNat + 256 * strN r) / 256) (Nat.succ i)) = _
   rw [show (x.toNat + 256 * strN r) % 256 = x.toNat by omega, show (x.toNat + 256 * strN r) / 256 = strN r by omega, beqN, fnd]
   by_cases h : x = c
   · subst h; rw [decide_eq_true rfl, if_pos rfl]; rfl
   · rw [decide_eq_false (fun e => h (UInt8.toNat_inj.1 e)), if_neg h, cond_false]
     exact findB_s c r (i + 1)
def xibV (x c : V) : Option V := (qop (.xib (.c x) (.c c)) [] .e .e).val
theorem v_xib {F : RO} (x c : X) (M : Mem) (t : T) : (qop (.xib x c) F M t).val = xibV (x.ev t) (c.ev t) := Eq.trans rfl (Eq.refl _)
def idxZ : Option Nat → Int
 | some k => (k : Int)
 | none => -1
theorem xibV_s (l : List UInt8) (c : UInt8) : xibV (sV l) (bV c) = some (.i .i64 (idxZ (fnd c l 0))) := by
 show (q_xib1 (findB (Nat.mod c.toNat 256) l.length (strN l) 0)).val = _
 have := UInt8.toNat_lt c
 rw [show Nat.mod c.toNat 256 = c.toNat from Nat.mod_eq_of_lt (by omega), findB_s]
 cases fnd c l 0 <;> rfl
theorem t61 (Φ : Nat → Option CF) (h : Φ 61 = some c61) (l : List UInt8) (b : UInt8) (ct : Nat) : To Φ 61 [sV l, bV b] ct (.i .i64 (idxZ (fnd b l 0))) := by
 refine to_walk h ?_
 simp only [WX, B61, v_xib, xibV_s]
def asB : V → Option UInt8
 | .i .u8 (.ofNat n) => if n < 256 then some (UInt8.ofNat n) else none
 | _ => none
theorem asB_b (b : UInt8) : asB (bV b) = some b := by
 have := UInt8.toNat_lt b
 show (if b.toNat < 256 then some (UInt8.ofNat b.toNat) else none) = _
 rw [if_pos (by omega), UInt8.ofNat_toNat]
theorem of_asB {v : V} {b : UInt8} (h : asB v = some b) : v = bV b := by
 unfold asB at h
 split at h
 · rename_i n
   split at h
   · obtain rfl := Option.some.inj h
     show V.i .u8 (n : Int) = V.i .u8 ((UInt8.ofNat n).toNat : Int)
     rw [UInt8.toNat_ofNat', Nat.mod_eq_of_lt (by omega)]
   · cases h
 · cases h
def h61 : List V → Option V
 | [v, w] => (asS v).bind fun l => (asB w).bind fun b => some (.i .i64 (idxZ (fnd b l 0)))
 | _ => none
theorem h61_eq (l : List UInt8) (b : UInt8) : h61 [sV l, bV b] = some (.i .i64 (idxZ (fnd b l 0))) := by
 show (asS (sV l)).bind (fun l => (asB (bV b)).bind fun b => some (V.i .i64 (idxZ (fnd b l 0)))) = _
 rw [asS_s, Option.bind_some, asB_b, Option.bind_some]
theorem ixS0 (b : UInt8) : ixSV (sV [b]) (.i .i64 0) = some (bV b) := ixSs [b] .i64 0 (by simp)
theorem t59 (Φ : Nat → Option CF) (h : Φ 59 = some c59) (h61 : Φ 61 = some (.orc (pureO h61))) (l : List UInt8) (b : UInt8) (ct : Nat) : To Φ 59 [sV l, sV [b]] ct (.i .i64 (idxZ (fnd b l 0))) := by
 refine to_walk h ?_
 have e : ((([b] : List UInt8).length : Nat) : Int) = 1 := rfl
 have d0 : decide (((([b] : List UInt8).length : Nat) : Int) = 0) = false := rfl
 have d1 : decide (((([b] : List UInt8).length : Nat) : Int) = 1) = true := rfl
 by_cases hl : [b] = l
 · have dl : decide ([b] = l) = true := decide_eq_true hl
   have hf : fnd b l 0 = some 0 := by rw [← hl]; simp [fnd]
   simp only [WX, Int.reduceEq, B59, Int.ofNat_one, dl, hf]
   rfl
 · have dl : decide ([b] = l) = false := decide_eq_false hl
   simp only [WX, Int.reduceEq, B59, Int.ofNat_one, dl, h61, ixS0, h61_eq]
def h59 : List V → Option V
 | [v, w] => (asS v).bind fun l => (asS w).bind fun s => match s with | [b] => some (.i .i64 (idxZ (fnd b l 0))) | _ => none
 | _ => none
theorem h59_eq (l : List UInt8) (b : UInt8) : h59 [sV l, sV [b]] = some (.i .i64 (idxZ (fnd b l 0))) := by
 show (asS (sV l)).bind (fun l => (asS (sV [b])).bind fun s => match s with | [b] => some (V.i .i64 (idxZ (fnd b l 0))) | _ => none) = _
 rw [asS_s, Option.bind_some, asS_s, Option.bind_some]
def trimP (l p : List UInt8) : List UInt8 := if p.length ≤ l.length ∧ l.take p.length = p then l.drop p.length else l
theorem t50 (Φ : Nat → Option CF) (h : Φ 50 = some c50) (l p : List UInt8) (ct : Nat) : To Φ 50 [sV l, sV p] ct (.b (decide (p.length ≤ l.length ∧ l.take p.length = p))) := by
 refine to_walk h ?_
 by_cases h1 : p.length ≤ l.length
 · have d1 : decide ((p.length : Int) ≤ (l.length : Int)) = true := decide_eq_true (by omega)
   have s1 := sl_nh l .i64 p.length h1
   have e : decide (p.length ≤ l.length ∧ l.take p.length = p) = decide (l.take p.length = p) := by simp [h1]
   rw [e]
   simp only [WX, B50, d1, s1]
 · have d1 : decide ((p.length : Int) ≤ (l.length : Int)) = false := decide_eq_false (by omega)
   have e : decide (p.length ≤ l.length ∧ l.take p.length = p) = false := decide_eq_false (fun hh => h1 hh.1)
   rw [e]
   simp only [WX, B50, d1]
def h50 : List V → Option V
 | [v, w] => (asS v).bind fun l => (asS w).bind fun p => some (.b (decide (p.length ≤ l.length ∧ l.take p.length = p)))
 | _ => none
theorem h50_eq (l p : List UInt8) : h50 [sV l, sV p] = some (.b (decide (p.length ≤ l.length ∧ l.take p.length = p))) := by
 show (asS (sV l)).bind (fun l => (asS (sV p)).bind fun p => some (V.b (decide (p.length ≤ l.length ∧ l.take p.length = p)))) = _
 rw [asS_s, Option.bind_some, asS_s, Option.bind_some]
theorem t41 (Φ : Nat → Option CF) (h : Φ 41 = some c41) (h50 : Φ 50 = some (.orc (pureO h50))) (l p : List UInt8) (ct : Nat) : To Φ 41 [sV l, sV p] ct (sV (trimP l p)) := by
 refine to_walk h ?_
 unfold trimP
 by_cases hp : p.length ≤ l.length ∧ l.take p.length = p
 · have d1 : decide (p.length ≤ l.length ∧ l.take p.length = p) = true := decide_eq_true hp
   have s1 := sl_ln l .i64 p.length hp.1
   rw [if_pos hp]
   simp only [WX, B41, h50, h50_eq, d1, s1]
 · have d1 : decide (p.length ≤ l.length ∧ l.take p.length = p) = false := decide_eq_false hp
   rw [if_neg hp]
   simp only [WX, B41, h50, h50_eq, d1]
def h41 : List V → Option V
 | [v, w] => (asS v).bind fun l => (asS w).bind fun p => some (sV (trimP l p))
 | _ => none
theorem h41_eq (l p : List UInt8) : h41 [sV l, sV p] = some (sV (trimP l p)) := by
 show (asS (sV l)).bind (fun l => (asS (sV p)).bind fun p => some (sV (trimP l p))) = _
 rw [asS_s, Option.bind_some, asS_s, Option.bind_some]
theorem t27 (Φ : Nat → Option CF) (h : Φ 27 = some c27) (h41 : Φ 41 = some (.orc (pureO h41))) (l p : List UInt8) (ct : Nat) : To Φ 27 [sV l, sV p] ct (sV (trimP l p)) := by
 refine to_walk h ?_
 simp only [WX, B27, h41, h41_eq]
def b18_1 : CC := (.reg [(qq a3 (.mv z0)), (qq a4 (.bi .lss z3 (.c (.i .i32 33)))), (qq a5 (.mv z4)), ⟨(some a6), .q (.mv z0), (some (a5, false))⟩, ⟨(some a7), .q (.bi .gtr z6 (.c (.i .i32 126))), (some (a5, false))⟩, (qq a8 (.pk z5 xT z7)), (qq a9 (.mv z8)), ⟨(some a10), .q (.mv z0), (some (a9, false))⟩, ⟨(some a11), .q (.bi .eql z10 (.c (.i .i32 47))), (some (a9, false))⟩, (qq a12 (.pk z9 xT z11)), (qq a2 (.mv z12))])
def b18_2 : CC := (.seq (.reg [(qq a2 (.mv xF))]) (.seq b18_1 .ret))
def c18 : CF := .mk 4 [.t a2] b18_2
theorem e18 (v0 : V) : argTr 4 [v0] = (.n sk3 (some v0) sk3) := rfl
def B18 := ai @e18 (ai (wu b18_1.eq_1) (wu b18_2.eq_1))
def b30_1 : CC := (.reg [(qq a6 (.mv (x6 0)))])
def b30_2 : CC := (.reg [(qq a9 (.mv z0)), (aa a10 (.rgs z9))])
def b30_3 : CC := (.reg [(ee a11 (.nxs z10)), (qq a12 (.ex 0 z11))])
def b30_4 : CC := (.reg [(qq a13 (.ex 1 z11)), (qq a14 (.ex 2 z11)), (qq a7 (.mv z13)), (qq a8 (.mv z14))])
def b30_5 : CC := (.reg [(qq a15 (.mv z1)), (qq a16 (.mv z8)), (ee a17 (.cv z15 [z16])), (qq a18 (.mv z2)), (qq a19 (.eq false .bool false z17 z18))])
def b30_6 : CC := (.reg [(qq a20 (.mv z7)), (qq a6 (.mv z20))])
def b30_7 : CC := (.seq b30_5 (.cond z19 (.seq b30_6 .ret) .skip))
def b30_8 : CC := (.seq (.cond z12 .skip (.exit 0)) (.block 1 (.seq b30_4 b30_7)))
def b30_9 : CC := (.reg [(qq a6 (.mv (x6 (-1))))])
def b30_10 : CC := (.seq (.seq b30_2 (.block 0 (.loop (.seq b30_3 b30_8)))) (.seq b30_9 .ret))
def c30 : CF := .mk 5 [.t a6] (.seq b30_1 b30_10)
theorem e30 (v0 v1 v2 : V) : argTr 5 [v0, v1, v2] = (.n (.n sk3 (some v1) sk3) (some v0) (.n sk3 (some v2) sk3)) := rfl
def B30 := ai @e30 (ai (wu b30_1.eq_1) (ai (wu b30_2.eq_1) (ai (wu b30_3.eq_1) (ai (wu b30_4.eq_1) (ai (wu b30_5.eq_1) (ai (wu b30_6.eq_1) (ai (wu b30_7.eq_1) (ai (wu b30_8.eq_1) (ai (wu b30_9.eq_1) (wu b30_10.eq_1))))))))))
def b17_1 : CC := (.reg [(qq a4 (.mv (x6 0)))])
def b17_2 : CC := (.reg [(qq a5 (.mv z0)), (qq a6 (.mv z1)), (ee a7 (.call 30 [z5, z6, xT])), (qq a4 (.mv z7))])
def c17 : CF := .mk 4 [.t a4] (.seq b17_1 (.seq b17_2 .ret))
theorem e17 (v0 v1 : V) : argTr 4 [v0, v1] = (.n (.n sk2 (some v1) sk2) (some v0) sk3) := rfl
def B17 := ai @e17 (ai (wu b17_1.eq_1) (wu b17_2.eq_1))
def b7_1 : CC := (.reg [(qq a4 (.mv z0)), (ee a5 (.call 17 [z4, (.c (.f 18 [] []))])), (qq a3 (.mv z5))])
def b7_2 : CC := (.reg [(qq a6 (.mv z0)), (qq a7 (.ln .str z6)), (qq a8 (.bi .geq z7 (x6 1))), (qq a9 (.mv z8)), ⟨(some a10), .q (.mv z0), (some (a9, true))⟩, ⟨(some a11), .q (.ln .str z10), (some (a9, true))⟩, ⟨(some a12), .q (.bi .leq z11 (x6 12)), (some (a9, true))⟩, (qq a13 (.pk z9 z12 xF)), (qq a14 (.mv z13)), ⟨(some a15), .q (.mv z3), (some (a14, true))⟩, ⟨(some a16), .q (.bi .lss z15 (x6 0)), (some (a14, true))⟩, (qq a17 (.pk z14 z16 xF)), (qq a18 (.mv z17)), ⟨(some a19), .q (.mv z0), (some (a18, true))⟩, ⟨(some a20), .q (.bi .neq z19 (.c (.s 1 46))), (some (a18, true))⟩, (qq a21 (.pk z18 z20 xF)), (qq a22 (.mv z21)), ⟨(some a23), .q (.mv z0), (some (a22, true))⟩, ⟨(some a24), .q (.bi .neq z23 (.c (.s 2 11822))), (some (a22, true))⟩, (qq a25 (.pk z22 z24 xF)), (qq a2 (.mv z25))])
def b7_3 : CC := (.seq (.reg [(qq a2 (.mv xF))]) (.seq b7_1 (.seq b7_2 .ret)))
def c7 : CF := .mk 5 [.t a2] b7_3
theorem e7 (v0 : V) : argTr 5 [v0] = (.n sk4 (some v0) sk4) := rfl
def B7 := ai @e7 (ai (wu b7_1.eq_1) (ai (wu b7_2.eq_1) (wu b7_3.eq_1)))
def b29_1 : CC := (.reg [(qq a3 (.mv z0)), (ee a4 (.call 7 [z3])), (qq a5 (.un .not z4)), (qq a2 (.mv z5))])
def b29_2 : CC := (.seq (.reg [(qq a2 (.mv xF))]) (.seq b29_1 .ret))
def c29 : CF := .mk 3 [.t a2] b29_2
theorem e29 (v0 : V) : argTr 3 [v0] = (.n sk2 (some v0) sk2) := rfl
def B29 := ai @e29 (ai (wu b29_1.eq_1) (wu b29_2.eq_1))
def okB (c : UInt8) : Bool := decide (33 ≤ c.toNat) && (decide (c.toNat ≤ 126) && !decide (c.toNat = 47))
def nameOk (l : List UInt8) : Bool := l.all okB && (decide (1 ≤ l.length) && (decide (l.length ≤ 12) && (!decide (l = [46]) && !decide (l = [46, 46]))))
def badI : List UInt8 → Nat → Option Nat
 | [], _ => none
 | c :: r, i => if okB c = true then badI r (i + 1) else some i
theorem badI_all : ∀ (l : List UInt8) (i : Nat), (badI l i = none ↔ l.all okB = true)
 | [], i => by simp [badI]
 | c :: r, i => by
   unfold badI
   cases h : okB c with
   | true => simp [h, badI_all r (i + 1)]
   | false => simp [h]
def rbad (r : Int) : Bool := decide (r < 33 ∨ 126 < r ∨ r = 47)
theorem t18 (Φ : Nat → Option CF) (h : Φ 18 = some c18) (r : Int) (ct : Nat) : To Φ 18 [.i .i32 r] ct (.b (rbad r)) := by
 refine to_walk h ?_
 unfold rbad
 by_cases h1 : r < 33
 · have d1 : decide (r < 33) = true := decide_eq_true h1
   have e : decide (r < 33 ∨ 126 < r ∨ r = 47) = true := decide_eq_true (.inl h1)
   simp only [WX, B18, d1, e]
 · have d1 : decide (r < 33) = false := decide_eq_false h1
   by_cases h2 : 126 < r
   · have d2 : decide (126 < r) = true := decide_eq_true h2
     have e : decide (r < 33 ∨ 126 < r ∨ r = 47) = true := decide_eq_true (.inr (.inl h2))
     simp only [WX, B18, d1, d2, e]
   · have d2 : decide (126 < r) = false := decide_eq_false h2
     have e : decide (r < 33 ∨ 126 < r ∨ r = 47) = decide (r = 47) := by simp [h1, h2]
     rw [e]
     simp only [WX, B18, d1, d2]
def h18 : List V → Option V
 | [.i .i32 r] => some (.b (rbad r))
 | _ => none
theorem h18_eq (r : Int) : h18 [.i .i32 r] = some (.b (rbad r)) := rfl
def siB (s : List UInt8) (pos : Nat) : Blk := .siter s.length (strN s) pos
def rgsA (v : V) (b : Nat) : Option (V × Blk) := onS v none fun n s => some (.p b 0, .siter n s 0)
theorem a_rgs_w (x : X) (b : Nat) (t : T) : aop (.rgs x) b t = rgsA (x.ev t) b := Eq.trans rfl (Eq.refl _)
theorem rgsA_s (l : List UInt8) (b : Nat) : rgsA (sV l) b = some (.p b 0, siB l 0) := Eq.trans rfl (Eq.refl _)
theorem rune_hi (s : ByteArray) (i : Nat) (h : 128 ≤ (s.get! i).toNat) : 128 ≤ (Utf8.decode s i).1 := by
 unfold Utf8.decode
 simp only [Nat.add_zero, Utf8.runeError]
 rw [if_neg (by omega)]
 repeat' split
 all_goals first | omega | (simp_all; done) | (simp_all; omega)
def nxsE (M : Mem) (c : Nat) : V → RC
 | .p b 0 => nxsIn M c b (M.get b)
 | _ => .f
theorem x_nxs_w {Φ : Nat → Option CF} {rd : Option Nat} {fn : Nat} {F : RO} (x : X) (M : Mem) (c : Nat) (t : T) : doE (.nxs x) (K Φ rd fn F) M c t = nxsE M c (x.ev t) := Eq.trans rfl (Eq.refl _)
theorem nxs_end {M : Mem} {b : Nat} {l : List UInt8} (c : Nat) (h : M.get b = some (siB l l.length)) : nxsE M c (.p b 0) = .k (.t [.b false]) M c := by
 show nxsIn M c b (M.get b) = _
 rw [h]
 show (bif Nat.blt l.length l.length then _ else RC.k (.t [.b false]) M c) = _
 rw [bltN, decide_eq_false (Nat.lt_irrefl _), cond_false]
theorem nxs_lo {M : Mem} {b : Nat} {l : List UInt8} {i : Nat} (c : Nat) (h : M.get b = some (siB l i)) (hi : i < l.length) (hc : l[i].toNat < 128) : nxsE M c (.p b 0) = .k (.t [.b true, .i .i64 (i : Int), .i .i32 (l[i].toNat : Int)]) (M.set b (siB l (i + 1))) c := by
 show nxsIn M c b (M.get b) = _
 rw [h]
 show (bif Nat.blt i l.length then (fN (Nat.mod (Nat.div (strN l) (p256 i)) 256) fun ch => bif Nat.blt ch 128 then _ else _) else _) = _
 rw [bltN, decide_eq_true hi, cond_true, fN_eq, show Nat.mod (Nat.div (strN l) (p256 i)) 256 = l[i].toNat from strN_get l i hi, bltN, decide_eq_true hc, cond_true, fN_eq, setM_eq]; rfl
theorem nxs_hi {M : Mem} {b : Nat} {l : List UInt8} {i : Nat} (c : Nat) (h : M.get b = some (siB l i)) (hi : i < l.length) (hc : 128 ≤ l[i].toNat) : ∃ r p : Nat, 128 ≤ r ∧ nxsE M c (.p b 0) = .k (.t [.b true, .i .i64 (i : Int), .i .i32 (r : Int)]) (M.set b (siB l p)) c := by
 refine ⟨(Utf8.decode (ba l.length (strN l)) i).1, i + (Utf8.decode (ba l.length (strN l)) i).2, rune_hi _ _ (by rw [ba_get hi, strN_get l i hi]; exact hc), ?_⟩
 show nxsIn M c b (M.get b) = _
 rw [h]
 show (bif Nat.blt i l.length then (fN (Nat.mod (Nat.div (strN l) (p256 i)) 256) fun ch => bif Nat.blt ch 128 then _ else nxsU M c b l.length (strN l) i (Utf8.decode (ba l.length (strN l)) i)) else _) = _
 rw [bltN, decide_eq_true hi, cond_true, fN_eq, show Nat.mod (Nat.div (strN l) (p256 i)) 256 = l[i].toNat from strN_get l i hi, bltN, decide_eq_false (by omega), cond_false]
 unfold nxsU
 rw [fN_eq, fN_eq, setM_eq]; rfl
theorem rbad_byte (b : UInt8) (h : b.toNat < 128) : rbad (b.toNat : Int) = !okB b := by
 unfold rbad okB
 by_cases h1 : 33 ≤ b.toNat <;> by_cases h2 : b.toNat ≤ 126 <;> by_cases h3 : b.toNat = 47 <;> simp [h1, h2, h3] <;> omega
theorem r30 (Φ : Nat → Option CF) (h : Φ 30 = some c30) (h18 : Φ 18 = some (.orc (pureO h18))) {F : RO} {M : Mem} {c : Nat} (ok : Okm F M c) (l : List UInt8) (hl : l.length ≤ 1000000) :
  Calls Φ F 30 [sV l, .f 18 [] [], .b true] M c fun r _ _ => r = .i .i64 (idxZ (badI l 0)) := by
 refine calls_walk h ?_
 simp only [WX, B30, a_rgs_w, rgsA_s]
 obtain ⟨I1, hI1⟩ : ∃ I : Nat → St → Prop, ∀ n s', I n s' ↔ (∃ (i : Nat) (M1 : Mem) (u : List (Option V)), n = l.length - i ∧ i ≤ l.length ∧ s' = .mk ((.n (.n (uv7 u 15 7 23 3 19 11 27) (some (.f 18 [] [])) (uv7 u 17 9 25 5 21 13 29)) (some (sV l)) (.n (uv7 u 16 8 24 4 20 12 28) (some (.b true)) (.n (.n (uv1 u 18) (some (.p c 0)) (uv1 u 26)) (some (.i .i64 0)) (uv3 u 22 14 30))))) [] M1 (c + 1) ∧ M1.get c = some (siB l i) ∧ badI l 0 = badI (l.drop i) i) := ⟨fun n s' => _, fun _ _ => Iff.rfl⟩
 refine wp_while I1 ?_ l.length _ ((hI1 _ _).2 ⟨0, M.set c (siB l 0), [none, none, none, _, _, _, none, _, _, _, none, _, _, _, _, _, _, _, _, _, _, _, _, _, _, _, _, _, _, _, _], rfl, Nat.zero_le _, rfl, get_same _ _ _, by rw [List.drop_zero]⟩)
 intro n s' hIs
 obtain ⟨i, M1, u, rfl, hi, rfl, hg, hb⟩ := (hI1 _ _).1 hIs
 clear hIs
 by_cases hlt : i < l.length
 · have hd : l.drop i = l[i] :: l.drop (i + 1) := List.drop_eq_getElem_cons hlt
   by_cases hc : l[i].toNat < 128
   · have hn := nxs_lo (c + 1) hg hlt hc
     have hr := rbad_byte l[i] hc
     cases ho : okB l[i] with
     | true =>
       rw [ho] at hr
       simp only [WX, B30, x_nxs_w, hn, h18, h18_eq, hr]
       refine ⟨l.length - (i + 1), by omega, (hI1 _ _).2 ⟨i + 1, _, [none, none, none, _, _, _, none, _, _, _, none, _, _, _, _, _, _, _, _, _, _, _, _, _, _, _, _, _, _, _, _], rfl, by omega, rfl, get_same _ _ _, ?_⟩⟩
       rw [hb, hd, badI, if_pos ho]
     | false =>
       rw [ho] at hr
       simp only [WX, B30, x_nxs_w, hn, h18, h18_eq, hr]
       rw [hb, hd, badI, if_neg (by rw [ho]; decide)]; rfl
   · obtain ⟨r, p, h1, hn⟩ := nxs_hi (c + 1) hg hlt (by omega)
     have hr : rbad (r : Int) = true := decide_eq_true (by omega)
     have ho : okB l[i] = false := by
      unfold okB
      rw [decide_eq_false (show ¬ l[i].toNat ≤ 126 by omega)]; simp
     simp only [WX, B30, x_nxs_w, hn, h18, h18_eq, hr]
     rw [hb, hd, badI, if_neg (by rw [ho]; decide)]; rfl
 · obtain rfl : i = l.length := by omega
   have hn := nxs_end (c + 1) hg
   simp only [WX, B30, x_nxs_w, hn]
   rw [hb, List.drop_length]; rfl
def h30 : List V → Option V
 | [v, .f 18 [] [], .b true] => (asS v).bind fun l => if l.length ≤ 1000000 then some (.i .i64 (idxZ (badI l 0))) else none
 | _ => none
theorem h30_eq (l : List UInt8) (hl : l.length ≤ 1000000) : h30 [sV l, .f 18 [] [], .b true] = some (.i .i64 (idxZ (badI l 0))) := by
 show (asS (sV l)).bind (fun l => if l.length ≤ 1000000 then some (V.i .i64 (idxZ (badI l 0))) else none) = _
 rw [asS_s, Option.bind_some]; exact if_pos hl
theorem t17 (Φ : Nat → Option CF) (h : Φ 17 = some c17) (h30 : Φ 30 = some (.orc (pureO h30))) (l : List UInt8) (hl : l.length ≤ 1000000) (ct : Nat) : To Φ 17 [sV l, .f 18 [] []] ct (.i .i64 (idxZ (badI l 0))) := by
 refine to_walk h ?_
 simp only [WX, B17, h30, h30_eq l hl]
def h17 : List V → Option V
 | [v, .f 18 [] []] => (asS v).bind fun l => if l.length ≤ 1000000 then some (.i .i64 (idxZ (badI l 0))) else none
 | _ => none
theorem h17_eq (l : List UInt8) (hl : l.length ≤ 1000000) : h17 [sV l, .f 18 [] []] = some (.i .i64 (idxZ (badI l 0))) := by
 show (asS (sV l)).bind (fun l => if l.length ≤ 1000000 then some (V.i .i64 (idxZ (badI l 0))) else none) = _
 rw [asS_s, Option.bind_some]; exact if_pos hl
theorem t7 (Φ : Nat → Option CF) (h : Φ 7 = some c7) (h17 : Φ 17 = some (.orc (pureO h17))) (l : List UInt8) (hl : l.length ≤ 1000000) (ct : Nat) : To Φ 7 [sV l] ct (.b (nameOk l)) := by
 refine to_walk h ?_
 have hb := badI_all l 0
 have q1 : biV .neq (sV l) (.s 1 46) = some (.b !decide (l = [46])) := bi_sne l [46]
 have q2 : biV .neq (sV l) (.s 2 11822) = some (.b !decide (l = [46, 46])) := bi_sne l [46, 46]
 have e : nameOk l = (decide ((1 : Int) ≤ (l.length : Int)) && (decide ((l.length : Int) ≤ 12) && (decide (idxZ (badI l 0) < 0) && (!decide (l = [46]) && !decide (l = [46, 46]))))) := by
  unfold nameOk
  have e1 : decide (1 ≤ l.length) = decide ((1 : Int) ≤ (l.length : Int)) := by congr 1; apply propext; omega
  have e2 : decide (l.length ≤ 12) = decide ((l.length : Int) ≤ 12) := by congr 1; apply propext; omega
  have e3 : l.all okB = decide (idxZ (badI l 0) < 0) := by
   cases hx : badI l 0 with
   | none => rw [hb.1 hx]; rfl
   | some k =>
     have : ¬ l.all okB = true := fun hh => by rw [hb.2 hh] at hx; cases hx
     rw [Bool.not_eq_true] at this
     rw [this]; exact (decide_eq_false (by show ¬ (k : Int) < 0; omega)).symm
  rw [e1, e2, e3]
  cases decide ((1 : Int) ≤ (l.length : Int)) <;> cases decide ((l.length : Int) ≤ 12) <;> cases decide (idxZ (badI l 0) < 0) <;> rfl
 rw [e]
 generalize hx4 : (!decide (l = [46])) = x4 at q1 ⊢
 generalize hx5 : (!decide (l = [46, 46])) = x5 at q2 ⊢
 cases hx1 : decide ((1 : Int) ≤ (l.length : Int)) with
 | false => simp only [WX, B7, h17, h17_eq l hl, hx1, Bool.false_and]
 | true =>
   cases hx2 : decide ((l.length : Int) ≤ 12) with
   | false => simp only [WX, B7, h17, h17_eq l hl, hx1, hx2, Bool.false_and]
   | true =>
     cases hx3 : decide (idxZ (badI l 0) < 0) with
     | false => simp only [WX, B7, h17, h17_eq l hl, hx1, hx2, hx3, Bool.false_and]
     | true =>
       cases x4 with
       | false => simp only [WX, B7, h17, h17_eq l hl, hx1, hx2, hx3, q1, Bool.false_and]
       | true => simp only [WX, B7, h17, h17_eq l hl, hx1, hx2, hx3, q1, q2]
def h7 : List V → Option V
 | [v] => (asS v).bind fun l => if l.length ≤ 1000000 then some (.b (nameOk l)) else none
 | _ => none
theorem h7_eq (l : List UInt8) (hl : l.length ≤ 1000000) : h7 [sV l] = some (.b (nameOk l)) := by
 show (asS (sV l)).bind (fun l => if l.length ≤ 1000000 then some (V.b (nameOk l)) else none) = _
 rw [asS_s, Option.bind_some]; exact if_pos hl
theorem t29 (Φ : Nat → Option CF) (h : Φ 29 = some c29) (h7 : Φ 7 = some (.orc (pureO h7))) (l : List UInt8) (hl : l.length ≤ 1000000) (ct : Nat) : To Φ 29 [sV l] ct (.b (!nameOk l)) := by
 refine to_walk h ?_
 simp only [WX, B29, h7, h7_eq l hl]
def h29 : List V → Option V
 | [v] => (asS v).bind fun l => if l.length ≤ 1000000 then some (.b (!nameOk l)) else none
 | _ => none
theorem h29_eq (l : List UInt8) (hl : l.length ≤ 1000000) : h29 [sV l] = some (.b (!nameOk l)) := by
 show (asS (sV l)).bind (fun l => if l.length ≤ 1000000 then some (V.b (!nameOk l)) else none) = _
 rw [asS_s, Option.bind_some]; exact if_pos hl
def b8_1 : CC := (.reg [(qq a3 (.mv (x6 0)))])
def b8_2 : CC := (.reg [(qq a4 (.mv z3)), (qq a5 (.mv z0)), (qq a6 (.ln .str z5)), (qq a7 (.bi .lss z4 z6))])
def b8_3 : CC := (.reg [(qq a10 (.mv z0)), (qq a11 (.mv z3)), (qq a12 (.ixS z10 z11)), (qq a13 (.bi .lss z12 (.c (.i .u8 33)))), (qq a14 (.mv z13)), ⟨(some a15), .q (.mv z0), (some (a14, false))⟩, ⟨(some a16), .q (.mv z3), (some (a14, false))⟩, ⟨(some a17), .q (.ixS z15 z16), (some (a14, false))⟩, ⟨(some a18), .q (.bi .gtr z17 (.c (.i .u8 126))), (some (a14, false))⟩, (qq a19 (.pk z14 xT z18)), (qq a20 (.mv z19)), ⟨(some a21), .q (.mv z0), (some (a20, false))⟩, ⟨(some a22), .q (.mv z3), (some (a20, false))⟩, ⟨(some a23), .q (.ixS z21 z22), (some (a20, false))⟩, ⟨(some a24), .q (.bi .eql z23 (.c (.i .u8 47))), (some (a20, false))⟩, (qq a25 (.pk z20 xT z24))])
def b8_4 : CC := (.seq (.reg [(qq a2 (.mv xF))]) .ret)
def b8_5 : CC := (.block 1 (.seq b8_3 (.cond z25 b8_4 .skip)))
def b8_6 : CC := (.reg [(qq a8 (.mv z3)), (qq a9 (.bi .add z8 (x6 1))), (qq a3 (.mv z9))])
def b8_7 : CC := (.seq (.seq b8_2 (.cond z7 .skip (.exit 0))) (.seq b8_5 b8_6))
def b8_8 : CC := (.reg [(qq a26 (.mv z0)), (qq a27 (.ln .str z26)), (qq a28 (.bi .geq z27 (x6 1))), (qq a29 (.mv z28)), ⟨(some a30), .q (.mv z0), (some (a29, true))⟩, ⟨(some a31), .q (.ln .str z30), (some (a29, true))⟩, ⟨(some a32), .q (.bi .leq z31 (x6 12)), (some (a29, true))⟩, (qq a33 (.pk z29 z32 xF)), (qq a34 (.mv z33)), ⟨(some a35), .q (.mv z0), (some (a34, true))⟩, ⟨(some a36), .q (.bi .neq z35 (.c (.s 1 46))), (some (a34, true))⟩, (qq a37 (.pk z34 z36 xF)), (qq a38 (.mv z37)), ⟨(some a39), .q (.mv z0), (some (a38, true))⟩, ⟨(some a40), .q (.bi .neq z39 (.c (.s 2 11822))), (some (a38, true))⟩, (qq a41 (.pk z38 z40 xF)), (qq a2 (.mv z41))])
def b8_9 : CC := (.seq (.reg [(qq a2 (.mv xF))]) (.seq (.seq b8_1 (.block 0 (.loop b8_7))) (.seq b8_8 .ret)))
def c8 : CF := .mk 6 [.t a2] b8_9
theorem e8 (v0 : V) : argTr 6 [v0] = (.n sk5 (some v0) sk5) := rfl
def B8 := ai @e8 (ai (wu b8_1.eq_1) (ai (wu b8_2.eq_1) (ai (wu b8_3.eq_1) (ai (wu b8_4.eq_1) (ai (wu b8_5.eq_1) (ai (wu b8_6.eq_1) (ai (wu b8_7.eq_1) (ai (wu b8_8.eq_1) (wu b8_9.eq_1)))))))))
theorem r8 (Φ : Nat → Option CF) (h : Φ 8 = some c8) (l : List UInt8) (hl : l.length ≤ 1000000) (ct : Nat) : To Φ 8 [sV l] ct (.b (nameOk l)) := by
 refine to_walk h ?_
 simp only [WX, B8]
 obtain ⟨I1, hI1⟩ : ∃ I : Nat → St → Prop, ∀ n s', I n s' ↔ (∃ (i : Nat) (u : List (Option V)), n = l.length - i ∧ i ≤ l.length ∧ s' = .mk ((.n (.n (.n (uv7 u 31 15 47 7 39 23 55) (some (.i .i64 (i : Int))) (uv7 u 35 19 51 11 43 27 59)) (uO u 1) (.n (uv7 u 33 17 49 9 41 25 57) (uO u 5) (uv7 u 37 21 53 13 45 29 61))) (some (sV l)) (.n (.n (uv7 u 32 16 48 8 40 24 56) (uO u 4) (uv7 u 36 20 52 12 44 28 60)) (some (.b false)) (.n (uv7 u 34 18 50 10 42 26 58) (uO u 6) (uv7 u 38 22 54 14 46 30 62))))) [] .e ct ∧ l.all okB = (l.drop i).all okB) := ⟨fun n s' => _, fun _ _ => Iff.rfl⟩
 refine wp_while I1 ?_ l.length _ ((hI1 _ _).2 ⟨0, [none, _, none, none, _, _, _, _, _, _, _, _, _, _, _, _, _, _, _, _, _, _, _, _, _, _, _, _, _, _, _, _, _, _, _, _, _, _, _, _, _, _, _, _, _, _, _, _, _, _, _, _, _, _, _, _, _, _, _, _, _, _, _], rfl, Nat.zero_le _, rfl, by rw [List.drop_zero]⟩)
 intro n s' hIs
 obtain ⟨i, u, rfl, hi, rfl, hb⟩ := (hI1 _ _).1 hIs
 clear hIs
 have q8 : biV .add (.i .i64 (i : Int)) (.i .i64 1) = some (.i .i64 ((i + 1 : Nat) : Int)) := by rw [i64_add _ _ (by omega) (by omega)]; simp
 by_cases hlt : i < l.length
 · have d1 : decide ((i : Int) < (l.length : Int)) = true := decide_eq_true (by omega)
   have hd : l.drop i = l[i] :: l.drop (i + 1) := List.drop_eq_getElem_cons hlt
   have hix : ixSV (sV l) (.i .i64 (i : Int)) = some (.i .u8 ((l[i]).toNat : Int)) := ixSs l .i64 i hlt
   have bad : okB l[i] = false → nameOk l = false := fun ho => by
    unfold nameOk
    rw [hb, hd, List.all_cons, ho]; rfl
   generalize hb0 : l[i] = b0 at hix bad hd
   by_cases h1 : (b0.toNat : Int) < 33
   · have e1 : decide ((b0.toNat : Int) < 33) = true := decide_eq_true h1
     have := bad (by unfold okB; rw [decide_eq_false (show ¬ 33 ≤ b0.toNat by omega)]; rfl)
     simp only [WX, B8, d1, hix, e1, this]
   · have e1 : decide ((b0.toNat : Int) < 33) = false := decide_eq_false h1
     by_cases h2 : (126 : Int) < (b0.toNat : Int)
     · have e2 : decide ((126 : Int) < (b0.toNat : Int)) = true := decide_eq_true h2
       have := bad (by unfold okB; rw [decide_eq_false (show ¬ b0.toNat ≤ 126 by omega)]; simp)
       simp only [WX, B8, d1, hix, e1, e2, this]
     · have e2 : decide ((126 : Int) < (b0.toNat : Int)) = false := decide_eq_false h2
       by_cases h3 : (b0.toNat : Int) = 47
       · have e3 : decide ((b0.toNat : Int) = 47) = true := decide_eq_true h3
         have := bad (by unfold okB; rw [decide_eq_true (show b0.toNat = 47 by omega)]; simp)
         simp only [WX, B8, d1, hix, e1, e2, e3, this]
       · have e3 : decide ((b0.toNat : Int) = 47) = false := decide_eq_false h3
         have ho : okB b0 = true := by unfold okB; rw [decide_eq_true (show 33 ≤ b0.toNat by omega), decide_eq_true (show b0.toNat ≤ 126 by omega), decide_eq_false (show ¬ b0.toNat = 47 by omega)]; rfl
         simp only [WX, B8, d1, hix, e1, e2, e3, q8]
         refine ⟨l.length - (i + 1), by omega, (hI1 _ _).2 ⟨i + 1, [none, _, none, none, _, _, _, _, _, _, _, _, _, _, _, _, _, _, _, _, _, _, _, _, _, _, _, _, _, _, _, _, _, _, _, _, _, _, _, _, _, _, _, _, _, _, _, _, _, _, _, _, _, _, _, _, _, _, _, _, _, _, _], rfl, by omega, rfl, ?_⟩⟩
         rw [hb, hd, List.all_cons, ho, Bool.true_and]
 · obtain rfl : i = l.length := by omega
   have d1 : decide ((l.length : Int) < (l.length : Int)) = false := decide_eq_false (by omega)
   have q1 : biV .neq (sV l) (.s 1 46) = some (.b !decide (l = [46])) := bi_sne l [46]
   have q2 : biV .neq (sV l) (.s 2 11822) = some (.b !decide (l = [46, 46])) := bi_sne l [46, 46]
   have e : nameOk l = (decide ((1 : Int) ≤ (l.length : Int)) && (decide ((l.length : Int) ≤ 12) && (!decide (l = [46]) && !decide (l = [46, 46])))) := by
    unfold nameOk
    have e1 : decide (1 ≤ l.length) = decide ((1 : Int) ≤ (l.length : Int)) := by congr 1; apply propext; omega
    have e2 : decide (l.length ≤ 12) = decide ((l.length : Int) ≤ 12) := by congr 1; apply propext; omega
    rw [hb, List.drop_length, e1, e2]; rfl
   rw [e]
   generalize hx4 : (!decide (l = [46])) = x4 at q1 ⊢
   generalize hx5 : (!decide (l = [46, 46])) = x5 at q2 ⊢
   cases hx1 : decide ((1 : Int) ≤ (l.length : Int)) with
   | false => simp only [WX, B8, d1, hx1, Bool.false_and]
   | true =>
     cases hx2 : decide ((l.length : Int) ≤ 12) with
     | false => simp only [WX, B8, d1, hx1, hx2, Bool.false_and]
     | true =>
       cases x4 with
       | false => simp only [WX, B8, d1, hx1, hx2, q1, Bool.false_and]
       | true => simp only [WX, B8, d1, hx1, hx2, q1, q2]
def spl (b : UInt8) : List UInt8 → List (List UInt8)
 | [] => [[]]
 | c :: r => if c = b then [] :: spl b r else (c :: (spl b r).headD []) :: (spl b r).tail
def cnt (b : UInt8) : List UInt8 → Nat
 | [] => 0
 | c :: r => if c = b then cnt b r + 1 else cnt b r
theorem spl_ne (b : UInt8) : ∀ l : List UInt8, spl b l ≠ []
 | [] => by simp [spl]
 | c :: r => by unfold spl; split <;> simp
theorem head_tail {l : List (List UInt8)} (h : l ≠ []) : l.headD [] :: l.tail = l := by
 cases l with
 | nil => exact absurd rfl h
 | cons a r => rfl
theorem spl_pre (b : UInt8) (r : List UInt8) : ∀ w : List UInt8, (∀ x ∈ w, x ≠ b) → spl b (w ++ r) = (w ++ (spl b r).headD []) :: (spl b r).tail
 | [], _ => by rw [List.nil_append, List.nil_append, head_tail (spl_ne b r)]
 | c :: w, h => by
   rw [List.cons_append, spl, if_neg (h c (List.mem_cons_self ..)), spl_pre b r w fun x hx => h x (List.mem_cons_of_mem _ hx)]; rfl
theorem spl_none {b : UInt8} {w : List UInt8} (h : ∀ x ∈ w, x ≠ b) : spl b w = [w] := by
 have := spl_pre b [] w h
 rw [List.append_nil] at this
 rw [this]; simp [spl]
theorem spl_cut {b : UInt8} {w : List UInt8} (r : List UInt8) (h : ∀ x ∈ w, x ≠ b) : spl b (w ++ b :: r) = w :: spl b r := by
 rw [spl_pre b _ w h, spl, if_pos rfl]; simp
theorem spl_len (b : UInt8) : ∀ l : List UInt8, (spl b l).length = cnt b l + 1
 | [] => rfl
 | c :: r => by
   have h := spl_len b r
   unfold spl cnt
   split
   · rw [List.length_cons, h]
   · rw [List.length_cons, List.length_tail, h]; omega
theorem cnt_le (b : UInt8) : ∀ l : List UInt8, cnt b l ≤ l.length
 | [] => Nat.le_refl _
 | c :: r => by have := cnt_le b r; unfold cnt; rw [List.length_cons]; split <;> omega
theorem cnt_none {b : UInt8} : ∀ {w : List UInt8}, (∀ x ∈ w, x ≠ b) → cnt b w = 0
 | [], _ => rfl
 | c :: w, h => by rw [cnt, if_neg (h c (List.mem_cons_self ..))]; exact cnt_none fun x hx => h x (List.mem_cons_of_mem _ hx)
theorem cnt_app (b : UInt8) : ∀ a r : List UInt8, cnt b (a ++ r) = cnt b a + cnt b r
 | [], r => by rw [List.nil_append, cnt, Nat.zero_add]
 | c :: a, r => by
   rw [List.cons_append, cnt, cnt, cnt_app b a r]
   split <;> omega
theorem fnd_spec {b : UInt8} : ∀ (l : List UInt8) (i : Nat), (fnd b l i = none ∧ ∀ x ∈ l, x ≠ b) ∨ (∃ k, fnd b l i = some (i + k) ∧ k < l.length ∧ l = l.take k ++ b :: l.drop (k + 1) ∧ ∀ x ∈ l.take k, x ≠ b)
 | [], i => .inl ⟨rfl, fun x hx => by cases hx⟩
 | c :: r, i => by
   by_cases h : c = b
   · refine .inr ⟨0, by rw [fnd, if_pos h, Nat.add_zero], by simp, by simp [h], fun x hx => by cases hx⟩
   · rcases fnd_spec r (i + 1) with ⟨h1, h2⟩ | ⟨k, h1, h2, h3, h4⟩
     · refine .inl ⟨by rw [fnd, if_neg h, h1], fun x hx => ?_⟩
       rcases List.mem_cons.1 hx with rfl | hx
       · exact h
       · exact h2 x hx
     · refine .inr ⟨k + 1, by rw [fnd, if_neg h, h1]; congr 1; omega, by rw [List.length_cons]; omega, ?_, fun x hx => ?_⟩
       · rw [List.take_succ_cons, List.drop_succ_cons, List.cons_append, ← h3]
       · rw [List.take_succ_cons] at hx
         rcases List.mem_cons.1 hx with rfl | hx
         · exact h
         · exact h4 x hx
theorem countB_s (c : UInt8) : ∀ (l : List UInt8) (r : Nat), countB c.toNat l.length (strN l) r = r + cnt c l
 | [], r => rfl
 | d :: l, r => by
   have hd := UInt8.toNat_lt d
   show countB c.toNat l.length (Nat.div (strN (d :: l)) 256) (bif Nat.beq (Nat.mod (strN (d :: l)) 256) c.toNat then Nat.succ r else r) = _
   rw [show Nat.div (strN (d :: l)) 256 = strN l by show (d.toNat + 256 * strN l) / 256 = _; omega, show Nat.mod (strN (d :: l)) 256 = d.toNat by show (d.toNat + 256 * strN l) % 256 = _; omega, beqN, countB_s c l, cnt]
   by_cases h : d = c
   · rw [decide_eq_true (show d.toNat = c.toNat by rw [h]), if_pos h, cond_true]; omega
   · rw [decide_eq_false (fun e => h (UInt8.toNat_inj.1 e)), if_neg h, cond_false]
def xcnV (x c : V) : Option V := (onS x .f fun n s => xcn1 n s (asByte c)).val
theorem v_xcn {F : RO} (x c : X) (M : Mem) (t : T) : (qop (.xcn x c) F M t).val = xcnV (x.ev t) (c.ev t) := Eq.trans rfl (Eq.refl _)
theorem xcnV_s (l : List UInt8) (c : UInt8) : xcnV (sV l) (bV c) = some (.i .i64 (cnt c l : Int)) := by
 show (fN (countB (Nat.mod c.toNat 256) l.length (strN l) 0) fun r => QR.v (.i .i64 (.ofNat r))).val = _
 have := UInt8.toNat_lt c
 rw [fN_eq, show Nat.mod c.toNat 256 = c.toNat from Nat.mod_eq_of_lt (by omega), countB_s, Nat.zero_add]; rfl
def b52_1 : CC := (.reg [(qq a4 (.mv (x6 0)))])
def b52_2 : CC := (.reg [(qq a7 (.mv z1)), (qq a8 (.ln .str z7)), (qq a9 (.bi .eql z8 (x6 0)))])
def b52_3 : CC := (.reg [(qq a10 (.mv z0)), (ee a11 (.call 56 [z10])), (qq a12 (.bi .add z11 (x6 1))), (qq a4 (.mv z12))])
def b52_4 : CC := (.seq b52_2 (.cond z9 (.seq b52_3 .ret) .skip))
def b52_5 : CC := (.reg [(qq a13 (.mv z1)), (qq a14 (.ln .str z13)), (qq a15 (.bi .eql z14 (x6 1)))])
def b52_6 : CC := (.reg [(qq a16 (.mv z0)), (qq a17 (.mv z1)), (qq a18 (.ixS z17 (x6 0))), (qq a19 (.xcn z16 z18)), (qq a4 (.mv z19))])
def b52_7 : CC := (.seq b52_5 (.cond z15 (.seq b52_6 .ret) .skip))
def b52_8 : CC := (.reg [(qq a5 (.mv (x6 0)))])
def b52_9 : CC := (.reg [(qq a20 (.mv z0)), (qq a21 (.mv z1)), (ee a22 (.call 53 [z20, z21])), (qq a6 (.mv z22))])
def b52_10 : CC := (.reg [(qq a23 (.mv z6)), (qq a24 (.bi .eql z23 (x6 (-1))))])
def b52_11 : CC := (.reg [(qq a25 (.mv z5)), (qq a4 (.mv z25))])
def b52_12 : CC := (.cond z24 (.seq b52_11 .ret) .skip)
def b52_13 : CC := (.reg [(qq a26 (.mv z5)), (qq a27 (.bi .add z26 (x6 1))), (qq a5 (.mv z27))])
def b52_14 : CC := (.reg [(qq a28 (.mv z0)), (qq a29 (.mv z6)), (qq a30 (.mv z1)), (qq a31 (.ln .str z30)), (qq a32 (.bi .add z29 z31)), (qq a33 (.slS z28 (some z32) none)), (qq a0 (.mv z33))])
def b52_15 : CC := (.seq b52_9 (.seq (.seq b52_10 b52_12) (.seq b52_13 b52_14)))
def b52_16 : CC := (.seq b52_7 (.seq b52_8 (.block 0 (.loop (.block 1 b52_15)))))
def c52 : CF := .mk 6 [.t a4] (.seq b52_1 (.seq b52_4 b52_16))
theorem e52 (v0 v1 : V) : argTr 6 [v0, v1] = (.n (.n sk4 (some v1) sk4) (some v0) sk5) := rfl
def B52 := ai @e52 (ai (wu b52_1.eq_1) (ai (wu b52_2.eq_1) (ai (wu b52_3.eq_1) (ai (wu b52_4.eq_1) (ai (wu b52_5.eq_1) (ai (wu b52_6.eq_1) (ai (wu b52_7.eq_1) (ai (wu b52_8.eq_1) (ai (wu b52_9.eq_1) (ai (wu b52_10.eq_1) (ai (wu b52_11.eq_1) (ai (wu b52_12.eq_1) (ai (wu b52_13.eq_1) (ai (wu b52_14.eq_1) (ai (wu b52_15.eq_1) (wu b52_16.eq_1))))))))))))))))
theorem t52 (Φ : Nat → Option CF) (h : Φ 52 = some c52) (l : List UInt8) (b : UInt8) (ct : Nat) : To Φ 52 [sV l, sV [b]] ct (.i .i64 (cnt b l : Int)) := by
 refine to_walk h ?_
 simp only [WX, Int.reduceEq, B52, v_xcn, xcnV_s, ixS0, Int.ofNat_one]
def h52 : List V → Option V
 | [v, w] => (asS v).bind fun l => (asS w).bind fun s => match s with | [b] => some (.i .i64 (cnt b l : Int)) | _ => none
 | _ => none
theorem h52_eq (l : List UInt8) (b : UInt8) : h52 [sV l, sV [b]] = some (.i .i64 (cnt b l : Int)) := by
 show (asS (sV l)).bind (fun l => (asS (sV [b])).bind fun s => match s with | [b] => some (V.i .i64 (cnt b l : Int)) | _ => none) = _
 rw [asS_s, Option.bind_some, asS_s, Option.bind_some]
def b53_1 : CC := (.reg [(qq a4 (.mv (x6 0)))])
def b53_2 : CC := (.reg [(qq a5 (.mv z0)), (qq a6 (.mv z1)), (ee a7 (.call 59 [z5, z6])), (qq a4 (.mv z7))])
def c53 : CF := .mk 4 [.t a4] (.seq b53_1 (.seq b53_2 .ret))
theorem e53 (v0 v1 : V) : argTr 4 [v0, v1] = (.n (.n sk2 (some v1) sk2) (some v0) sk3) := rfl
def B53 := ai @e53 (ai (wu b53_1.eq_1) (wu b53_2.eq_1))
theorem t53 (Φ : Nat → Option CF) (h : Φ 53 = some c53) (h59 : Φ 59 = some (.orc (pureO h59))) (l : List UInt8) (b : UInt8) (ct : Nat) : To Φ 53 [sV l, sV [b]] ct (.i .i64 (idxZ (fnd b l 0))) := by
 refine to_walk h ?_
 simp only [WX, B53, h59, h59_eq]
def minE (mx : Bool) (v w : V) : Option V := match minV mx v w with | some v => some v | none => none
theorem v_mn2 {F : RO} (mx : Bool) (x y : X) (M : Mem) (t : T) : (qop (.mn mx x [y]) F M t).val = minE mx (x.ev t) (y.ev t) := by
 show (qr (minAll mx t (x.ev t) [y])).val = _
 show (qr (match minV mx (x.ev t) (y.ev t) with | some v => some v | none => none)).val = _
 unfold minE
 cases minV mx (x.ev t) (y.ev t) <;> rfl
def strE (l : List (List UInt8)) : List (List V) := l.map fun w => [sV w]
theorem str_at {F : RO} {M : Mem} {c : Nat} {v : V} {l : List (List UInt8)} (hs : SlAt F M c 1 v (strE l)) (i : Nat) (hi : i < l.length) :
  ∃ b o, b < c ∧ (∀ k, iaSV 1 v (.i k (i : Int)) = some (.p b o)) ∧ load1 F M b o = some (sV l[i]) :=
 SlAt.one hs i (by simpa [strE] using hi) (by simp [strE])
theorem str_len {F : RO} {M : Mem} {c : Nat} {v : V} {l : List (List UInt8)} (hs : SlAt F M c 1 v (strE l)) : lnL v = some (.i .i64 (l.length : Int)) := by
 have := hs.len; rwa [strE, List.length_map] at this
theorem min_i64 (a b : Nat) (h : a ≤ b) : minE false (.i .i64 (a : Int)) (.i .i64 (b : Int)) = some (.i .i64 (a : Int)) := by
 unfold minE
 have : minV false (.i .i64 (a : Int)) (.i .i64 (b : Int)) = some (.i .i64 (a : Int)) := by
  show (fI (bif ltI (b : Int) (a : Int) then (b : Int) else (a : Int)) fun n => some (V.i .i64 n)) = _
  rw [show ltI (b : Int) (a : Int) = false by show Nat.blt b a = false; rw [bltN]; exact decide_eq_false (by omega), cond_false, fI_eq]
 rw [this]
theorem flat_str : ∀ P : List (List UInt8), (strE P).flatten = P.map sV
 | [] => rfl
 | w :: r => by
   have := flat_str r
   unfold strE at this ⊢
   rw [List.map_cons, List.flatten_cons, this]; rfl
theorem i64_sub (a b : Int) (h1 : -9223372036854775808 ≤ a - b) (h2 : a - b < 9223372036854775808) : biV .sub (.i .i64 a) (.i .i64 b) = some (.i .i64 (a - b)) := by
 rw [bi_sub, wrap_i64 h1 h2]
def RowS (M : Mem) (b n : Nat) (P : List (List UInt8)) : Prop := ∃ t : T, M.get b = some (.cells 9 (n * 1) true 0 false [.s 0 0] t) ∧ ∀ k, k < P.length → t.get k = (P[k]?).map sV
theorem RowS.store {M : Mem} {b n : Nat} {P : List (List UInt8)} (h : RowS M b n P) (hn : P.length < n) (w : List UInt8) : ∃ M', storeN M b (P.length * 1) [sV w] = some M' ∧ RowS M' b n (P ++ [w]) ∧ ∀ x, x ≠ b → M'.get x = M.get x := by
 obtain ⟨t, hM, ht⟩ := h
 refine ⟨_, storeN_of hM (by simp; omega) (Nat.zero_le _) rfl, ⟨_, get_same _ _ _, fun k hk => ?_⟩, fun x hx => get_ne _ _ hx⟩
 rw [listTr_get, Nat.mul_one]
 simp only [List.length_append, List.length_cons, List.length_nil] at hk
 by_cases hkk : k < P.length
 · rw [if_neg (by omega), ht k hkk, List.getElem?_append_left hkk]
 · obtain rfl : k = P.length := by omega
   rw [if_pos (by simp), List.getElem?_append_right (Nat.le_refl _)]
   simp
theorem RowS.sl {F : RO} {M : Mem} {b c : Nat} {P : List (List UInt8)} {n : Nat} (h : RowS M b n P) (hn : P.length = n) (hb : b < c) : SlAt F M c 1 (.l b 0 n n) (strE P) := by
 obtain ⟨t, hM, ht⟩ := h
 subst hn
 have hl : (strE P).length = P.length := List.length_map ..
 refine ⟨fun e he => by obtain ⟨x, _, rfl⟩ := List.mem_map.1 he; rfl, .inr ⟨b, 0, .inl ⟨P.length, by rw [hl]; exact Nat.le_refl _, by rw [hl]⟩, hb, fun k hk => ?_⟩⟩
 have hf := flat_str P
 rw [hf, List.length_map] at hk
 rw [hf, List.getElem?_map, Nat.zero_add]
 unfold load1
 rw [look_some_M hM]
 show cell (P.length * 1) [.s 0 0] t k = _
 rw [cell_eq, if_pos (by omega), ht k hk, List.getElem?_eq_getElem hk]; rfl
def b40_1 : CC := (.reg [(qq a8 (.mv (.c .l0)))])
def b40_2 : CC := (.reg [(qq a12 (.mv z3)), (qq a13 (.bi .eql z12 (x6 0)))])
def b40_3 : CC := (.reg [(qq a8 (.mv (.c .l0)))])
def b40_4 : CC := (.seq b40_2 (.cond z13 (.seq b40_3 .ret) .skip))
def b40_5 : CC := (.reg [(qq a14 (.mv z1)), (qq a15 (.bi .eql z14 (.c (.s 0 0))))])
def b40_6 : CC := (.reg [(qq a16 (.mv z0)), (qq a17 (.mv z3)), (ee a18 (.call 51 [z16, z17])), (qq a8 (.mv z18))])
def b40_7 : CC := (.seq b40_5 (.cond z15 (.seq b40_6 .ret) .skip))
def b40_8 : CC := (.reg [(qq a19 (.mv z3)), (qq a20 (.bi .lss z19 (x6 0)))])
def b40_9 : CC := (.reg [(qq a21 (.mv z0)), (qq a22 (.mv z1)), (ee a23 (.call 52 [z21, z22])), (qq a24 (.bi .add z23 (x6 1))), (qq a3 (.mv z24))])
def b40_10 : CC := (.seq b40_8 (.cond z20 b40_9 .skip))
def b40_11 : CC := (.reg [(qq a25 (.mv z3)), (qq a26 (.mv z0)), (qq a27 (.ln .str z26)), (qq a28 (.bi .add z27 (x6 1))), (qq a29 (.mn false z25 [z28])), (qq a3 (.mv z29))])
def b40_12 : CC := (.reg [(qq a30 (.mv z3)), (aa a31 (.mks 9 1 16 [(.s 0 0)] z30 z30)), (qq a9 (.mv z31))])
def b40_13 : CC := (.reg [(qq a32 (.mv z3)), (qq a33 (.bi .sub z32 (x6 1))), (qq a3 (.mv z33))])
def b40_14 : CC := (.reg [(qq a10 (.mv (x6 0)))])
def b40_15 : CC := (.reg [(qq a34 (.mv z10)), (qq a35 (.mv z3)), (qq a36 (.bi .lss z34 z35))])
def b40_16 : CC := (.seq b40_15 (.cond z36 .skip (.exit 0)))
def b40_17 : CC := (.reg [(qq a37 (.mv z0)), (qq a38 (.mv z1)), (ee a39 (.call 53 [z37, z38])), (qq a11 (.mv z39))])
def b40_18 : CC := (.reg [(qq a40 (.mv z11)), (qq a41 (.bi .lss z40 (x6 0)))])
def b40_19 : CC := (.seq b40_18 (.cond z41 (.exit 0) .skip))
def b40_20 : CC := (.reg [(qq a42 (.mv z9)), (qq a43 (.mv z10)), (qq a44 (.mv z0)), (qq a45 (.mv z11)), (qq a46 (.mv z2)), (qq a47 (.bi .add z45 z46)), (qq a48 (.slS z44 none (some z47))), (qq a49 (.iaS 1 z42 z43)), (ez (.st 1 z49 z48))])
def b40_21 : CC := (.reg [(qq a50 (.mv z0)), (qq a51 (.mv z11)), (qq a52 (.mv z1)), (qq a53 (.ln .str z52)), (qq a54 (.bi .add z51 z53)), (qq a55 (.slS z50 (some z54) none)), (qq a0 (.mv z55))])
def b40_22 : CC := (.reg [(qq a56 (.mv z10)), (qq a57 (.bi .add z56 (x6 1))), (qq a10 (.mv z57))])
def b40_23 : CC := (.seq b40_17 (.seq b40_19 (.seq b40_20 (.seq b40_21 b40_22))))
def b40_24 : CC := (.reg [(qq a58 (.mv z9)), (qq a59 (.mv z10)), (qq a60 (.mv z0)), (qq a61 (.iaS 1 z58 z59)), (ez (.st 1 z61 z60))])
def b40_25 : CC := (.reg [(qq a62 (.mv z9)), (qq a63 (.mv z10)), (qq a64 (.bi .add z63 (x6 1))), (qq a65 (.slL 1 z62 none (some z64) none)), (qq a8 (.mv z65))])
def b40_26 : CC := (.seq (.block 0 (.loop (.seq b40_16 (.block 1 b40_23)))) (.seq b40_24 (.seq b40_25 .ret)))
def b40_27 : CC := (.seq b40_11 (.seq b40_12 (.seq b40_13 (.seq b40_14 b40_26))))
def c40 : CF := .mk 7 [.t a8] (.seq b40_1 (.seq b40_4 (.seq b40_7 (.seq b40_10 b40_27))))
theorem e40 (v0 v1 v2 v3 : V) : argTr 7 [v0, v1, v2, v3] = (.n (.n (.n sk4 (some v3) sk4) (some v1) sk5) (some v0) (.n sk5 (some v2) sk5)) := rfl
def B40 := ai @e40 (ai (wu b40_1.eq_1) (ai (wu b40_2.eq_1) (ai (wu b40_3.eq_1) (ai (wu b40_4.eq_1) (ai (wu b40_5.eq_1) (ai (wu b40_6.eq_1) (ai (wu b40_7.eq_1) (ai (wu b40_8.eq_1) (ai (wu b40_9.eq_1) (ai (wu b40_10.eq_1) (ai (wu b40_11.eq_1) (ai (wu b40_12.eq_1) (ai (wu b40_13.eq_1) (ai (wu b40_14.eq_1) (ai (wu b40_15.eq_1) (ai (wu b40_16.eq_1) (ai (wu b40_17.eq_1) (ai (wu b40_18.eq_1) (ai (wu b40_19.eq_1) (ai (wu b40_20.eq_1) (ai (wu b40_21.eq_1) (ai (wu b40_22.eq_1) (ai (wu b40_23.eq_1) (ai (wu b40_24.eq_1) (ai (wu b40_25.eq_1) (ai (wu b40_26.eq_1) (wu b40_27.eq_1)))))))))))))))))))))))))))
def b26_1 : CC := (.reg [(qq a5 (.mv z0)), (qq a6 (.mv z1)), (ee a7 (.call 40 [z5, z6, (x6 0), (x6 (-1))])), (qq a4 (.mv z7))])
def b26_2 : CC := (.seq (.reg [(qq a4 (.mv (.c .l0)))]) (.seq b26_1 .ret))
def c26 : CF := .mk 4 [.t a4] b26_2
theorem e26 (v0 v1 : V) : argTr 4 [v0, v1] = (.n (.n sk2 (some v1) sk2) (some v0) sk3) := rfl
def B26 := ai @e26 (ai (wu b26_1.eq_1) (wu b26_2.eq_1))
theorem r40 (Φ : Nat → Option CF) (h : Φ 40 = some c40) (h52 : Φ 52 = some (.orc (pureO h52))) (h53 : Φ 53 = some (.orc (pureO h59))) {F : RO} {M : Mem} {c : Nat} (ok : Okm F M c) (l : List UInt8) (hl : l.length ≤ 1000000) :
  Calls Φ F 40 [sV l, sV [47], .i .i64 0, .i .i64 (-1)] M c fun r M' c' => SlAt F M' c' 1 r (strE (spl 47 l)) ∧ Gr c M c' M' := by
 refine calls_walk h ?_
 have q0 : biV .eql (sV [47]) (.s 0 0) = some (.b false) := bi_seq [47] []
 have hcl := cnt_le 47 l
 have ha1 : biV .add (.i .i64 (cnt 47 l : Int)) (.i .i64 1) = some (.i .i64 ((cnt 47 l + 1 : Nat) : Int)) := by rw [i64_add _ _ (by omega) (by omega)]; simp
 have ha2 : biV .add (.i .i64 (l.length : Int)) (.i .i64 1) = some (.i .i64 ((l.length + 1 : Nat) : Int)) := by rw [i64_add _ _ (by omega) (by omega)]; simp
 have hs1 : biV .sub (.i .i64 ((cnt 47 l + 1 : Nat) : Int)) (.i .i64 1) = some (.i .i64 (cnt 47 l : Int)) := by rw [i64_sub _ _ (by omega) (by omega)]; simp
 have hmn := min_i64 (cnt 47 l + 1) (l.length + 1) (by omega)
 have hmk := mksA_i 9 1 16 [.s 0 0] .i64 .i64 (cnt 47 l + 1) (cnt 47 l + 1) c (Nat.le_refl _) (by omega)
 simp only [WX, Int.reduceLT, reduceCtorEq, B40, q0, h52, h52_eq, ha1, ha2, v_mn2, hmn, hmk, hs1]
 obtain ⟨I1, hI1⟩ : ∃ I : Nat → St → Prop, ∀ n s', I n s' ↔ (∃ (i : Nat) (r : List UInt8) (P : List (List UInt8)) (M1 : Mem) (u : List (Option V)), n = cnt 47 l - i ∧ i ≤ cnt 47 l ∧ s' = .mk ((.n (.n (.n (.n (uv7 u 63 31 95 15 79 47 111) (uO u 7) (uv7 u 71 39 103 23 87 55 119)) (some (.i .i64 (cnt 47 l : Int))) (.n (uv7 u 67 35 99 19 83 51 115) (uO u 11) (uv7 u 75 43 107 27 91 59 123))) (some (sV [47])) (.n (.n (uv7 u 65 33 97 17 81 49 113) (some (.l c 0 (cnt 47 l + 1) (cnt 47 l + 1))) (uv7 u 73 41 105 25 89 57 121)) (uO u 5) (.n (uv7 u 69 37 101 21 85 53 117) (uO u 13) (uv7 u 77 45 109 29 93 61 125)))) (some (sV r)) (.n (.n (.n (uv7 u 64 32 96 16 80 48 112) (some (.l0)) (uv7 u 72 40 104 24 88 56 120)) (uO u 4) (.n (uv7 u 68 36 100 20 84 52 116) (uO u 12) (uv7 u 76 44 108 28 92 60 124))) (some (.i .i64 0)) (.n (.n (uv7 u 66 34 98 18 82 50 114) (some (.i .i64 (i : Int))) (uv7 u 74 42 106 26 90 58 122)) (uO u 6) (.n (uv7 u 70 38 102 22 86 54 118) (uO u 14) (uv7 u 78 46 110 30 94 62 126)))))) [] M1 (c + 1) ∧ RowS M1 c (cnt 47 l + 1) P ∧ Gr c M (c + 1) M1 ∧ P.length = i ∧ spl 47 l = P ++ spl 47 r ∧ cnt 47 r = cnt 47 l - i ∧ r.length ≤ l.length) := ⟨fun n s' => _, fun _ _ => Iff.rfl⟩
 refine wp_while I1 ?_ (cnt 47 l) _ ((hI1 _ _).2 ⟨0, l, [], _, [none, none, none, none, _, _, _, _, none, none, none, _, _, _, _, _, _, _, _, _, _, _, _, _, _, _, _, _, _, _, _, _, _, _, _, _, _, _, _, _, _, _, _, _, _, _, _, _, _, _, _, _, _, _, _, _, _, _, _, _, _, _, _, _, _, _, _, _, _, _, _, _, _, _, _, _, _, _, _, _, _, _, _, _, _, _, _, _, _, _, _, _, _, _, _, _, _, _, _, _, _, _, _, _, _, _, _, _, _, _, _, _, _, _, _, _, _, _, _, _, _, _, _, _, _, _, _], rfl, Nat.zero_le _, rfl, ⟨.e, get_same _ _ _, fun k hk => by cases hk⟩, (Gr.refl ok).set c _ (Nat.le_refl _) (Nat.lt_succ_self _) (Nat.le_succ _), rfl, rfl, rfl, Nat.le_refl _⟩)
 intro n s' hIs
 obtain ⟨i, r, P, M1, u, rfl, hi, rfl, hR, gr1, hP, hsp, hcr, hrl⟩ := (hI1 _ _).1 hIs
 clear hIs
 have q8 : biV .add (.i .i64 (i : Int)) (.i .i64 1) = some (.i .i64 ((i + 1 : Nat) : Int)) := by rw [i64_add _ _ (by omega) (by omega)]; simp
 have hia := iaS_l 1 c 0 (cnt 47 l + 1) (cnt 47 l + 1) i .i64 (by omega)
 have hS : ∀ l, isOne (sV l) = true := fun _ => rfl
 have hF : ∀ l, flatten (sV l) = [sV l] := fun _ => rfl
 subst hP
 by_cases hlt : P.length < cnt 47 l
 · have d1 : decide ((P.length : Int) < (cnt 47 l : Int)) = true := decide_eq_true (by omega)
   rcases fnd_spec (b := 47) r 0 with ⟨_, hno⟩ | ⟨k, hf, hk, hcut, hno⟩
   · have := cnt_none hno; omega
   · rw [Nat.zero_add] at hf
     have hz : idxZ (fnd 47 r 0) = (k : Int) := by rw [hf]; rfl
     have d2 : decide ((k : Int) < 0) = false := decide_eq_false (by omega)
     have a0 : biV .add (.i .i64 (k : Int)) (.i .i64 0) = some (.i .i64 (k : Int)) := by rw [i64_add _ _ (by omega) (by omega)]; simp
     have a1 : biV .add (.i .i64 (k : Int)) (.i .i64 1) = some (.i .i64 ((k + 1 : Nat) : Int)) := by rw [i64_add _ _ (by omega) (by omega)]; simp
     have s1 := sl_nh r .i64 k (by omega)
     have s2 := sl_ln r .i64 (k + 1) (by omega)
     obtain ⟨M2, hst, hR2, ho⟩ := hR.store (by omega) (r.take k)
     simp only [WX, B40, d1, h53, h59_eq, hz, d2, a0, a1, s1, s2, hia, hst, hF, q8, Int.ofNat_one]
     refine ⟨cnt 47 l - (P.length + 1), by omega, (hI1 _ _).2 ⟨P.length + 1, r.drop (k + 1), P ++ [r.take k], M2, [none, none, none, none, _, _, _, _, none, none, none, _, _, _, _, _, _, _, _, _, _, _, _, _, _, _, _, _, _, _, _, _, _, _, _, _, _, _, _, _, _, _, _, _, _, _, _, _, _, _, _, _, _, _, _, _, _, _, _, _, _, _, _, _, _, _, _, _, _, _, _, _, _, _, _, _, _, _, _, _, _, _, _, _, _, _, _, _, _, _, _, _, _, _, _, _, _, _, _, _, _, _, _, _, _, _, _, _, _, _, _, _, _, _, _, _, _, _, _, _, _, _, _, _, _, _, _], rfl, by omega, rfl, hR2, ?_, by simp, ?_, ?_, by rw [List.length_drop]; omega⟩⟩
     · exact ⟨Nat.le_succ _, fun b hb => by rw [ho b (by omega)]; exact gr1.old b hb, fun b hb => by rw [ho b (by omega)]; exact gr1.new b hb⟩
     · rw [hsp, List.append_assoc]
       congr 1
       conv => lhs; rw [hcut]
       rw [spl_cut _ hno]; rfl
     · have := congrArg (cnt 47) hcut
       rw [cnt_app, cnt, if_pos rfl, cnt_none hno] at this
       omega
 · have d1 : decide ((P.length : Int) < (cnt 47 l : Int)) = false := decide_eq_false (by omega)
   have hPl : P.length = cnt 47 l := by omega
   have hno : ∀ x ∈ r, x ≠ 47 := by
    rcases fnd_spec (b := 47) r 0 with ⟨_, hno⟩ | ⟨k, hf, hk, hcut, hno⟩
    · exact hno
    · have := congrArg (cnt 47) hcut
      rw [cnt_app, cnt, if_pos rfl, cnt_none hno] at this
      omega
   obtain ⟨M2, hst, hR2, ho⟩ := hR.store (by omega) r
   have hsl := hR2.sl (F := F) (c := c + 1) (by simp; omega) (Nat.lt_succ_self _)
   have hlen : (strE (P ++ [r])).length = P.length + 1 := by simp [strE]
   obtain ⟨v', _, e2, _, _, hs'⟩ := slLV_of hsl (lo := 0) (hi := P.length + 1) (Nat.zero_le _) (by omega)
   have e2 := e2 rfl .i64
   simp only [WX, B40, d1, hia, hst, hF, q8, e2]
   refine ⟨?_, ⟨Nat.le_succ _, fun b hb => by rw [ho b (by omega)]; exact gr1.old b hb, fun b hb => by rw [ho b (by omega)]; exact gr1.new b hb⟩⟩
   rw [hsp, spl_none hno]
   rw [List.drop_zero, List.take_of_length_le (by omega)] at hs'
   exact hs'
def badW : List (List UInt8) → Nat → Option Nat
 | [], _ => none
 | w :: r, i => if nameOk w = true then badW r (i + 1) else some i
theorem badW_all : ∀ (l : List (List UInt8)) (i : Nat), decide ((0 : Int) ≤ idxZ (badW l i)) = !(l.all nameOk)
 | [], i => rfl
 | w :: r, i => by
   unfold badW
   cases h : nameOk w with
   | true => simp only [if_true, List.all_cons, h, Bool.true_and]; exact badW_all r (i + 1)
   | false =>
     simp only [Bool.false_eq_true, if_false, List.all_cons, h, Bool.false_and, Bool.not_false]
     exact decide_eq_true (by show (0 : Int) ≤ (i : Int); omega)
def b42_1 : CC := (.reg [(qq a4 (.mv (x6 0)))])
def b42_2 : CC := (.reg [(qq a6 (.mv z0)), (qq a7 (.ln .slice z6)), (qq a8 (.mv (x6 0)))])
def b42_3 : CC := (.reg [(qq a9 (.bi .lss z8 z7))])
def b42_4 : CC := (.reg [(qq a10 (.mv z8)), (qq a5 (.mv z10))])
def b42_5 : CC := (.reg [(qq a11 (.mv z1)), (qq a12 (.mv z0)), (qq a13 (.mv z5)), (qq a14 (.iaS 1 z12 z13)), (qq a15 (.ld1 z14)), (ee a16 (.cv z11 [z15]))])
def b42_6 : CC := (.reg [(qq a17 (.mv z5)), (qq a4 (.mv z17))])
def b42_7 : CC := (.seq b42_5 (.cond z16 (.seq b42_6 .ret) .skip))
def b42_8 : CC := (.reg [(qq a18 (.bi .add z8 (x6 1))), (qq a8 (.mv z18))])
def b42_9 : CC := (.seq (.cond z9 .skip (.exit 0)) (.seq (.block 1 (.seq b42_4 b42_7)) b42_8))
def b42_10 : CC := (.reg [(qq a4 (.mv (x6 (-1))))])
def b42_11 : CC := (.seq (.seq b42_2 (.block 0 (.loop (.seq b42_3 b42_9)))) (.seq b42_10 .ret))
def c42 : CF := .mk 5 [.t a4] (.seq b42_1 b42_11)
theorem e42 (v0 v1 : V) : argTr 5 [v0, v1] = (.n (.n sk3 (some v1) sk3) (some v0) sk4) := rfl
def B42 := ai @e42 (ai (wu b42_1.eq_1) (ai (wu b42_2.eq_1) (ai (wu b42_3.eq_1) (ai (wu b42_4.eq_1) (ai (wu b42_5.eq_1) (ai (wu b42_6.eq_1) (ai (wu b42_7.eq_1) (ai (wu b42_8.eq_1) (ai (wu b42_9.eq_1) (ai (wu b42_10.eq_1) (wu b42_11.eq_1)))))))))))
def b28_1 : CC := (.reg [(qq a4 (.mv xF))])
def b28_2 : CC := (.reg [(qq a5 (.mv z0)), (qq a6 (.mv z1)), (ee a7 (.call 42 [z5, z6])), (qq a8 (.bi .geq z7 (x6 0))), (qq a4 (.mv z8))])
def c28 : CF := .mk 4 [.t a4] (.seq b28_1 (.seq b28_2 .ret))
theorem e28 (v0 v1 : V) : argTr 4 [v0, v1] = (.n (.n sk2 (some v1) sk2) (some v0) sk3) := rfl
def B28 := ai @e28 (ai (wu b28_1.eq_1) (wu b28_2.eq_1))
theorem r42 (Φ : Nat → Option CF) (h : Φ 42 = some c42) (h29 : Φ 29 = some (.orc (pureO h29))) {F : RO} {M : Mem} {c : Nat} {v : V} {l : List (List UInt8)} (hs : SlAt F M c 1 v (strE l)) (hl : l.length ≤ 1000000) (hw : ∀ w ∈ l, w.length ≤ 1000000) :
  Calls Φ F 42 [v, .f 29 [] []] M c fun r _ _ => r = .i .i64 (idxZ (badW l 0)) := by
 refine calls_walk h ?_
 have hln := str_len hs
 simp only [WX, B42, hln]
 obtain ⟨I1, hI1⟩ : ∃ I : Nat → St → Prop, ∀ n s', I n s' ↔ (∃ (i : Nat) (u : List (Option V)), n = l.length - i ∧ i ≤ l.length ∧ s' = .mk ((.n (.n (.n (.n (uv1 u 15) (some (.i .i64 (l.length : Int))) (uv1 u 23)) (uO u 3) (uv3 u 19 11 27)) (some (.f 29 [] [])) (uv7 u 17 9 25 5 21 13 29)) (some (v)) (.n (.n (.n (uv1 u 16) (some (.i .i64 (i : Int))) (uv1 u 24)) (some (.i .i64 0)) (uv3 u 20 12 28)) (uO u 2) (uv7 u 18 10 26 6 22 14 30)))) [] M c ∧ badW l 0 = badW (l.drop i) i) := ⟨fun n s' => _, fun _ _ => Iff.rfl⟩
 refine wp_while I1 ?_ l.length _ ((hI1 _ _).2 ⟨0, [none, none, _, _, none, _, _, none, none, _, _, _, _, _, _, _, _, _, _, _, _, _, _, _, _, _, _, _, _, _, _], rfl, Nat.zero_le _, rfl, by rw [List.drop_zero]⟩)
 intro n s' hIs
 obtain ⟨i, u, rfl, hi, rfl, hb⟩ := (hI1 _ _).1 hIs
 clear hIs
 have q8 : biV .add (.i .i64 (i : Int)) (.i .i64 1) = some (.i .i64 ((i + 1 : Nat) : Int)) := by rw [i64_add _ _ (by omega) (by omega)]; simp
 by_cases hlt : i < l.length
 · have d1 : decide ((i : Int) < (l.length : Int)) = true := decide_eq_true (by omega)
   have hd : l.drop i = l[i] :: l.drop (i + 1) := List.drop_eq_getElem_cons hlt
   obtain ⟨bb, oo, _, hia, hld⟩ := str_at hs i hlt
   have hia := hia .i64
   have hh := h29_eq l[i] (hw _ (List.getElem_mem hlt))
   cases ho : nameOk l[i] with
   | true =>
     rw [ho] at hh
     simp only [WX, B42, d1, hia, hld, h29, hh, q8]
     refine ⟨l.length - (i + 1), by omega, (hI1 _ _).2 ⟨i + 1, [none, none, _, _, none, _, _, none, none, _, _, _, _, _, _, _, _, _, _, _, _, _, _, _, _, _, _, _, _, _, _], rfl, by omega, rfl, ?_⟩⟩
     rw [hb, hd, badW, if_pos ho]
   | false =>
     rw [ho] at hh
     simp only [WX, B42, d1, hia, hld, h29, hh]
     rw [hb, hd, badW, if_neg (by rw [ho]; decide)]; rfl
 · obtain rfl : i = l.length := by omega
   have d1 : decide ((l.length : Int) < (l.length : Int)) = false := decide_eq_false (by omega)
   simp only [WX, B42, d1]
   rw [hb, List.drop_length]; rfl
theorem r28 (Φ : Nat → Option CF) (h : Φ 28 = some c28) (h42 : Φ 42 = some c42) (h29 : Φ 29 = some (.orc (pureO h29))) {F : RO} {M : Mem} {c : Nat} {v : V} {l : List (List UInt8)} (hs : SlAt F M c 1 v (strE l)) (hl : l.length ≤ 1000000) (hw : ∀ w ∈ l, w.length ≤ 1000000) :
  Calls Φ F 28 [v, .f 29 [] []] M c fun r _ _ => r = .b (!(l.all nameOk)) := by
 refine calls_walk h ?_
 simp only [WX, B28]
 refine putE_to ((r42 Φ h42 h29 hs hl hw).mono ?_)
 rintro r M1 c1 rfl
 have hb := badW_all l 0
 simp only [WX, hb]
theorem r26 (Φ : Nat → Option CF) (h : Φ 26 = some c26) (h40 : Φ 40 = some c40) (h52 : Φ 52 = some (.orc (pureO h52))) (h53 : Φ 53 = some (.orc (pureO h59))) {F : RO} {M : Mem} {c : Nat} (ok : Okm F M c) (l : List UInt8) (hl : l.length ≤ 1000000) :
  Calls Φ F 26 [sV l, sV [47]] M c fun r M' c' => SlAt F M' c' 1 r (strE (spl 47 l)) ∧ Gr c M c' M' := by
 refine calls_walk h ?_
 simp only [WX, B26]
 refine putE_to ((r40 Φ h40 h52 h53 ok l hl).mono ?_)
 rintro r M1 c1 ⟨h1, h2⟩
 simp only [WX]
 exact ⟨h1, h2⟩
theorem spl_bound (b : UInt8) : ∀ l : List UInt8, ∀ w ∈ spl b l, w.length ≤ l.length
 | [], w, h => by rw [List.mem_singleton.1 h]; exact Nat.le_refl _
 | c :: r, w, h => by
   unfold spl at h
   have ih := spl_bound b r
   split at h
   · rcases List.mem_cons.1 h with e | h
     · rw [e]; exact Nat.zero_le _
     · have := ih w h; rw [List.length_cons]; omega
   · rcases List.mem_cons.1 h with e | h
     · subst e
       have : (spl b r).headD [] ∈ spl b r := by
        have := spl_ne b r
        cases hh : spl b r with
        | nil => exact absurd hh this
        | cons a q => exact List.mem_cons_self ..
       have := ih _ this
       rw [List.length_cons, List.length_cons]; omega
     · have := ih w (List.mem_of_mem_tail h); rw [List.length_cons]; omega
def pathOk (s : List UInt8) : Bool := decide (s.length ≤ 64) && (decide (s = [47]) || (spl 47 (trimP s [47])).all nameOk)
def b15_1 : CC := (.reg [(qq a2 (.mv (.c .l0))), (qq a3 (.mv xF))])
def b15_2 : CC := (.reg [(qq a5 (.mv z0)), (qq a6 (.ln .str z5)), (qq a7 (.bi .gtr z6 (x6 64)))])
def b15_3 : CC := (.reg [(qq a2 (.mv (.c .l0))), (qq a3 (.mv xF))])
def b15_4 : CC := (.seq b15_2 (.cond z7 (.seq b15_3 .ret) .skip))
def b15_5 : CC := (.reg [(qq a8 (.mv z0)), (qq a9 (.bi .eql z8 (.c (.s 1 47))))])
def b15_6 : CC := (.reg [(qq a2 (.mv (.c .l0))), (qq a3 (.mv xT))])
def b15_7 : CC := (.seq b15_5 (.cond z9 (.seq b15_6 .ret) .skip))
def b15_8 : CC := (.reg [(qq a10 (.mv z0)), (ee a11 (.call 27 [z10, (.c (.s 1 47))])), (ee a12 (.call 26 [z11, (.c (.s 1 47))])), (qq a4 (.mv z12))])
def b15_9 : CC := (.reg [(qq a13 (.mv z4)), (qq a14 (.mv z4)), (ee a15 (.call 28 [z14, (.c (.f 29 [] []))])), (qq a16 (.un .not z15)), (qq a2 (.mv z13)), (qq a3 (.mv z16))])
def b15_10 : CC := (.seq b15_1 (.seq b15_4 (.seq b15_7 (.seq b15_8 (.seq b15_9 .ret)))))
def c15 : CF := .mk 5 [.t a2, .t a3] b15_10
theorem e15 (v0 : V) : argTr 5 [v0] = (.n sk4 (some v0) sk4) := rfl
def B15 := ai @e15 (ai (wu b15_1.eq_1) (ai (wu b15_2.eq_1) (ai (wu b15_3.eq_1) (ai (wu b15_4.eq_1) (ai (wu b15_5.eq_1) (ai (wu b15_6.eq_1) (ai (wu b15_7.eq_1) (ai (wu b15_8.eq_1) (ai (wu b15_9.eq_1) (wu b15_10.eq_1))))))))))
def b5_1 : CC := (.reg [(qq a6 (.mv z0)), (ee a7 (.call 15 [z6])), (qq a5 (.mv z7)), (qq a8 (.ex 0 z5)), (qq a9 (.ex 1 z5)), (qq a3 (.mv z8)), (qq a4 (.mv z9))])
def b5_2 : CC := (.reg [(qq a10 (.mv z4)), (qq a2 (.mv z10))])
def b5_3 : CC := (.seq (.reg [(qq a2 (.mv xF))]) (.seq b5_1 (.seq b5_2 .ret)))
def c5 : CF := .mk 4 [.t a2] b5_3
theorem e5 (v0 : V) : argTr 4 [v0] = (.n sk3 (some v0) sk3) := rfl
def B5 := ai @e5 (ai (wu b5_1.eq_1) (ai (wu b5_2.eq_1) (wu b5_3.eq_1)))
theorem r15 (Φ : Nat → Option CF) (h : Φ 15 = some c15) (h27 : Φ 27 = some (.orc (pureO h41))) (h26 : Φ 26 = some c26) (h40 : Φ 40 = some c40) (h52 : Φ 52 = some (.orc (pureO h52))) (h53 : Φ 53 = some (.orc (pureO h59))) (h28 : Φ 28 = some c28) (h42 : Φ 42 = some c42) (h29 : Φ 29 = some (.orc (pureO h29)))
  {F : RO} {M : Mem} {c : Nat} (ok : Okm F M c) (s : List UInt8) : Calls Φ F 15 [sV s] M c fun r _ _ => ∃ v, r = .t [v, .b (pathOk s)] := by
 refine calls_walk h ?_
 have q0 : biV .eql (sV s) (.s 1 47) = some (.b (decide (s = [47]))) := bi_seq s [47]
 have e47 : V.s 1 47 = sV [47] := rfl
 by_cases h64 : 64 < s.length
 · have d1 : decide ((64 : Int) < (s.length : Int)) = true := decide_eq_true (by omega)
   have hp : pathOk s = false := by unfold pathOk; rw [decide_eq_false (by omega)]; rfl
   simp only [WX, B15, d1, hp]
   exact ⟨_, rfl⟩
 · have d1 : decide ((64 : Int) < (s.length : Int)) = false := decide_eq_false (by omega)
   by_cases hs : s = [47]
   · have d2 : decide (s = [47]) = true := decide_eq_true hs
     have hp : pathOk s = true := by unfold pathOk; rw [d2, decide_eq_true (by omega)]; rfl
     rw [d2] at q0
     simp only [WX, B15, d1, q0, hp]
     exact ⟨_, rfl⟩
   · have d2 : decide (s = [47]) = false := decide_eq_false hs
     have hp : pathOk s = (spl 47 (trimP s [47])).all nameOk := by unfold pathOk; rw [d2, decide_eq_true (by omega)]; simp
     rw [d2] at q0
     have htl : (trimP s [47]).length ≤ 64 := by unfold trimP; split <;> (try rw [List.length_drop]) <;> omega
     have h1 := h41_eq s [47]
     rw [← e47] at h1
     simp only [WX, B15, d1, q0, h27, h1]
     rw [e47]
     refine putE_to ((r26 Φ h26 h40 h52 h53 ok (trimP s [47]) (by omega)).mono ?_)
     rintro v M1 c1 ⟨hv, hg⟩
     have hsl := spl_len 47 (trimP s [47])
     have hcl := cnt_le 47 (trimP s [47])
     simp only [WX, B15]
     refine putE_to ((r28 Φ h28 h42 h29 hv (by omega) (fun w hw => by have := spl_bound 47 _ w hw; omega)).mono ?_)
     rintro r M2 c2 rfl
     simp only [WX, Bool.not_not]
     exact ⟨v, by rw [hp]⟩
theorem r5 (Φ : Nat → Option CF) (h : Φ 5 = some c5) (h15 : Φ 15 = some c15) (h27 : Φ 27 = some (.orc (pureO h41))) (h26 : Φ 26 = some c26) (h40 : Φ 40 = some c40) (h52 : Φ 52 = some (.orc (pureO h52))) (h53 : Φ 53 = some (.orc (pureO h59))) (h28 : Φ 28 = some c28) (h42 : Φ 42 = some c42) (h29 : Φ 29 = some (.orc (pureO h29)))
  {F : RO} {M : Mem} {c : Nat} (ok : Okm F M c) (s : List UInt8) : Calls Φ F 5 [sV s] M c fun r _ _ => r = .b (pathOk s) := by
 refine calls_walk h ?_
 simp only [WX, B5]
 refine putE_to ((r15 Φ h15 h27 h26 h40 h52 h53 h28 h42 h29 ok s).mono ?_)
 rintro r M1 c1 ⟨v, rfl⟩
 simp only [WX, B5]
def b16_1 : CC := (.reg [(qq a2 (.mv (.c .l0))), (qq a3 (.mv xF)), (qq a4 (.mv xF))])
def w16_1 := wu b16_1.eq_1
def b16_2 : CC := (.reg [(qq a9 (.mv z0)), (qq a10 (.ln .str z9)), (qq a11 (.bi .lss z10 (x6 1))), (qq a12 (.mv z11)), ⟨(some a13), .q (.mv z0), (some (a12, false))⟩, ⟨(some a14), .q (.ln .str z13), (some (a12, false))⟩, ⟨(some a15), .q (.bi .gtr z14 (x6 64)), (some (a12, false))⟩, (qq a16 (.pk z12 xT z15))])
def w16_2 := wu b16_2.eq_1
def b16_3 : CC := (.reg [(qq a2 (.mv (.c .l0))), (qq a3 (.mv xF)), (qq a4 (.mv xF))])
def w16_3 := wu b16_3.eq_1
def b16_4 : CC := (.seq b16_2 (.cond z16 (.seq b16_3 .ret) .skip))
def w16_4 := wu b16_4.eq_1
def b16_5 : CC := (.reg [(qq a17 (.mv z0)), (qq a18 (.bi .eql z17 (.c (.s 1 47))))])
def w16_5 := wu b16_5.eq_1
def b16_6 : CC := (.reg [(qq a2 (.mv (.c .l0))), (qq a3 (.mv xT)), (qq a4 (.mv xT))])
def w16_6 := wu b16_6.eq_1
def b16_7 : CC := (.seq b16_5 (.cond z18 (.seq b16_6 .ret) .skip))
def w16_7 := wu b16_7.eq_1
def b16_8 : CC := (.reg [(qq a19 (.mv z0)), (qq a20 (.ixS z19 (x6 0))), (qq a21 (.bi .eql z20 (.c (.i .u8 47)))), (qq a5 (.mv z21))])
def w16_8 := wu b16_8.eq_1
def b16_9 : CC := (.reg [(qq a22 (.mv z5))])
def w16_9 := wu b16_9.eq_1
def b16_10 : CC := (.reg [(qq a23 (.mv z0)), (qq a24 (.slS z23 (some (x6 1)) none)), (qq a0 (.mv z24))])
def w16_10 := wu b16_10.eq_1
def b16_11 : CC := (.seq b16_9 (.cond z22 b16_10 .skip))
def w16_11 := wu b16_11.eq_1
def b16_12 : CC := (.reg [(qq a7 (.mv (x6 0)))])
def w16_12 := wu b16_12.eq_1
def b16_13 : CC := (.reg [(qq a8 (.mv (x6 0)))])
def w16_13 := wu b16_13.eq_1
def b16_14 : CC := (.reg [(qq a25 (.mv z8)), (qq a26 (.mv z0)), (qq a27 (.ln .str z26)), (qq a28 (.bi .leq z25 z27))])
def w16_14 := wu b16_14.eq_1
def b16_15 : CC := (.seq b16_14 (.cond z28 .skip (.exit 0)))
def w16_15 := wu b16_15.eq_1
def b16_16 : CC := (.reg [(qq a31 (.mv z8)), (qq a32 (.mv z0)), (qq a33 (.ln .str z32)), (qq a34 (.bi .eql z31 z33)), (qq a35 (.mv z34)), ⟨(some a36), .q (.mv z0), (some (a35, false))⟩, ⟨(some a37), .q (.mv z8), (some (a35, false))⟩, ⟨(some a38), .q (.ixS z36 z37), (some (a35, false))⟩, ⟨(some a39), .q (.bi .eql z38 (.c (.i .u8 47))), (some (a35, false))⟩, (qq a40 (.pk z35 xT z39))])
def w16_16 := wu b16_16.eq_1
def b16_17 : CC := (.reg [(qq a41 (.mv z0)), (qq a42 (.mv z7)), (qq a43 (.mv z8)), (qq a44 (.slS z41 (some z42) (some z43))), (ee a45 (.call 8 [z44])), (qq a46 (.un .not z45))])
def w16_17 := wu b16_17.eq_1
def b16_18 : CC := (.reg [(qq a2 (.mv (.c .l0))), (qq a3 (.mv xF)), (qq a4 (.mv xF))])
def w16_18 := wu b16_18.eq_1
def b16_19 : CC := (.cond z46 (.seq b16_18 .ret) .skip)
def w16_19 := wu b16_19.eq_1
def b16_20 : CC := (.reg [(qq a47 (.mv z6)), (qq a48 (.mv z0)), (qq a49 (.mv z7)), (qq a50 (.mv z8)), (qq a51 (.slS z48 (some z49) (some z50))), (aa a52 (.bsl 9 1 1 [(.s 0 0)] [(0, z51)])), (ee a53 (.app 9 1 16 z47 z52)), (qq a6 (.mv z53))])
def w16_20 := wu b16_20.eq_1
def b16_21 : CC := (.reg [(qq a54 (.mv z8)), (qq a55 (.bi .add z54 (x6 1))), (qq a7 (.mv z55))])
def w16_21 := wu b16_21.eq_1
def b16_22 : CC := (.cond z40 (.seq (.seq b16_17 b16_19) (.seq b16_20 b16_21)) .skip)
def w16_22 := wu b16_22.eq_1
def b16_23 : CC := (.reg [(qq a29 (.mv z8)), (qq a30 (.bi .add z29 (x6 1))), (qq a8 (.mv z30))])
def w16_23 := wu b16_23.eq_1
def b16_24 : CC := (.loop (.seq b16_15 (.seq (.block 1 (.seq b16_16 b16_22)) b16_23)))
def w16_24 := wu b16_24.eq_1
def b16_25 : CC := (.reg [(qq a56 (.mv z6)), (qq a57 (.mv z5)), (qq a2 (.mv z56)), (qq a3 (.mv z57)), (qq a4 (.mv xT))])
def w16_25 := wu b16_25.eq_1
def b16_26 : CC := (.seq b16_12 (.seq (.seq b16_13 (.block 0 b16_24)) (.seq b16_25 .ret)))
def w16_26 := wu b16_26.eq_1
def b16_27 : CC := (.seq (.reg [(qq a6 (.mv (.c .l0)))]) b16_26)
def w16_27 := wu b16_27.eq_1
def b16_28 : CC := (.seq b16_1 (.seq b16_4 (.seq b16_7 (.seq b16_8 (.seq b16_11 b16_27)))))
def w16_28 := wu b16_28.eq_1
def c16 : CF := .mk 6 [.t a2, .t a3, .t a4] b16_28
theorem e16 (v0 : V) : argTr 6 [v0] = (.n sk5 (some v0) sk5) := rfl
def B16 := ai @e16 (ai @w16_1 (ai @w16_2 (ai @w16_3 (ai @w16_4 (ai @w16_5 (ai @w16_6 (ai @w16_7 (ai @w16_8 (ai @w16_9 (ai @w16_10 (ai @w16_11 (ai @w16_12 (ai @w16_13 (ai @w16_14 (ai @w16_15 (ai @w16_16 (ai @w16_17 (ai @w16_18 (ai @w16_19 (ai @w16_20 (ai @w16_21 (ai @w16_22 (ai @w16_23 (ai @w16_24 (ai @w16_25 (ai @w16_26 (ai @w16_27 (@w16_28))))))))))))))))))))))))))))
def b6_1 : CC := (.reg [(qq a7 (.mv z0)), (ee a8 (.call 16 [z7])), (qq a6 (.mv z8)), (qq a9 (.ex 0 z6)), (qq a10 (.ex 1 z6)), (qq a11 (.ex 2 z6)), (qq a3 (.mv z9)), (qq a4 (.mv z10)), (qq a5 (.mv z11))])
def b6_2 : CC := (.reg [(qq a12 (.mv z5)), (qq a2 (.mv z12))])
def b6_3 : CC := (.seq (.reg [(qq a2 (.mv xF))]) (.seq b6_1 (.seq b6_2 .ret)))
def c6 : CF := .mk 4 [.t a2] b6_3
theorem e6 (v0 : V) : argTr 4 [v0] = (.n sk3 (some v0) sk3) := rfl
def B6 := ai @e6 (ai (wu b6_1.eq_1) (ai (wu b6_2.eq_1) (wu b6_3.eq_1)))
theorem tail16 (Φ : Nat → Option CF) (h8 : Φ 8 = some (.orc (pureO h7))) {F : RO} {M : Mem} {c : Nat} (ok : Okm F M c) (t : List UInt8) (x : Bool) (ht : t.length ≤ 64) (u : List (Option V)) :
  Wp b16_27 (K Φ none 16 F) (.mk ((.n (.n (.n (uv7 u 31 15 47 7 39 23 55) (uO u 3) (uv7 u 35 19 51 11 43 27 59)) (uO u 1) (.n (uv7 u 33 17 49 9 41 25 57) (some (.b x)) (uv7 u 37 21 53 13 45 29 61))) (some (sV t)) (.n (.n (uv7 u 32 16 48 8 40 24 56) (uO u 4) (uv7 u 36 20 52 12 44 28 60)) (uO u 2) (.n (uv7 u 34 18 50 10 42 26 58) (uO u 6) (uv7 u 38 22 54 14 46 30 62))))) [] M c) (endQ F [.t (.r .h), .t (.l (.l .h)), .t (.r (.l .h))] fun r _ _ => ∃ v x, r = .t [v, .b x, .b ((spl 47 t).all nameOk)]) := by
 have hS : ∀ l, isOne (sV l) = true := fun _ => rfl
 have hF : ∀ l, flatten (sV l) = [sV l] := fun _ => rfl
 simp only [WX, B16]
 obtain ⟨I1, hI1⟩ : ∃ I : Nat → St → Prop, ∀ n s', I n s' ↔ (∃ (i at_ : Nat) (P : List (List UInt8)) (v : V) (M1 : Mem) (c1 b1 : Nat) (u : List (Option V)), n = t.length + 1 - i ∧ i ≤ t.length + 1 ∧ s' = .mk ((.n (.n (.n (.n (uv3 u 31 15 47) (some (.i .i64 (at_ : Int))) (uv3 u 39 23 55)) (uO u 3) (uv7 u 35 19 51 11 43 27 59)) (uO u 1) (.n (uv7 u 33 17 49 9 41 25 57) (some (.b x)) (uv7 u 37 21 53 13 45 29 61))) (some (sV t)) (.n (.n (.n (uv3 u 32 16 48) (some (.i .i64 (i : Int))) (uv3 u 40 24 56)) (uO u 4) (uv7 u 36 20 52 12 44 28 60)) (uO u 2) (.n (uv7 u 34 18 50 10 42 26 58) (some (v)) (uv7 u 38 22 54 14 46 30 62))))) [] M1 c1 ∧ Gr c M c1 M1 ∧ AccAt M1 c c1 b1 9 1 v (strE P) ∧ P.length ≤ i ∧
   ((i ≤ t.length ∧ at_ ≤ i ∧ (∀ x ∈ (t.take i).drop at_, x ≠ 47) ∧ (spl 47 t).all nameOk = (spl 47 (t.drop at_)).all nameOk) ∨ (i = t.length + 1 ∧ (spl 47 t).all nameOk = true))) := ⟨fun n s' => _, fun _ _ => Iff.rfl⟩
 refine wp_while I1 ?_ (t.length + 1) _ ((hI1 _ _).2 ⟨0, 0, [], .l0, M, c, 0, [none, _, _, _, _, none, none, none, none, _, _, _, _, _, _, _, _, _, _, _, _, _, _, _, _, _, _, _, _, _, _, _, _, _, _, _, _, _, _, _, _, _, _, _, _, _, _, _, _, _, _, _, _, _, _, _, _, _, _, _, _, _, _], rfl, Nat.zero_le _, rfl, Gr.refl ok, AccAt.nil, Nat.le_refl _, .inl ⟨Nat.zero_le _, Nat.le_refl _, (by intro x hx; cases hx), by rw [List.drop_zero]⟩⟩)
 intro n s' hIs
 obtain ⟨i, at_, P, v, M1, c1, b1, u, rfl, hi, rfl, gr1, hA, hP, hor⟩ := (hI1 _ _).1 hIs
 clear hIs
 have q8 : biV .add (.i .i64 (i : Int)) (.i .i64 1) = some (.i .i64 ((i + 1 : Nat) : Int)) := by rw [i64_add _ _ (by omega) (by omega)]; simp
 by_cases hle : i ≤ t.length
 · have d1 : decide ((i : Int) ≤ (t.length : Int)) = true := decide_eq_true (by omega)
   obtain ⟨_, hai, hfree, hsp⟩ : i ≤ t.length ∧ at_ ≤ i ∧ (∀ x ∈ (t.take i).drop at_, x ≠ 47) ∧ (spl 47 t).all nameOk = (spl 47 (t.drop at_)).all nameOk := by
    rcases hor with h | ⟨h, _⟩
    · exact h
    · omega
   have hsl := sl_lh t .i64 .i64 at_ i hai (by omega)
   have hwl : ((t.take i).drop at_).length ≤ 64 := by simp; omega
   have h7e := h7_eq ((t.take i).drop at_) (by omega)
   -- at a sign, or the end
   have STEP : ∀ (HH : (i = t.length ∧ spl 47 (t.drop at_) = [(t.take i).drop at_]) ∨ (i < t.length ∧ spl 47 (t.drop at_) = (t.take i).drop at_ :: spl 47 (t.drop (i + 1)))) (u : List (Option V)),
     Wp b16_22 (K Φ none 16 F) (.mk ((.n (.n (.n (.n (uv3 u 31 15 47) (some (.i .i64 (at_ : Int))) (uv3 u 39 23 55)) (uO u 3) (uv7 u 35 19 51 11 43 27 59)) (uO u 1) (.n (uv7 u 33 17 49 9 41 25 57) (some (.b x)) (uv7 u 37 21 53 13 45 29 61))) (some (sV t)) (.n (.n (.n (uv3 u 32 16 48) (some (.i .i64 (i : Int))) (.n (.n .e (some (.b true)) .e) (uO u 24) (uv1 u 56))) (uO u 4) (uv7 u 36 20 52 12 44 28 60)) (uO u 2) (.n (uv7 u 34 18 50 10 42 26 58) (some (v)) (uv7 u 38 22 54 14 46 30 62))))) [] M1 c1) (blockQ 1 (seqQ b16_23 (K Φ none 16 F) (roundQ I1 (t.length + 1 - i) (blockQ 0 (seqQ (.seq b16_25 .ret) (K Φ none 16 F) (endQ F [.t (.r .h), .t (.l (.l .h)), .t (.r (.l .h))] fun r _ _ => ∃ v x, r = .t [v, .b x, .b ((spl 47 t).all nameOk)])))))) := by
    intro HH u
    cases ho : nameOk ((t.take i).drop at_) with
    | false =>
      rw [ho] at h7e
      have hp : (spl 47 t).all nameOk = false := by
       rw [hsp]
       rcases HH with ⟨_, e⟩ | ⟨_, e⟩ <;> rw [e, List.all_cons, ho, Bool.false_and]
      simp only [WX, B16, hsl, h8, h7e, hp]
      exact ⟨_, _, rfl⟩
    | true =>
      rw [ho] at h7e
      simp only [WX, B16, hsl, h8, h7e, hS, hF]
      have grY : Gr c M (c1 + 1) (M1.set c1 (rowD [V.s 0 0] 9 [sV ((t.take i).drop at_)])) := gr1.set c1 _ gr1.le (by omega) (by omega)
      have hy : SlAt F (M1.set c1 (rowD [V.s 0 0] 9 [sV ((t.take i).drop at_)])) (c1 + 1) 1 (.l c1 0 1 1) (strE [(t.take i).drop at_]) := slD (d := [.s 0 0]) (ty := 9) (by rw [get_same]; rfl) (by omega) (fun e he => by obtain ⟨x, _, rfl⟩ := List.mem_map.1 he; rfl) rfl
      refine putE_to ((appV_to (bytes := 16) (hA.up (show c1 ≤ c1 + 1 by omega) (fun hx => get_ne _ _ (by omega))) grY Nat.one_pos hy rfl (room_of (by simp [strE]; omega) (by simp [strE]; omega))).mono ?_)
      rintro v' M2 c2 ⟨b2, hA2, gr2, hle2, _, _⟩
      simp only [WX, B16, q8]
      refine ⟨t.length + 1 - (i + 1), by omega, (hI1 _ _).2 ⟨i + 1, i + 1, P ++ [(t.take i).drop at_], v', M2, c2, b2, [none, _, _, _, _, none, none, none, none, _, _, _, _, _, _, _, _, _, _, _, _, _, _, _, _, _, _, _, _, _, _, _, _, _, _, _, _, _, _, _, _, _, _, _, _, _, _, _, _, _, _, _, _, _, _, _, _, _, _, _, _, _, _], rfl, by omega, rfl, gr2, ?_, by simp; omega, ?_⟩⟩
      · rw [strE, List.map_append]; exact hA2
      · rcases HH with ⟨h1, e⟩ | ⟨h1, e⟩
        · exact .inr ⟨by omega, by rw [hsp, e, List.all_cons, ho]; rfl⟩
        · refine .inl ⟨by omega, Nat.le_refl _, ?_, by rw [hsp, e, List.all_cons, ho, Bool.true_and]⟩
          intro x hx
          rw [List.drop_eq_nil_of_le (by rw [List.length_take]; omega)] at hx; cases hx
   by_cases hend : i = t.length
   · have d3 : decide ((i : Int) = (t.length : Int)) = true := decide_eq_true (by omega)
     simp only [WX, w16_14, w16_15, w16_16, d1, d3]
     refine STEP (.inl ⟨hend, ?_⟩) [none, _, _, _, _, none, none, none, none, _, _, _, _, _, _, _, _, _, _, _, _, _, _, _, _, _, _, _, _, _, _, _, _, _, _, _, _, _, _, _, none, _, _, _, _, _, _, _, _, _, _, _, _, _, _, _, _, _, _, _, _, _, _]
     have e : (t.take i).drop at_ = t.drop at_ := by rw [hend, List.take_length]
     rw [e] at hfree ⊢
     exact spl_none hfree
   · have d3 : decide ((i : Int) = (t.length : Int)) = false := decide_eq_false (by omega)
     have hix : ixSV (sV t) (.i .i64 (i : Int)) = some (.i .u8 ((t[i]'(by omega)).toNat : Int)) := ixSs t .i64 i (by omega)
     by_cases hb : t[i]'(by omega) = 47
     · have d4 : decide (((t[i]'(by omega)).toNat : Int) = 47) = true := decide_eq_true (by rw [hb]; rfl)
       simp only [WX, w16_14, w16_15, w16_16, d1, d3, hix, d4]
       refine STEP (.inr ⟨by omega, ?_⟩) [none, _, _, _, _, none, none, none, none, _, _, _, _, _, _, _, _, _, _, _, _, _, _, _, _, _, _, _, _, _, _, _, _, _, _, _, _, _, _, _, none, _, _, _, _, _, _, _, _, _, _, _, _, _, _, _, _, _, _, _, _, _, _]
       have e : t.drop at_ = (t.take i).drop at_ ++ 47 :: t.drop (i + 1) := by
        have e1 : t.drop i = 47 :: t.drop (i + 1) := by rw [← hb]; exact List.drop_eq_getElem_cons (by omega)
        rw [← e1, ← List.drop_append_of_le_length (by rw [List.length_take]; omega), List.take_append_drop]
       rw [e, spl_cut _ hfree]
     · have d4 : decide (((t[i]'(by omega)).toNat : Int) = 47) = false := decide_eq_false (fun e => hb (UInt8.toNat_inj.1 (by rw [show (47 : UInt8).toNat = 47 from rfl]; omega)))
       simp only [WX, B16, d1, d3, hix, d4, q8]
       refine ⟨t.length + 1 - (i + 1), by omega, (hI1 _ _).2 ⟨i + 1, at_, P, v, M1, c1, b1, [none, _, _, _, _, none, none, none, none, _, _, _, _, _, _, _, _, _, _, _, _, _, _, _, _, _, _, _, _, _, _, _, _, _, _, _, _, _, _, _, _, _, _, _, _, _, _, _, _, _, _, _, _, _, _, _, _, _, _, _, _, _, _], rfl, by omega, rfl, gr1, hA, by omega, .inl ⟨by omega, by omega, ?_, hsp⟩⟩⟩
       intro x hx
       rw [List.take_succ_eq_append_getElem (by omega), List.drop_append_of_le_length (by rw [List.length_take]; omega)] at hx
       rcases List.mem_append.1 hx with hx | hx
       · exact hfree x hx
       · rw [List.mem_singleton] at hx; subst hx; exact hb
 · have d1 : decide ((i : Int) ≤ (t.length : Int)) = false := decide_eq_false (by omega)
   have hp : (spl 47 t).all nameOk = true := by
    rcases hor with ⟨h, _⟩ | ⟨_, h⟩
    · omega
    · exact h
   simp only [WX, B16, d1, hp]
   exact ⟨_, _, rfl⟩
theorem r16 (Φ : Nat → Option CF) (h : Φ 16 = some c16) (h8 : Φ 8 = some (.orc (pureO h7))) {F : RO} {M : Mem} {c : Nat} (ok : Okm F M c) (s : List UInt8) : Calls Φ F 16 [sV s] M c fun r _ _ => ∃ v x, r = .t [v, .b x, .b (pathOk s)] := by
 refine calls_walk h ?_
 have q0 : biV .eql (sV s) (.s 1 47) = some (.b (decide (s = [47]))) := bi_seq s [47]
 by_cases h1 : s.length < 1
 · have d0 : decide ((s.length : Int) < 1) = true := decide_eq_true (by omega)
   have : s = [] := List.length_eq_zero_iff.1 (by omega)
   have hp : pathOk s = false := by rw [this]; decide +kernel
   simp only [WX, B16, d0, hp]
   exact ⟨_, _, rfl⟩
 · have d0 : decide ((s.length : Int) < 1) = false := decide_eq_false (by omega)
   by_cases h64 : 64 < s.length
   · have d1 : decide ((64 : Int) < (s.length : Int)) = true := decide_eq_true (by omega)
     have hp : pathOk s = false := by unfold pathOk; rw [decide_eq_false (by omega)]; rfl
     simp only [WX, B16, d0, d1, hp]
     exact ⟨_, _, rfl⟩
   · have d1 : decide ((64 : Int) < (s.length : Int)) = false := decide_eq_false (by omega)
     by_cases hs : s = [47]
     · have d2 : decide (s = [47]) = true := decide_eq_true hs
       have hp : pathOk s = true := by unfold pathOk; rw [d2, decide_eq_true (by omega)]; rfl
       rw [d2] at q0
       simp only [WX, B16, d0, d1, q0, hp]
       exact ⟨_, _, rfl⟩
     · have d2 : decide (s = [47]) = false := decide_eq_false hs
       have hp : pathOk s = (spl 47 (trimP s [47])).all nameOk := by unfold pathOk; rw [d2, decide_eq_true (by omega)]; simp
       rw [d2] at q0
       have hix : ixSV (sV s) (.i .i64 0) = some (.i .u8 ((s[0]'(by omega)).toNat : Int)) := ixSs s .i64 0 (by omega)
       by_cases h0 : (s[0]'(by omega)) = 47
       · have d3 : decide (((s[0]'(by omega)).toNat : Int) = 47) = true := decide_eq_true (by rw [h0]; rfl)
         have sl1 := sl_ln s .i64 1 (by omega)
         rw [show ((1 : Nat) : Int) = 1 from rfl] at sl1
         have et : trimP s [47] = s.drop 1 := by
          unfold trimP
          rw [if_pos]
          · rfl
          · refine ⟨by simp; omega, ?_⟩
            cases s with
            | nil => simp at h1
            | cons a r => simp at h0; simp [h0]
         rw [hp, et]
         simp only [WX, e16, w16_1, w16_2, w16_4, w16_5, w16_7, w16_8, w16_9, w16_10, w16_11, w16_28, d0, d1, q0, hix, d3, sl1]
         exact tail16 Φ h8 ok (s.drop 1) true (by simp; omega) [none, _, _, _, _, none, _, _, _, _, _, _, _, _, _, _, _, _, _, _, _, _, _, _, _, _, _, _, _, _, _, _, _, _, _, _, _, _, _, _, _, _, _, _, _, _, _, _, _, _, _, _, _, _, _, _, _, _, _, _, _, _, _]
       · have d3 : decide (((s[0]'(by omega)).toNat : Int) = 47) = false := decide_eq_false (fun e => h0 (UInt8.toNat_inj.1 (by rw [show (47 : UInt8).toNat = 47 from rfl]; omega)))
         have et : trimP s [47] = s := by
          unfold trimP
          rw [if_neg]
          rintro ⟨_, hh⟩
          cases s with
          | nil => simp at h1
          | cons a r => simp at h0 hh; exact h0 hh
         rw [hp, et]
         simp only [WX, e16, w16_1, w16_2, w16_4, w16_5, w16_7, w16_8, w16_9, w16_11, w16_28, d0, d1, q0, hix, d3]
         exact tail16 Φ h8 ok s false (by omega) [none, _, _, _, _, none, _, _, _, _, _, _, _, _, _, _, _, _, _, _, _, _, _, _, _, _, _, _, _, _, _, _, _, _, _, _, _, _, _, _, _, _, _, _, _, _, _, _, _, _, _, _, _, _, _, _, _, _, _, _, _, _, _]
theorem r6 (Φ : Nat → Option CF) (h : Φ 6 = some c6) (h16 : Φ 16 = some c16) (h8 : Φ 8 = some (.orc (pureO h7))) {F : RO} {M : Mem} {c : Nat} (ok : Okm F M c) (s : List UInt8) : Calls Φ F 6 [sV s] M c fun r _ _ => r = .b (pathOk s) := by
 refine calls_walk h ?_
 simp only [WX, B6]
 refine putE_to ((r16 Φ h16 h8 ok s).mono ?_)
 rintro r M1 c1 ⟨v, x, rfl⟩
 simp only [WX, B6]
def h5 : List V → Option V
 | [v] => (asS v).bind fun l => some (.b (pathOk l))
 | _ => none
theorem h5_eq (l : List UInt8) : h5 [sV l] = some (.b (pathOk l)) := by
 show (asS (sV l)).bind (fun l => some (V.b (pathOk l))) = _
 rw [asS_s, Option.bind_some]
def b3_1 : CC := (.reg [(qq a3 (.mv z0)), (qq a4 (.ln .str z3)), (qq a5 (.bi .gtr z4 (x6 9000)))])
def b3_2 : CC := (.reg [(ee a6 (.call 4 [])), (qq a2 (.mv z6))])
def b3_3 : CC := (.seq b3_1 (.cond z5 (.seq b3_2 .ret) .skip))
def b3_4 : CC := (.reg [(qq a7 (.mv z0)), (ee a8 (.call 5 [z7])), (qq a9 (.mv z0)), (ee a10 (.call 6 [z9])), (qq a11 (.eq false .bool false z8 z10)), (qq a12 (.mv z11)), ⟨(some a13), .q (.mv z0), (some (a12, true))⟩, ⟨(some a14), .e (.call 7 [z13]), (some (a12, true))⟩, ⟨(some a15), .q (.mv z0), (some (a12, true))⟩, ⟨(some a16), .e (.call 8 [z15]), (some (a12, true))⟩, ⟨(some a17), .q (.eq false .bool false z14 z16), (some (a12, true))⟩, (qq a18 (.pk z12 z17 xF)), (qq a19 (.mv z18)), ⟨(some a20), .e (.call 4 []), (some (a19, true))⟩, (qq a21 (.pk z19 z20 xF)), (qq a2 (.mv z21))])
def b3_5 : CC := (.seq (.reg [(qq a2 (.mv xF))]) (.seq b3_3 (.seq b3_4 .ret)))
def c3 : CF := .mk 5 [.t a2] b3_5
theorem e3 (v0 : V) : argTr 5 [v0] = (.n sk4 (some v0) sk4) := rfl
def B3 := ai @e3 (ai (wu b3_1.eq_1) (ai (wu b3_2.eq_1) (ai (wu b3_3.eq_1) (ai (wu b3_4.eq_1) (wu b3_5.eq_1)))))
theorem l3 (Φ : Nat → Option CF) {L : List Tab} (h : Φ 3 = some c3) (h4 : Φ 4 = some (.orc (knownO L))) (h5 : Φ 5 = some (.orc (pureO h5))) (h6 : Φ 6 = some (.orc (pureO Ev.h5))) (h7 : Φ 7 = some (.orc (pureO h7))) (h8 : Φ 8 = some (.orc (pureO Ev.h7)))
  {F : RO} {M : Mem} {c : Nat} (s : List UInt8) (ht : tabsIn F L = true) : Calls Φ F 3 [sV s] M c fun r _ _ => r = .b true := by
 have hkn := fun M c => knownO_nil ht M c
 refine calls_walk h ?_
 by_cases hlen : 9000 < s.length
 · have hd : decide ((9000 : Int) < (s.length : Int)) = true := decide_eq_true (by omega)
   simp only [WX, B3, hd, h4, hkn]
 · have hd : decide ((9000 : Int) < (s.length : Int)) = false := decide_eq_false (by omega)
   simp only [WX, B3, hd, h4, hkn, h5, h5_eq, h6, h7, h7_eq s (by omega), h8, eq_self]
theorem bindS {v w : V} {f : List UInt8 → Option V} (h : (asS v).bind f = some w) : ∃ l, v = sV l ∧ f l = some w := by
 obtain ⟨l, h1, h2⟩ := Option.bind_eq_some_iff.1 h
 exact ⟨l, of_asS h1, h2⟩
theorem bindB {v w : V} {f : UInt8 → Option V} (h : (asB v).bind f = some w) : ∃ b, v = bV b ∧ f b = some w := by
 obtain ⟨l, h1, h2⟩ := Option.bind_eq_some_iff.1 h
 exact ⟨l, of_asB h1, h2⟩
theorem okm_e {ct : Nat} (h : 1000 ≤ ct) : Okm [] (.e : Mem) ct := ⟨fun b _ => rfl, fun b _ => rfl, fun b hb => (by cases hb), h⟩
section
variable {P : Program} (hm : P.follows .mixedOrders = true) {Φ : Nat → Option CF} (hΦ : PhiOk P Φ)
include hm hΦ
theorem o18 (h : Φ 18 = some c18) : OrcOk P 18 (pureO h18) := pure_of hm hΦ (by
 intro args v ct hv hct; unfold h18 at hv; split at hv
 · obtain rfl := Option.some.inj hv; exact ⟨trivial, t18 Φ h _ _⟩
 · cases hv)
theorem o30 (h : Φ 30 = some c30) (h18 : Φ 18 = some (.orc (pureO h18))) : OrcOk P 30 (pureO h30) := pure_of hm hΦ (by
 intro args v ct hv hct; unfold h30 at hv; split at hv
 · obtain ⟨l, rfl, hv1⟩ := bindS hv
   split at hv1
   · rename_i hl
     obtain rfl := Option.some.inj hv1
     obtain ⟨r, M1, c1, e, rfl⟩ := r30 Φ h h18 (okm_e hct) l hl
     exact ⟨trivial, M1, c1, e⟩
   · cases hv1
 · cases hv)
theorem o17 (h : Φ 17 = some c17) (h30 : Φ 30 = some (.orc (pureO h30))) : OrcOk P 17 (pureO h17) := pure_of hm hΦ (by
 intro args v ct hv hct; unfold h17 at hv; split at hv
 · obtain ⟨l, rfl, hv1⟩ := bindS hv
   split at hv1
   · rename_i hl; obtain rfl := Option.some.inj hv1; exact ⟨trivial, t17 Φ h h30 l hl _⟩
   · cases hv1
 · cases hv)
theorem o7 (h : Φ 7 = some c7) (h17 : Φ 17 = some (.orc (pureO h17))) : OrcOk P 7 (pureO h7) := pure_of hm hΦ (by
 intro args v ct hv hct; unfold h7 at hv; split at hv
 · obtain ⟨l, rfl, hv1⟩ := bindS hv
   split at hv1
   · rename_i hl; obtain rfl := Option.some.inj hv1; exact ⟨trivial, t7 Φ h h17 l hl _⟩
   · cases hv1
 · cases hv)
theorem o8 (h : Φ 8 = some c8) : OrcOk P 8 (pureO h7) := pure_of hm hΦ (by
 intro args v ct hv hct; unfold h7 at hv; split at hv
 · obtain ⟨l, rfl, hv1⟩ := bindS hv
   split at hv1
   · rename_i hl; obtain rfl := Option.some.inj hv1; exact ⟨trivial, r8 Φ h l hl _⟩
   · cases hv1
 · cases hv)
theorem o29 (h : Φ 29 = some c29) (h7 : Φ 7 = some (.orc (pureO h7))) : OrcOk P 29 (pureO h29) := pure_of hm hΦ (by
 intro args v ct hv hct; unfold h29 at hv; split at hv
 · obtain ⟨l, rfl, hv1⟩ := bindS hv
   split at hv1
   · rename_i hl; obtain rfl := Option.some.inj hv1; exact ⟨trivial, t29 Φ h h7 l hl _⟩
   · cases hv1
 · cases hv)
theorem o61 (h : Φ 61 = some c61) : OrcOk P 61 (pureO h61) := pure_of hm hΦ (by
 intro args v ct hv hct; unfold h61 at hv; split at hv
 · obtain ⟨l, rfl, hv1⟩ := bindS hv
   obtain ⟨b, rfl, hv2⟩ := bindB hv1
   obtain rfl := Option.some.inj hv2; exact ⟨trivial, t61 Φ h _ _ _⟩
 · cases hv)
theorem o59 (h : Φ 59 = some c59) (h61 : Φ 61 = some (.orc (pureO h61))) : OrcOk P 59 (pureO h59) := pure_of hm hΦ (by
 intro args v ct hv hct; unfold h59 at hv; split at hv
 · obtain ⟨l, rfl, hv1⟩ := bindS hv
   obtain ⟨s, rfl, hv2⟩ := bindS hv1
   split at hv2
   · obtain rfl := Option.some.inj hv2; exact ⟨trivial, t59 Φ h h61 _ _ _⟩
   · cases hv2
 · cases hv)
theorem o53 (h : Φ 53 = some c53) (h59' : Φ 59 = some (.orc (pureO h59))) : OrcOk P 53 (pureO h59) := pure_of hm hΦ (by
 intro args v ct hv hct; unfold h59 at hv; split at hv
 · obtain ⟨l, rfl, hv1⟩ := bindS hv
   obtain ⟨s, rfl, hv2⟩ := bindS hv1
   split at hv2
   · obtain rfl := Option.some.inj hv2; exact ⟨trivial, t53 Φ h h59' _ _ _⟩
   · cases hv2
 · cases hv)
theorem o52 (h : Φ 52 = some c52) : OrcOk P 52 (pureO h52) := pure_of hm hΦ (by
 intro args v ct hv hct; unfold h52 at hv; split at hv
 · obtain ⟨l, rfl, hv1⟩ := bindS hv
   obtain ⟨s, rfl, hv2⟩ := bindS hv1
   split at hv2
   · obtain rfl := Option.some.inj hv2; exact ⟨trivial, t52 Φ h _ _ _⟩
   · cases hv2
 · cases hv)
theorem o50 (h : Φ 50 = some c50) : OrcOk P 50 (pureO h50) := pure_of hm hΦ (by
 intro args v ct hv hct; unfold h50 at hv; split at hv
 · obtain ⟨l, rfl, hv1⟩ := bindS hv
   obtain ⟨s, rfl, hv2⟩ := bindS hv1
   obtain rfl := Option.some.inj hv2; exact ⟨trivial, t50 Φ h _ _ _⟩
 · cases hv)
theorem o41 (h : Φ 41 = some c41) (h50 : Φ 50 = some (.orc (pureO h50))) : OrcOk P 41 (pureO h41) := pure_of hm hΦ (by
 intro args v ct hv hct; unfold h41 at hv; split at hv
 · obtain ⟨l, rfl, hv1⟩ := bindS hv
   obtain ⟨s, rfl, hv2⟩ := bindS hv1
   obtain rfl := Option.some.inj hv2; exact ⟨trivial, t41 Φ h h50 _ _ _⟩
 · cases hv)
theorem o27 (h : Φ 27 = some c27) (h41' : Φ 41 = some (.orc (pureO h41))) : OrcOk P 27 (pureO h41) := pure_of hm hΦ (by
 intro args v ct hv hct; unfold h41 at hv; split at hv
 · obtain ⟨l, rfl, hv1⟩ := bindS hv
   obtain ⟨s, rfl, hv2⟩ := bindS hv1
   obtain rfl := Option.some.inj hv2; exact ⟨trivial, t27 Φ h h41' _ _ _⟩
 · cases hv)
theorem o5 (h : Φ 5 = some c5) (h15 : Φ 15 = some c15) (h27 : Φ 27 = some (.orc (pureO h41))) (h26 : Φ 26 = some c26) (h40 : Φ 40 = some c40) (h52 : Φ 52 = some (.orc (pureO h52))) (h53 : Φ 53 = some (.orc (pureO h59))) (h28 : Φ 28 = some c28) (h42 : Φ 42 = some c42) (h29 : Φ 29 = some (.orc (pureO h29))) : OrcOk P 5 (pureO h5) := pure_of hm hΦ (by
 intro args v ct hv hct; unfold h5 at hv; split at hv
 · obtain ⟨l, rfl, hv1⟩ := bindS hv
   obtain rfl := Option.some.inj hv1
   obtain ⟨r, M1, c1, e, rfl⟩ := r5 Φ h h15 h27 h26 h40 h52 h53 h28 h42 h29 (okm_e hct) l
   exact ⟨trivial, M1, c1, e⟩
 · cases hv)
theorem o6 (h : Φ 6 = some c6) (h16 : Φ 16 = some c16) (h8 : Φ 8 = some (.orc (pureO h7))) : OrcOk P 6 (pureO h5) := pure_of hm hΦ (by
 intro args v ct hv hct; unfold h5 at hv; split at hv
 · obtain ⟨l, rfl, hv1⟩ := bindS hv
   obtain rfl := Option.some.inj hv1
   obtain ⟨r, M1, c1, e, rfl⟩ := r6 Φ h h16 h8 (okm_e hct) l
   exact ⟨trivial, M1, c1, e⟩
 · cases hv)
end
theorem str_of4 {F : RO} {M : Mem} {c : Nat} {vs : List V} {x : (Ty.str).D} (h : Rp F M c .str vs x) : ∃ s : List UInt8, vs = [sV s] := by
 have key : ∀ l : List UInt8, vs = [sV l] ∧ l.length ≤ Go.maxLen → ∃ s : List UInt8, vs = [sV s] := fun l h => ⟨l, h.1⟩
 exact key x h
end
end Go.Proofs.YtjabcgjeemajkaaDoor.Ev
