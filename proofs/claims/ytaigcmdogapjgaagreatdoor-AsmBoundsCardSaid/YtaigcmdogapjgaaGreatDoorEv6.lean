/- What is proved here: pieces of the evaluator's soundness: if the evaluator comes to a value, the model's run comes to it, for every world and tape; no conditions beyond the hypotheses of each theorem. -/
import Derived.Test.YtaigcmdogapjgaaGreatDoorEv5
set_option linter.unusedSimpArgs false
set_option linter.unusedVariables false
set_option linter.defProp false
set_option maxRecDepth 10000
set_option maxHeartbeats 16000000
namespace Go.Proofs.YtaigcmdogapjgaaGreatDoor.Ev
open Go
noncomputable def b79_1 : CC := (.reg [(aa a2 (.al 46 [(.i .i64 0), (.i .i64 0), (.i .i64 0), (.i .i64 0), (.i .i64 0)])), (qq a3 (.mv (x6 0)))])
noncomputable def b79_2 : CC := (.reg [(qq a8 (.mv z0)), (qq a9 (.bi .and z8 (.c (.i .u32 255)))), (qq a10 (.ci .i64 z9)), (qq a11 (.bld [(.i .i64 0), (.i .i64 0), (.i .i64 0), (.i .i64 0), (.i .i64 0)] [(0, 1, z10)])), (aa a4 (.al 46 [(.i .i64 0), (.i .i64 0), (.i .i64 0), (.i .i64 0), (.i .i64 0)])), (ez (.st 5 z4 z11))])
noncomputable def b79_3 : CC := (.reg [(qq a12 (.fa 0 z4)), (qq a13 (.ld1 z12)), (ee a14 (.call 56 [z13])), (ee a15 (.call 55 [z14])), (aa a5 (.al 113 [(.b false), (.b false), (.b false), (.b false)])), (ez (.st 4 z5 z15))])
noncomputable def b79_4 : CC := (.reg [(qq a16 (.fa 0 z5)), (qq a17 (.ld1 z16))])
noncomputable def b79_5 : CC := (.reg [(qq a18 (.mv z0)), (qq a19 (.bi .shr z18 (.c (.i .u64 12)))), (qq a20 (.bi .and z19 (.c (.i .u32 15)))), (qq a21 (.ci .i64 z20)), (qq a22 (.fa 1 z4)), (ez (.st 1 z22 z21))])
noncomputable def b79_6 : CC := (.seq b79_4 (.cond z17 b79_5 .skip))
noncomputable def b79_7 : CC := (.reg [(qq a23 (.fa 1 z5)), (qq a24 (.ld1 z23))])
noncomputable def b79_8 : CC := (.reg [(qq a25 (.mv z0)), (qq a26 (.bi .shr z25 (.c (.i .u64 8)))), (qq a27 (.bi .and z26 (.c (.i .u32 15)))), (qq a28 (.ci .i64 z27)), (qq a29 (.fa 2 z4)), (ez (.st 1 z29 z28))])
noncomputable def b79_9 : CC := (.seq b79_7 (.cond z24 b79_8 .skip))
noncomputable def b79_10 : CC := (.reg [(qq a30 (.fa 2 z5)), (qq a31 (.ld1 z30))])
noncomputable def b79_11 : CC := (.reg [(qq a32 (.mv z0)), (qq a33 (.bi .shr z32 (.c (.i .u64 16)))), (qq a34 (.ci .i64 z33)), (qq a35 (.fa 3 z4)), (ez (.st 1 z35 z34))])
noncomputable def b79_12 : CC := (.seq b79_10 (.cond z31 b79_11 .skip))
noncomputable def b79_13 : CC := (.reg [(qq a36 (.fa 3 z5)), (qq a37 (.ld1 z36))])
noncomputable def b79_14 : CC := (.reg [(qq a38 (.mv z0)), (qq a39 (.bi .shr z38 (.c (.i .u64 16)))), (qq a40 (.ci .i16 z39)), (qq a41 (.ci .i64 z40)), (qq a42 (.fa 4 z4)), (ez (.st 1 z42 z41))])
noncomputable def b79_15 : CC := (.reg [(qq a43 (.fa 0 z4)), (qq a44 (.ld1 z43)), (ee a45 (.call 86 [z44]))])
noncomputable def b79_16 : CC := (.reg [(qq a46 (.mv z0)), (qq a47 (.bi .shr z46 (.c (.i .u64 16)))), (qq a48 (.ci .i64 z47)), (qq a49 (.fa 4 z4)), (ez (.st 1 z49 z48))])
noncomputable def b79_17 : CC := (.seq b79_15 (.cond z45 b79_16 .skip))
noncomputable def b79_18 : CC := (.cond z37 (.seq b79_14 b79_17) .skip)
noncomputable def b79_19 : CC := (.reg [(qq a51 (.ldn 5 z4)), (ee a52 (.call 60 [z51])), (qq a50 (.mv z52)), (qq a53 (.ex 0 z50)), (qq a54 (.ex 1 z50)), (qq a6 (.mv z53)), (qq a7 (.mv z54))])
noncomputable def b79_20 : CC := (.reg [(qq a55 (.mv z7)), (qq a56 (.bi .neq z55 (x6 0))), (qq a57 (.mv z56)), ⟨(some a58), .q (.mv z6), (some (a57, false))⟩, ⟨(some a59), .q (.mv z0), (some (a57, false))⟩, ⟨(some a60), .q (.bi .neq z58 z59), (some (a57, false))⟩, (qq a61 (.pk z57 xT z60))])
noncomputable def b79_21 : CC := (.reg [(qq a62 (.bld [(.i .i64 0), (.i .i64 0), (.i .i64 0), (.i .i64 0), (.i .i64 0)] [])), (ez (.st 5 z2 z62)), (qq a3 (.mv (x6 4)))])
noncomputable def b79_22 : CC := (.cond z61 (.seq b79_21 .ret) .skip)
noncomputable def b79_23 : CC := (.reg [(qq a63 (.ldn 5 z4)), (ez (.st 5 z2 z63)), (qq a3 (.mv (x6 0)))])
noncomputable def b79_24 : CC := (.seq (.seq b79_19 (.seq b79_20 b79_22)) (.seq b79_23 .ret))
noncomputable def b79_25 : CC := (.seq b79_9 (.seq b79_12 (.seq (.seq b79_13 b79_18) b79_24)))
noncomputable def c79 : CF := .mk 7 [.cn a2 5, .t a3] (.seq b79_1 (.seq b79_2 (.seq b79_3 (.seq b79_6 b79_25))))
def opW (w : Nat) : Int := ((w % 256 : Nat) : Int)
def dW (w : Nat) : Int := if dI (formI (opW w)) = true then ((w / 4096 % 16 : Nat) : Int) else 0
def aW (w : Nat) : Int := if aI (formI (opW w)) = true then ((w / 256 % 16 : Nat) : Int) else 0
def bW (w : Nat) : Int := if bI (formI (opW w)) = true then ((w / 65536 : Nat) : Int) else 0
def s16 (w : Nat) : Int := if 32768 ≤ w / 65536 then ((w / 65536 : Nat) : Int) - 65536 else ((w / 65536 : Nat) : Int)
def iW (w : Nat) : Int := if iI (formI (opW w)) = true then (if opW w = 3 ∨ opW w = 6 then ((w / 65536 : Nat) : Int) else s16 w) else 0
end Go.Proofs.YtaigcmdogapjgaaGreatDoor.Ev
set_option maxRecDepth 10000
set_option maxHeartbeats 16000000
namespace Go.Proofs.YtaigcmdogapjgaaGreatDoor.Ev
open Go
end Go.Proofs.YtaigcmdogapjgaaGreatDoor.Ev
set_option maxRecDepth 10000
set_option maxHeartbeats 16000000
namespace Go.Proofs.YtaigcmdogapjgaaGreatDoor.Ev
open Go
def okW (w : Nat) : Bool := decide (mayI (opW w) (dW w) (aW w) (bW w) (iW w) = true ∧ wordI (opW w) (dW w) (aW w) (bW w) (iW w) = w)
noncomputable def b44_1 : CC := (.reg [(aa a2 (.al 46 [(.i .i64 0), (.i .i64 0), (.i .i64 0), (.i .i64 0), (.i .i64 0)])), (qq a3 (.mv (x6 0)))])
noncomputable def b44_2 : CC := (.reg [(qq a4 (.mv z0)), (qq a5 (.ln .slice z4)), (qq a6 (.bi .neq z5 (x6 4)))])
noncomputable def b44_3 : CC := (.reg [(qq a7 (.bld [(.i .i64 0), (.i .i64 0), (.i .i64 0), (.i .i64 0), (.i .i64 0)] [])), (ez (.st 5 z2 z7)), (qq a3 (.mv (x6 4)))])
noncomputable def b44_4 : CC := (.seq b44_2 (.cond z6 (.seq b44_3 .ret) .skip))
noncomputable def b44_5 : CC := (.dreg 27 [(0, 0, (qq a8 (.mv z0))), (1, 1, (qq a9 (.iaS 1 z8 (x6 0)))), (2, 3, (qq a10 (.ld1 z9))), (3, 7, (qq a11 (.ci .u32 z10))), (4, 0, (qq a12 (.mv z0))), (5, 16, (qq a13 (.iaS 1 z12 (x6 1)))), (6, 48, (qq a14 (.ld1 z13))), (7, 112, (qq a15 (.ci .u32 z14))), (8, 240, (qq a16 (.bi .shl z15 (.c (.i .u64 8))))), (9, 511, (qq a17 (.bi .or z11 z16))), (10, 0, (qq a18 (.mv z0))), (11, 1024, (qq a19 (.iaS 1 z18 (x6 2)))), (12, 3072, (qq a20 (.ld1 z19))), (13, 7168, (qq a21 (.ci .u32 z20))), (14, 15360, (qq a22 (.bi .shl z21 (.c (.i .u64 16))))), (15, 32767, (qq a23 (.bi .or z17 z22))), (16, 0, (qq a24 (.mv z0))), (17, 65536, (qq a25 (.iaS 1 z24 (x6 3)))), (18, 196608, (qq a26 (.ld1 z25))), (19, 458752, (qq a27 (.ci .u32 z26))), (20, 983040, (qq a28 (.bi .shl z27 (.c (.i .u64 24))))), (21, 2097151, (qq a29 (.bi .or z23 z28))), (22, 4194303, (ee a30 (.call 79 [z29]))), (23, 8388607, (qq a31 (.ex 0 z30))), (24, 8388607, (qq a32 (.ex 1 z30))), (25, 33554431, (ez (.st 5 z2 z31))), (26, 67108863, (qq a3 (.mv z32)))])
noncomputable def c44 : CF := .mk 6 [.cn a2 5, .t a3] (.seq b44_1 (.seq b44_4 (.seq b44_5 .ret)))
end Go.Proofs.YtaigcmdogapjgaaGreatDoor.Ev
set_option maxRecDepth 10000
set_option maxHeartbeats 16000000
namespace Go.Proofs.YtaigcmdogapjgaaGreatDoor.Ev
open Go
end Go.Proofs.YtaigcmdogapjgaaGreatDoor.Ev
set_option maxRecDepth 10000
set_option maxHeartbeats 16000000
namespace Go.Proofs.YtaigcmdogapjgaaGreatDoor.Ev
open Go
end Go.Proofs.YtaigcmdogapjgaaGreatDoor.Ev
set_option maxRecDepth 10000
set_option maxHeartbeats 16000000
namespace Go.Proofs.YtaigcmdogapjgaaGreatDoor.Ev
open Go
end Go.Proofs.YtaigcmdogapjgaaGreatDoor.Ev
set_option maxRecDepth 10000
set_option maxHeartbeats 16000000
namespace Go.Proofs.YtaigcmdogapjgaaGreatDoor.Ev
open Go
noncomputable def b56_1 : CC := (.reg [(qq a5 (.bi .eql z3 (x6 3))), (qq a4 (.mv z5))])
noncomputable def b56_2 : CC := (.reg [(qq a7 (.bi .eql z3 (x6 23))), (qq a6 (.mv z7))])
noncomputable def b56_3 : CC := (.reg [(qq a9 (.bi .eql z3 (x6 24))), (qq a8 (.mv z9))])
noncomputable def b56_4 : CC := (.reg [(qq a11 (.bi .eql z3 (x6 5))), (qq a10 (.mv z11))])
noncomputable def b56_5 : CC := (.reg [(qq a12 (.bi .eql z3 (x6 6))), (qq a10 (.mv z12))])
noncomputable def b56_6 : CC := (.reg [(qq a13 (.bi .eql z3 (x6 25))), (qq a10 (.mv z13))])
noncomputable def b56_7 : CC := (.cond z10 .skip (.seq b56_5 (.cond z10 .skip b56_6)))
noncomputable def b56_8 : CC := (.seq (.seq b56_4 b56_7) (.cond z10 (.exit 4) .skip))
noncomputable def b56_9 : CC := (.reg [(qq a15 (.bi .eql z3 (x6 7))), (qq a14 (.mv z15))])
noncomputable def b56_10 : CC := (.seq b56_8 (.seq b56_9 (.cond z14 (.exit 5) .skip)))
noncomputable def b56_11 : CC := (.seq (.seq b56_3 (.cond z8 (.exit 3) .skip)) b56_10)
noncomputable def b56_12 : CC := (.seq (.seq b56_2 (.cond z6 (.exit 2) .skip)) b56_11)
noncomputable def b56_13 : CC := (.seq (.seq b56_1 (.cond z4 (.exit 1) .skip)) b56_12)
noncomputable def b56_14 : CC := (.seq (.reg [(qq a2 (.mv (x6 1)))]) .ret)
noncomputable def b56_15 : CC := (.seq (.block 2 (.block 1 (.seq b56_13 (.exit 0)))) (.seq b56_14 (.exit 0)))
noncomputable def b56_16 : CC := (.seq (.reg [(qq a2 (.mv (x6 2)))]) .ret)
noncomputable def b56_17 : CC := (.seq (.reg [(qq a2 (.mv (x6 3)))]) .ret)
noncomputable def b56_18 : CC := (.seq (.block 4 (.seq (.block 3 b56_15) (.seq b56_16 (.exit 0)))) (.seq b56_17 (.exit 0)))
noncomputable def b56_19 : CC := (.seq (.reg [(qq a2 (.mv (x6 4)))]) .ret)
noncomputable def b56_20 : CC := (.seq (.reg [(qq a3 (.mv z0))]) (.block 0 (.seq (.block 5 b56_18) (.seq b56_19 (.exit 0)))))
noncomputable def b56_21 : CC := (.reg [(qq a17 (.mv z0)), (qq a18 (.bi .geq z17 (x6 8))), (qq a19 (.mv z18)), ⟨(some a20), .q (.mv z0), (some (a19, true))⟩, ⟨(some a21), .q (.bi .leq z20 (x6 17)), (some (a19, true))⟩, (qq a22 (.pk z19 z21 xF)), (qq a16 (.mv z22))])
noncomputable def b56_22 : CC := (.seq (.reg [(qq a2 (.mv (x6 5)))]) .ret)
noncomputable def b56_23 : CC := (.reg [(qq a24 (.mv z0)), (qq a25 (.bi .geq z24 (x6 18))), (qq a26 (.mv z25)), ⟨(some a27), .q (.mv z0), (some (a26, true))⟩, ⟨(some a28), .q (.bi .leq z27 (x6 22)), (some (a26, true))⟩, (qq a29 (.pk z26 z28 xF)), (qq a30 (.mv z29)), ⟨(some a31), .q (.mv z0), (some (a30, false))⟩, ⟨(some a32), .q (.bi .geq z31 (x6 26)), (some (a30, false))⟩, ⟨(some a33), .q (.mv z32), (some (a30, false))⟩, ⟨(some a34), .q (.mv z0), (some (a33, true))⟩, ⟨(some a35), .q (.bi .leq z34 (x6 28)), (some (a33, true))⟩, ⟨(some a36), .q (.pk z33 z35 xF), (some (a30, false))⟩, (qq a37 (.pk z30 xT z36)), (qq a23 (.mv z37))])
noncomputable def b56_24 : CC := (.seq (.reg [(qq a2 (.mv (x6 6)))]) .ret)
noncomputable def b56_25 : CC := (.seq b56_23 (.cond z23 b56_24 .skip))
noncomputable def b56_26 : CC := (.seq b56_21 (.cond z16 b56_22 b56_25))
noncomputable def b56_27 : CC := (.seq (.reg [(qq a2 (.mv (x6 0)))]) .ret)
noncomputable def b56_28 : CC := (.seq (.reg [(qq a2 (.mv (x6 0)))]) (.seq b56_20 (.seq (.block 6 b56_26) b56_27)))
noncomputable def c56 : CF := .mk 6 [.t a2] b56_28
theorem names53_bd : bds (fun _ => False) names53 := by unfold names53; simp [bds, bd]
section
variable {P : Program} (hm : P.follows .mixedOrders = true) {Φ : Nat → Option CF} (hΦ : PhiOk P Φ)
include hm hΦ
theorem o73 (h : Φ 73 = some c73) : OrcOk P 73 (pureO h73) := pure_of hm hΦ (by
  intro args v ct hv hct; unfold h73 at hv; split at hv
  · obtain rfl := Option.some.inj hv; exact ⟨names53_bd, t73 Φ h _⟩
  · cases hv)
end
end Go.Proofs.YtaigcmdogapjgaaGreatDoor.Ev
set_option maxRecDepth 10000
set_option maxHeartbeats 16000000
namespace Go.Proofs.YtaigcmdogapjgaaGreatDoor.Ev
open Go
noncomputable def b31_1 : CC := (.reg [(aa a2 (.bx 46 5 z0)), (qq a4 (.mv (.c (.i .u32 0)))), (qq a5 (.mv xF))])
noncomputable def b31_2 : CC := (.reg [(qq a6 (.fa 0 z2)), (qq a7 (.ld1 z6))])
noncomputable def b31_3 : CC := (.reg [(qq a9 (.bi .eql z7 (x6 23))), (qq a8 (.mv z9))])
noncomputable def b31_4 : CC := (.reg [(qq a10 (.bi .eql z7 (x6 25))), (qq a8 (.mv z10))])
noncomputable def b31_5 : CC := (.reg [(qq a11 (.bi .eql z7 (x6 26))), (qq a8 (.mv z11))])
noncomputable def b31_6 : CC := (.reg [(qq a12 (.bi .eql z7 (x6 27))), (qq a8 (.mv z12))])
noncomputable def b31_7 : CC := (.reg [(qq a13 (.bi .eql z7 (x6 28))), (qq a8 (.mv z13))])
noncomputable def b31_8 : CC := (.cond z8 .skip (.seq b31_6 (.cond z8 .skip b31_7)))
noncomputable def b31_9 : CC := (.seq b31_4 (.cond z8 .skip (.seq b31_5 b31_8)))
noncomputable def b31_10 : CC := (.reg [(qq a14 (.ldn 5 z2)), (ee a15 (.call 59 [z14]))])
noncomputable def b31_11 : CC := (.reg [(qq a16 (.mv z1)), (qq a17 (.fa 4 z2)), (qq a18 (.ld1 z17)), (qq a19 (.ci .u32 z18)), (qq a20 (.bi .shl z19 (.c (.i .u64 2)))), (qq a21 (.bi .add z16 z20)), (qq a4 (.mv z21)), (qq a5 (.mv xT))])
noncomputable def b31_12 : CC := (.cond z15 (.seq b31_11 .ret) .skip)
noncomputable def b31_13 : CC := (.seq (.seq b31_3 (.cond z8 .skip b31_9)) (.cond z8 (.seq b31_10 b31_12) .skip))
noncomputable def b31_14 : CC := (.reg [(qq a4 (.mv (.c (.i .u32 0)))), (qq a5 (.mv xF))])
noncomputable def b31_15 : CC := (.seq b31_1 (.seq (.seq b31_2 (.block 0 b31_13)) (.seq b31_14 .ret)))
noncomputable def c31 : CF := .mk 5 [.t a4, .t a5] b31_15
end Go.Proofs.YtaigcmdogapjgaaGreatDoor.Ev
set_option maxRecDepth 10000
set_option maxHeartbeats 16000000
namespace Go.Proofs.YtaigcmdogapjgaaGreatDoor.Ev
open Go
noncomputable def b38_1 : CC := (.seq (.reg [(qq a0 (.mv (.c (.f 72 [] []))))]) .ret)
noncomputable def c38 : CF := .mk 1 [.t a0] (.seq (.reg [(qq a0 (.mv (.c .f0)))]) b38_1)
theorem e38 : argTr 1 [] = sk1 := rfl
def B38 := ai @e38 (wu b38_1.eq_1)
noncomputable def b72_1 : CC := (.reg [(ee a4 (.call 73 [])), (qq a5 (.mv (x6 0)))])
noncomputable def b72_2 : CC := (.reg [(qq a6 (.bi .lss z5 (x6 29)))])
noncomputable def b72_3 : CC := (.reg [(qq a7 (.mv z5)), (qq a8 (.ixA1 29 1 z4 z5)), (qq a2 (.mv z7)), (qq a3 (.mv z8))])
noncomputable def b72_4 : CC := (.reg [(qq a9 (.mv z2)), (qq a10 (.bi .gtr z9 (x6 0))), (qq a11 (.mv z10)), ⟨(some a12), .q (.mv z0), (some (a11, true))⟩, ⟨(some a13), .q (.mv z2), (some (a11, true))⟩, ⟨(some a14), .q (.mv z3), (some (a11, true))⟩, ⟨(some a15), .e (.cv z12 [z13, z14]), (some (a11, true))⟩, ⟨(some a16), .q (.un .not z15), (some (a11, true))⟩, (qq a17 (.pk z11 z16 xF))])
noncomputable def b72_5 : CC := (.seq b72_3 (.seq b72_4 (.cond z17 .ret .skip)))
noncomputable def b72_6 : CC := (.reg [(qq a18 (.bi .add z5 (x6 1))), (qq a5 (.mv z18))])
noncomputable def b72_7 : CC := (.seq (.cond z6 .skip (.exit 0)) (.seq (.block 1 b72_5) b72_6))
noncomputable def c72 : CF := .mk 5 [] (.seq b72_1 (.block 0 (.loop (.seq b72_2 b72_7))))
theorem e72 (v0 : V) : argTr 5 [v0] = (.n sk4 (some v0) sk4) := rfl
def B72 := ai @e72 (ai (wu b72_1.eq_1) (ai (wu b72_2.eq_1) (ai (wu b72_3.eq_1) (ai (wu b72_4.eq_1) (ai (wu b72_5.eq_1) (ai (wu b72_6.eq_1) (wu b72_7.eq_1)))))))
def nameL : List (List UInt8) := [[], [110, 111, 112], [115, 116, 111, 112], [99, 97, 108, 108], [98, 97, 99, 107], [99, 111, 110, 115, 116], [104, 105, 103, 104], [99, 111, 112, 121], [97, 100, 100], [115, 117, 98], [109, 117, 108], [100, 105, 118], [109, 111, 100], [97, 110, 100], [111, 114], [120, 111, 114], [115, 104, 108], [115, 104, 114], [97, 100, 100, 105], [108, 111, 97, 100], [115, 116, 111, 114, 101], [108, 111, 97, 100, 98], [115, 116, 111, 114, 101, 98], [106, 117, 109, 112], [106, 117, 109, 112, 114], [108, 105, 110, 107], [98, 101, 113], [98, 110, 101], [98, 108, 116]]
theorem names_eq : names53 = nameL.map sV := rfl
theorem nameL_len : nameL.length = 29 := rfl
theorem names_get {k : Nat} (h : k < 29) : names53[k]? = some (sV (nameL[k]'h)) := by
  rw [names_eq, List.getElem?_map, List.getElem?_eq_getElem (show k < nameL.length from h)]; rfl
theorem t38 (Φ : Nat → Option CF) (h : Φ 38 = some c38) (ct : Nat) : To Φ 38 [] ct (.f 72 [] []) := by
  refine to_walk h ?_
  simp only [WX, B38]
def h38 : List V → Option V
  | [] => some (.f 72 [] [])
  | _ => none
theorem h38_eq : h38 [] = some (.f 72 [] []) := rfl
theorem r72 (Φ : Nat → Option CF) (h : Φ 72 = some c72) (h73 : Φ 73 = some (.orc (pureO h73))) {F : RO} {M : Mem} {c y : Nat} {I : Nat → Mem → Nat → Prop} {J : Mem → Nat → Prop} (h0 : I 1 M c)
    (hY : ∀ k M c, (hk : k < 29) → 1 ≤ k → I k M c → RTo (callV (K Φ none 72 F) (.y y) [.i .i64 (k : Int), sV (nameL[k]'hk)] M c) fun r M' c' => (r = .b true ∧ I (k + 1) M' c') ∨ (r = .b false ∧ J M' c')) :
    Calls Φ F 72 [.y y] M c fun _ M' c' => I 29 M' c' ∨ J M' c' := by
  refine calls_walk h ?_
  simp only [WX, B72, h73, h73_eq]
  obtain ⟨Iv, hIv⟩ : ∃ Iv : Nat → St → Prop, ∀ n s, Iv n s ↔ (∃ (k : Nat) (M1 : Mem) (c1 : Nat) (u : List (Option V)), n = 29 - k ∧ k ≤ 29 ∧ s = .mk ((.n (.n (uv7 u 15 7 23 3 19 11 27) (uO u 1) (.n (uv3 u 17 9 25) (some (.i .i64 (k : Int))) (uv3 u 21 13 29))) (some (.y y)) (.n (.n (uv3 u 16 8 24) (some (.g names53)) (uv3 u 20 12 28)) (uO u 2) (uv7 u 18 10 26 6 22 14 30)))) [] M1 c1 ∧ I (max k 1) M1 c1) := ⟨fun n s => _, fun _ _ => Iff.rfl⟩
  refine wp_while Iv ?_ 29 _ ((hIv _ _).2 ⟨0, _, _, [none, _, _, _, none, none, _, _, _, _, _, _, _, _, _, _, _, _, _, _, _, _, _, _, _, _, _, _, _, _, _], rfl, Nat.zero_le _, rfl, h0⟩)
  intro n s hIs
  obtain ⟨k, M1, c1, u, rfl, hk, rfl, hi⟩ := (hIv _ _).1 hIs
  clear hIs
  have q8 : biV .add (.i .i64 (k : Int)) (.i .i64 1) = some (.i .i64 ((k + 1 : Nat) : Int)) := by rw [i64_add _ _ (by omega) (by omega)]; simp
  by_cases hlt : k < 29
  · have hd : decide ((k : Int) < 29) = true := decide_eq_true (by omega)
    have hix : ixA1V 29 1 (.g names53) (.i .i64 (k : Int)) = some (sV (nameL[k]'hlt)) := by
      rw [ixA1_g, if_pos (by omega)]
      exact names_get hlt
    by_cases h1 : 1 ≤ k
    · have hd1 : decide (0 < (k : Int)) = true := decide_eq_true (by omega)
      rw [show max k 1 = k by omega] at hi
      simp only [WX, B72, hd, hix, hd1]
      refine putE_to ((hY k M1 c1 hlt h1 hi).mono ?_)
      rintro r M3 c1003 (⟨rfl, hi3⟩ | ⟨rfl, hj⟩)
      · simp only [WX, B72, q8]
        exact ⟨29 - (k + 1), by omega, (hIv _ _).2 ⟨k + 1, M3, c1003, [none, _, _, _, none, none, _, _, _, _, _, _, _, _, _, _, _, _, _, _, _, _, _, _, _, _, _, _, _, _, _], rfl, by omega, rfl, by rw [show max (k + 1) 1 = k + 1 by omega]; exact hi3⟩⟩
      · simp only [WX]
        exact .inr hj
    · obtain rfl : k = 0 := by omega
      have hd1 : decide (0 < ((0 : Nat) : Int)) = false := rfl
      simp only [WX, B72, hd, hix, q8, hd1]
      exact ⟨28, by omega, (hIv _ _).2 ⟨1, M1, c1, [none, _, _, _, none, none, _, _, _, _, _, _, _, _, _, _, _, _, _, _, _, _, _, _, _, _, _, _, _, _, _], rfl, by omega, rfl, hi⟩⟩
  · have hd : decide ((k : Int) < 29) = false := decide_eq_false (by omega)
    obtain rfl : k = 29 := by omega
    simp only [WX, B72, hd]
    exact .inl hi
noncomputable def b19_1 : CC := (.reg [(aa a1 (.bx 9 1 z0)), (aa a2 (.al 44 [(.i .i64 0)])), (aa a3 (.al 4 [(.b false)]))])
noncomputable def b19_2 : CC := (.reg [(qq a4 (.mv z7))])
noncomputable def b19_3 : CC := (.reg [(qq a5 (.mv z8))])
noncomputable def b19_4 : CC := (.reg [(qq a9 (.mv z5)), (qq a10 (.ld1 z1)), (qq a11 (.bi .eql z9 z10))])
noncomputable def b19_5 : CC := (.reg [(qq a12 (.mv z4)), (ez (.st 1 z2 z12)), (ez (.st 1 z3 xT))])
noncomputable def b19_6 : CC := (.seq b19_4 (.cond z11 (.seq b19_5 .ret) .skip))
noncomputable def b19_7 : CC := (.rf z6 [a7, a8] (.seq b19_2 b19_3) (.block 1 b19_6))
noncomputable def b19_8 : CC := (.seq (.reg [(ee a6 (.call 38 []))]) (.block 0 b19_7))
noncomputable def b19_9 : CC := (.reg [(ez (.st 1 z2 (x6 0))), (ez (.st 1 z3 xF))])
noncomputable def c19 : CF := .mk 4 [.c1 a2, .c1 a3] (.seq b19_1 (.seq b19_8 (.seq b19_9 .ret)))
theorem e19 (v0 : V) : argTr 4 [v0] = (.n sk3 (some v0) sk3) := rfl
def B19 := ai @e19 (ai (wu b19_1.eq_1) (ai (wu b19_2.eq_1) (ai (wu b19_3.eq_1) (ai (wu b19_4.eq_1) (ai (wu b19_5.eq_1) (ai (wu b19_6.eq_1) (ai (wu b19_7.eq_1) (ai (wu b19_8.eq_1) (wu b19_9.eq_1)))))))))
def IsN (s : List UInt8) (k : Nat) : Prop := 1 ≤ k ∧ nameL[k]? = some s
def FoundN (s : List UInt8) (n : Int) (b : Bool) : Prop := (∃ k, IsN s k ∧ n = (k : Int) ∧ b = true) ∨ ((∀ k, ¬ IsN s k) ∧ n = 0 ∧ b = false)
theorem r19 (Φ : Nat → Option CF) (h : Φ 19 = some c19) (h38 : Φ 38 = some (.orc (pureO h38))) (h73 : Φ 73 = some (.orc (pureO h73))) (h72 : Φ 72 = some c72) {F : RO} {M : Mem} {c : Nat} (s : List UInt8) (ok : Okm F M c) :
    Calls Φ F 19 [sV s] M c fun r M' c' => (∃ n b, r = .t [.i .i64 n, .b b] ∧ FoundN s n b) ∧ Gr c M c' M' := by
  refine calls_walk h ?_
  have f1 : flatten (sV s) = [sV s] := rfl
  have f2 : isOne (sV s) = true := rfl
  simp only [WX, Nat.reduceAdd, B19, f1, f2, h38, h38_eq]
  refine wp_rf0 ?_
  simp only [WX, Nat.reduceAdd, callI_f]
  obtain ⟨BL, hBL⟩ : ∃ BL : LS → Pend → Blk, BL = fun st p => Blk.loop st p 19 ((.n (.n (.n sk1 (some (.p (c + 2) 0)) sk1) (some (.p c 0)) sk2) (some (sV s)) (.n sk2 (some (.p (c + 1) 0)) (.n sk1 (some (.f 72 [] [])) sk1)))) [(.l (.l (.l .h))), (.r (.l (.l .h)))] (b19_2.seq b19_3) (.block 1 b19_6) (c + 3) := ⟨_, rfl⟩
  obtain ⟨Ik, hIk⟩ : ∃ I : Nat → Mem → Nat → Prop, ∀ k M' cc, I k M' cc ↔ (Gr c M cc M' ∧ c + 5 ≤ cc ∧ M'.get c = some (rowB 9 [sV s]) ∧ M'.get (c + 1) = some (rowB 44 [.i .i64 0]) ∧ M'.get (c + 2) = some (rowB 4 [.b false]) ∧ M'.get (c + 3) = some (.defs false) ∧ M'.get (c + 4) = some (BL .ready .none) ∧ ∀ j, j < k → ¬ IsN s j) := ⟨fun k M' cc => _, fun _ _ _ => Iff.rfl⟩
  obtain ⟨J, hJ⟩ : ∃ J : Mem → Nat → Prop, ∀ M' cc, J M' cc ↔ (∃ k, IsN s k ∧ Gr c M cc M' ∧ c + 5 ≤ cc ∧ M'.get (c + 1) = some (rowB 44 [.i .i64 (k : Int)]) ∧ M'.get (c + 2) = some (rowB 4 [.b true]) ∧ M'.get (c + 3) = some (.defs false) ∧ M'.get (c + 4) = some (BL .done .ret)) := ⟨fun M' cc => _, fun _ _ => Iff.rfl⟩
  refine (r72 Φ h72 h73 (y := c + 4) (I := Ik) (J := J) ?_ ?_).mono ?_
  · refine (hIk _ _ _).2 ⟨(((((Gr.refl ok).set (c2 := c + 1) c _ (Nat.le_refl _) (by omega) (by omega)).set (c2 := c + 2) (c + 1) _ (by omega) (by omega) (by omega)).set (c2 := c + 3) (c + 2) _ (by omega) (by omega) (by omega)).set (c2 := c + 4) (c + 3) _ (by omega) (by omega) (by omega)).set (c + 4) _ (by omega) (by omega) (by omega), by omega, ?_, ?_, ?_, ?_, ?_, fun j hj hn => by have := hn.1; omega⟩
    · rw [get_ne _ _ (by omega), get_ne _ _ (by omega), get_ne _ _ (by omega), get_ne _ _ (by omega)]; exact get_same _ _ _
    · rw [get_ne _ _ (by omega), get_ne _ _ (by omega), get_ne _ _ (by omega)]; exact get_same _ _ _
    · rw [get_ne _ _ (by omega), get_ne _ _ (by omega)]; exact get_same _ _ _
    · rw [get_ne _ _ (by omega)]; exact get_same _ _ _
    · rw [hBL]; exact get_same _ _ _
  · intro k M2 cc hk hk1 hi
    obtain ⟨a1, a2, a3, a4, a5, a6, a7, a8⟩ := (hIk _ _ _).1 hi
    have hl5 := a7
    rw [hBL] at hl5
    refine yield_of hl5 (setParams_two _ _ _ _ _) ?_
    simp only [WX, B19]
    refine asgQ_of hl5 ?_
    rw [show Blk.loop LS.busy _ _ _ _ _ _ _ = BL .busy .none by rw [hBL]]
    have gMB := a1.set (c2 := cc) (c + 4) (BL .busy .none) (by omega) (by omega) (Nat.le_refl _)
    have m3 : (M2.set (c + 4) (BL .busy .none)).get c = some (rowB 9 [sV s]) := (get_ne _ _ (by omega)).trans a3
    have m4 : (M2.set (c + 4) (BL .busy .none)).get (c + 1) = some (rowB 44 [.i .i64 0]) := (get_ne _ _ (by omega)).trans a4
    have m5 : (M2.set (c + 4) (BL .busy .none)).get (c + 2) = some (rowB 4 [.b false]) := (get_ne _ _ (by omega)).trans a5
    have m6 : (M2.set (c + 4) (BL .busy .none)).get (c + 3) = some (.defs false) := (get_ne _ _ (by omega)).trans a6
    have m7 : (M2.set (c + 4) (BL .busy .none)).get (c + 4) = some (BL .busy .none) := get_same _ _ _
    generalize M2.set (c + 4) (BL .busy .none) = MB at gMB m3 m4 m5 m6 m7 ⊢
    have l1003 : load1 F MB c 0 = some (sV s) := load_row m3 0
    by_cases he : nameL[k]'hk = s
    · have d1 : decide (nameL[k]'hk = s) = true := decide_eq_true he
      have hs1 := store_row m4 0 [.i .i64 (k : Int)] (by simp) rfl
      have m5' : (MB.set (c + 1) (rowB 44 [.i .i64 (k : Int)])).get (c + 2) = some (rowB 4 [.b false]) := (get_ne _ _ (by omega)).trans m5
      have hs2 := store_row m5' 0 [.b true] (by simp) rfl
      simp only [WX, B19, l1003, d1, hs1, hs2]
      have hly : ((MB.set (c + 1) (rowB 44 [V.i .i64 (k : Int)])).set (c + 2) (rowB 4 [V.b true])).get (c + 4) = some (BL .busy .none) := by rw [get_ne _ _ (by omega), get_ne _ _ (by omega)]; exact m7
      rw [hBL] at hly
      refine yq_ret hly ?_
      refine Or.inr ⟨rfl, (hJ _ _).2 ⟨k, ⟨hk1, ?_⟩, ((gMB.set (c + 1) _ (by omega) (by omega) (Nat.le_refl _)).set (c + 2) _ (by omega) (by omega) (Nat.le_refl _)).set (c + 4) _ (by omega) (by omega) (Nat.le_refl _), a2, ?_, ?_, ?_, ?_⟩⟩
      · exact (List.getElem?_eq_getElem (show k < nameL.length from hk)).trans (congrArg some he)
      · rw [get_ne _ _ (by omega), get_ne _ _ (by omega)]; exact get_same _ _ _
      · rw [get_ne _ _ (by omega)]; exact get_same _ _ _
      · rw [get_ne _ _ (by omega), get_ne _ _ (by omega), get_ne _ _ (by omega)]; exact m6
      · rw [hBL]; exact get_same _ _ _
    · have d1 : decide (nameL[k]'hk = s) = false := decide_eq_false he
      simp only [WX, B19, l1003, d1]
      have hly := m7
      rw [hBL] at hly
      refine yq_nrm hly ?_
      refine Or.inl ⟨rfl, (hIk _ _ _).2 ⟨gMB.set (c + 4) _ (by omega) (by omega) (Nat.le_refl _), a2, ?_, ?_, ?_, ?_, ?_, fun j hj hn => ?_⟩⟩
      · rw [get_ne _ _ (by omega)]; exact m3
      · rw [get_ne _ _ (by omega)]; exact m4
      · rw [get_ne _ _ (by omega)]; exact m5
      · rw [get_ne _ _ (by omega)]; exact m6
      · rw [hBL]; exact get_same _ _ _
      · by_cases hjk : j = k
        · subst hjk
          have := hn.2
          rw [List.getElem?_eq_getElem (show j < nameL.length from hk)] at this
          exact he (Option.some.inj this)
        · exact a8 j (by omega) hn
  · rintro v' M2 cc (hi | hj)
    · obtain ⟨a1, a2, a3, a4, a5, a6, a7, a8⟩ := (hIk _ _ _).1 hi
      have hl5 := a7
      rw [hBL] at hl5
      refine ⟨_, _, _, _, _, _, _, _, hl5, (by intro h; cases h), ?_⟩
      rw [show Blk.loop LS.exhausted _ _ _ _ _ _ _ = BL .exhausted .none by rw [hBL]]
      have gMB := a1.set (c2 := cc) (c + 4) (BL .exhausted .none) (by omega) (by omega) (Nat.le_refl _)
      have m4 : (M2.set (c + 4) (BL .exhausted .none)).get (c + 1) = some (rowB 44 [.i .i64 0]) := (get_ne _ _ (by omega)).trans a4
      have m5 : (M2.set (c + 4) (BL .exhausted .none)).get (c + 2) = some (rowB 4 [.b false]) := (get_ne _ _ (by omega)).trans a5
      have m6 : (M2.set (c + 4) (BL .exhausted .none)).get (c + 3) = some (.defs false) := (get_ne _ _ (by omega)).trans a6
      generalize M2.set (c + 4) (BL .exhausted .none) = MB at gMB m4 m5 m6 ⊢
      have hs1 := store_row m4 0 [.i .i64 0] (by simp) rfl
      have m5' : (MB.set (c + 1) (rowB 44 [.i .i64 0])).get (c + 2) = some (rowB 4 [.b false]) := (get_ne _ _ (by omega)).trans m5
      have hs2 := store_row m5' 0 [.b false] (by simp) rfl
      have ht1 : takeDefs [c + 3] ((MB.set (c + 1) (rowB 44 [V.i .i64 0])).set (c + 2) (rowB 4 [V.b false])) = some (((MB.set (c + 1) (rowB 44 [V.i .i64 0])).set (c + 2) (rowB 4 [V.b false])).set (c + 3) (.defs true)) := by
        rw [takeDefs_one (by rw [get_ne _ _ (by omega), get_ne _ _ (by omega)]; exact m6)]; rfl
      simp only [WX, Nat.reduceBEq, B19, pendEx_none, hs1, hs2, endQ_ret1, ht1, endD_some]
      refine ⟨⟨0, false, rfl, .inr ⟨fun j hj => ?_, rfl, rfl⟩⟩, ((gMB.set (c + 1) _ (by omega) (by omega) (Nat.le_refl _)).set (c + 2) _ (by omega) (by omega) (Nat.le_refl _)).set (c + 3) _ (by omega) (by omega) (Nat.le_refl _)⟩
      by_cases hj29 : j < 29
      · exact a8 j hj29 hj
      · have := hj.2
        rw [List.getElem?_eq_none (show nameL.length ≤ j by rw [nameL_len]; omega)] at this
        cases this
    · obtain ⟨k, hk, a1, a2, a4, a5, a6, a7⟩ := (hJ _ _).1 hj
      have hl5 := a7
      rw [hBL] at hl5
      refine ⟨_, _, _, _, _, _, _, _, hl5, (by intro h; cases h), ?_⟩
      rw [show Blk.loop LS.exhausted _ _ _ _ _ _ _ = BL .exhausted .ret by rw [hBL]]
      have gMB := a1.set (c2 := cc) (c + 4) (BL .exhausted .ret) (by omega) (by omega) (Nat.le_refl _)
      have m4 : (M2.set (c + 4) (BL .exhausted .ret)).get (c + 1) = some (rowB 44 [.i .i64 (k : Int)]) := (get_ne _ _ (by omega)).trans a4
      have m5 : (M2.set (c + 4) (BL .exhausted .ret)).get (c + 2) = some (rowB 4 [.b true]) := (get_ne _ _ (by omega)).trans a5
      have m6 : (M2.set (c + 4) (BL .exhausted .ret)).get (c + 3) = some (.defs false) := (get_ne _ _ (by omega)).trans a6
      generalize M2.set (c + 4) (BL .exhausted .ret) = MB at gMB m4 m5 m6 ⊢
      have ht1 : takeDefs [c + 3] MB = some (MB.set (c + 3) (.defs true)) := by
        rw [takeDefs_one m6]; rfl
      have l1004 : load1 F (MB.set (c + 3) (.defs true)) (c + 1) 0 = some (.i .i64 (k : Int)) := load_row ((get_ne _ _ (by omega)).trans m4) 0
      have l1005 : load1 F (MB.set (c + 3) (.defs true)) (c + 2) 0 = some (.b true) := load_row ((get_ne _ _ (by omega)).trans m5) 0
      simp only [WX, pendEx_ret, endQ_ret1, ht1, endD_some, l1004, l1005]
      exact ⟨⟨k, true, rfl, .inl ⟨k, hk, rfl, rfl⟩⟩, gMB.set (c + 3) _ (by omega) (by omega) (Nat.le_refl _)⟩
end Go.Proofs.YtaigcmdogapjgaaGreatDoor.Ev
set_option maxRecDepth 10000
set_option maxHeartbeats 4000000
namespace Go.Proofs.YtaigcmdogapjgaaGreatDoor.Ev
open Go
noncomputable def b21_1 : CC := (.reg [(qq a3 (.mv z0)), (qq a4 (.bi .lss z3 (.c (.i .i32 97)))), (qq a5 (.mv z4)), ⟨(some a6), .q (.mv z0), (some (a5, false))⟩, ⟨(some a7), .q (.bi .gtr z6 (.c (.i .i32 122))), (some (a5, false))⟩, (qq a8 (.pk z5 xT z7)), (qq a9 (.mv z8)), ⟨(some a10), .q (.mv z0), (some (a9, true))⟩, ⟨(some a11), .q (.bi .lss z10 (.c (.i .i32 48))), (some (a9, true))⟩, ⟨(some a12), .q (.mv z11), (some (a9, true))⟩, ⟨(some a13), .q (.mv z0), (some (a12, false))⟩, ⟨(some a14), .q (.bi .gtr z13 (.c (.i .i32 57))), (some (a12, false))⟩, ⟨(some a15), .q (.pk z12 xT z14), (some (a9, true))⟩, (qq a16 (.pk z9 z15 xF)), (qq a17 (.mv z16)), ⟨(some a18), .q (.mv z0), (some (a17, true))⟩, ⟨(some a19), .q (.bi .neq z18 (.c (.i .i32 95))), (some (a17, true))⟩, (qq a20 (.pk z17 z19 xF)), (qq a2 (.mv z20))])
noncomputable def b21_2 : CC := (.seq (.reg [(qq a2 (.mv xF))]) (.seq b21_1 .ret))
noncomputable def c21 : CF := .mk 5 [.t a2] b21_2
theorem e21 (v0 : V) : argTr 5 [v0] = (.n sk4 (some v0) sk4) := rfl
def B21 := ai @e21 (ai (wu b21_1.eq_1) (wu b21_2.eq_1))
noncomputable def b74_1 : CC := (.reg [(qq a6 (.mv (x6 0)))])
noncomputable def b74_2 : CC := (.reg [(qq a9 (.mv z0)), (aa a10 (.rgs z9))])
noncomputable def b74_3 : CC := (.reg [(ee a11 (.nxs z10)), (qq a12 (.ex 0 z11))])
noncomputable def b74_4 : CC := (.reg [(qq a13 (.ex 1 z11)), (qq a14 (.ex 2 z11)), (qq a7 (.mv z13)), (qq a8 (.mv z14))])
noncomputable def b74_5 : CC := (.reg [(qq a15 (.mv z1)), (qq a16 (.mv z8)), (ee a17 (.cv z15 [z16])), (qq a18 (.mv z2)), (qq a19 (.eq false .bool false z17 z18))])
noncomputable def b74_6 : CC := (.reg [(qq a20 (.mv z7)), (qq a6 (.mv z20))])
noncomputable def b74_7 : CC := (.seq b74_5 (.cond z19 (.seq b74_6 .ret) .skip))
noncomputable def b74_8 : CC := (.seq (.cond z12 .skip (.exit 0)) (.block 1 (.seq b74_4 b74_7)))
noncomputable def b74_9 : CC := (.reg [(qq a6 (.mv (x6 (-1))))])
noncomputable def b74_10 : CC := (.seq (.seq b74_2 (.block 0 (.loop (.seq b74_3 b74_8)))) (.seq b74_9 .ret))
noncomputable def c74 : CF := .mk 5 [.t a6] (.seq b74_1 b74_10)
theorem e74 (v0 v1 v2 : V) : argTr 5 [v0, v1, v2] = (.n (.n sk3 (some v1) sk3) (some v0) (.n sk3 (some v2) sk3)) := rfl
def B74 := ai @e74 (ai (wu b74_1.eq_1) (ai (wu b74_2.eq_1) (ai (wu b74_3.eq_1) (ai (wu b74_4.eq_1) (ai (wu b74_5.eq_1) (ai (wu b74_6.eq_1) (ai (wu b74_7.eq_1) (ai (wu b74_8.eq_1) (ai (wu b74_9.eq_1) (wu b74_10.eq_1))))))))))
noncomputable def b39_1 : CC := (.reg [(qq a4 (.mv (x6 0)))])
noncomputable def b39_2 : CC := (.reg [(qq a5 (.mv z0)), (qq a6 (.mv z1)), (ee a7 (.call 74 [z5, z6, xT])), (qq a4 (.mv z7))])
noncomputable def c39 : CF := .mk 4 [.t a4] (.seq b39_1 (.seq b39_2 .ret))
theorem e39 (v0 v1 : V) : argTr 4 [v0, v1] = (.n (.n sk2 (some v1) sk2) (some v0) sk3) := rfl
def B39 := ai @e39 (ai (wu b39_1.eq_1) (wu b39_2.eq_1))
noncomputable def b20_1 : CC := (.reg [(qq a4 (.mv xF))])
noncomputable def b20_2 : CC := (.reg [(qq a5 (.mv z0)), (qq a6 (.mv z1)), (ee a7 (.call 39 [z5, z6])), (qq a8 (.bi .geq z7 (x6 0))), (qq a4 (.mv z8))])
noncomputable def c20 : CF := .mk 4 [.t a4] (.seq b20_1 (.seq b20_2 .ret))
theorem e20 (v0 v1 : V) : argTr 4 [v0, v1] = (.n (.n sk2 (some v1) sk2) (some v0) sk3) := rfl
def B20 := ai @e20 (ai (wu b20_1.eq_1) (wu b20_2.eq_1))
noncomputable def b7_1 : CC := (.reg [(qq a6 (.mv z0)), (ee a7 (.call 19 [z6])), (qq a5 (.mv z7)), (qq a8 (.ex 0 z5)), (qq a9 (.ex 1 z5)), (qq a3 (.mv z8)), (qq a4 (.mv z9))])
noncomputable def b7_2 : CC := (.reg [(qq a10 (.mv z4)), (qq a11 (.mv z10)), ⟨(some a12), .q (.mv z0), (some (a11, false))⟩, ⟨(some a13), .q (.ln .str z12), (some (a11, false))⟩, ⟨(some a14), .q (.bi .lss z13 (x6 1)), (some (a11, false))⟩, (qq a15 (.pk z11 xT z14)), (qq a16 (.mv z15)), ⟨(some a17), .q (.mv z0), (some (a16, false))⟩, ⟨(some a18), .q (.ln .str z17), (some (a16, false))⟩, ⟨(some a19), .q (.bi .gtr z18 (x6 12)), (some (a16, false))⟩, (qq a20 (.pk z16 xT z19)), (qq a21 (.mv z20)), ⟨(some a22), .q (.mv z0), (some (a21, false))⟩, ⟨(some a23), .q (.ixS z22 (x6 0)), (some (a21, false))⟩, ⟨(some a24), .q (.bi .lss z23 (.c (.i .u8 97))), (some (a21, false))⟩, (qq a25 (.pk z21 xT z24)), (qq a26 (.mv z25)), ⟨(some a27), .q (.mv z0), (some (a26, false))⟩, ⟨(some a28), .q (.ixS z27 (x6 0)), (some (a26, false))⟩, ⟨(some a29), .q (.bi .gtr z28 (.c (.i .u8 122))), (some (a26, false))⟩, (qq a30 (.pk z26 xT z29))])
noncomputable def b7_3 : CC := (.seq (.reg [(qq a2 (.mv xF))]) .ret)
noncomputable def b7_4 : CC := (.seq b7_1 (.seq b7_2 (.cond z30 b7_3 .skip)))
noncomputable def b7_5 : CC := (.reg [(qq a31 (.mv z0)), (ee a32 (.call 20 [z31, (.c (.f 21 [] []))])), (qq a33 (.un .not z32)), (qq a2 (.mv z33))])
noncomputable def b7_6 : CC := (.seq (.reg [(qq a2 (.mv xF))]) (.seq b7_4 (.seq b7_5 .ret)))
noncomputable def c7 : CF := .mk 6 [.t a2] b7_6
theorem e7 (v0 : V) : argTr 6 [v0] = (.n sk5 (some v0) sk5) := rfl
def B7 := ai @e7 (ai (wu b7_1.eq_1) (ai (wu b7_2.eq_1) (ai (wu b7_3.eq_1) (ai (wu b7_4.eq_1) (ai (wu b7_5.eq_1) (wu b7_6.eq_1))))))
def isAZ (n : Int) : Bool := decide (97 ≤ n) && decide (n ≤ 122)
def is09 (n : Int) : Bool := decide (48 ≤ n) && decide (n ≤ 57)
def rbad (r : Int) : Bool := !isAZ r && (!is09 r && !decide (r = 95))
def okB (c : UInt8) : Bool := !rbad (c.toNat : Int)
def badI : List UInt8 → Nat → Option Nat
  | [], _ => none
  | c :: r, i => if okB c = true then badI r (i + 1) else some i
theorem badI_all : ∀ (l : List UInt8) (i : Nat), (badI l i = none ↔ l.all okB = true)
  | [], i => by simp [badI]
  | c :: r, i => by
    unfold badI
    cases h : okB c with
    | true => simp [h, badI_all r (i + 1)]
    | false => simp [h]
theorem t21 (Φ : Nat → Option CF) (h : Φ 21 = some c21) (r : Int) (ct : Nat) : To Φ 21 [.i .i32 r] ct (.b (rbad r)) := by
  refine to_walk h ?_
  unfold rbad isAZ is09
  have e1 : decide (r < 97) = !decide (97 ≤ r) := by by_cases h : 97 ≤ r <;> simp [h] <;> omega
  have e2 : decide (122 < r) = !decide (r ≤ 122) := by by_cases h : r ≤ 122 <;> simp [h] <;> omega
  have e1003 : decide (r < 48) = !decide (48 ≤ r) := by by_cases h : 48 ≤ r <;> simp [h] <;> omega
  have e8 : decide (57 < r) = !decide (r ≤ 57) := by by_cases h : r ≤ 57 <;> simp [h] <;> omega
  cases x1 : decide (97 ≤ r) <;> rw [x1] at e1 <;> cases x2 : decide (r ≤ 122) <;> rw [x2] at e2 <;> cases x3 : decide (48 ≤ r) <;> rw [x3] at e1003 <;> cases x4 : decide (r ≤ 57) <;> rw [x4] at e8 <;> simp only [WX, B21, e1, e2, e1003, e8] <;> first | rfl | simp
def h21 : List V → Option V
  | [.i .i32 r] => some (.b (rbad r))
  | _ => none
theorem h21_eq (r : Int) : h21 [.i .i32 r] = some (.b (rbad r)) := rfl
theorem r74 (Φ : Nat → Option CF) (h : Φ 74 = some c74) (h21 : Φ 21 = some (.orc (pureO h21))) {F : RO} {M : Mem} {c : Nat} (ok : Okm F M c) (l : List UInt8) (hl : l.length ≤ 1000000) :
    Calls Φ F 74 [sV l, .f 21 [] [], .b true] M c fun r _ _ => r = .i .i64 (idxZ (badI l 0)) := by
  refine calls_walk h ?_
  simp only [WX, B74, a_rgs_w, rgsA_s]
  obtain ⟨I1, hI1⟩ : ∃ I : Nat → St → Prop, ∀ n s', I n s' ↔ (∃ (i : Nat) (M1 : Mem) (u : List (Option V)), n = l.length - i ∧ i ≤ l.length ∧ s' = .mk ((.n (.n (uv7 u 15 7 23 3 19 11 27) (some (.f 21 [] [])) (uv7 u 17 9 25 5 21 13 29)) (some (sV l)) (.n (uv7 u 16 8 24 4 20 12 28) (some (.b true)) (.n (.n (uv1 u 18) (some (.p c 0)) (uv1 u 26)) (some (.i .i64 0)) (uv3 u 22 14 30))))) [] M1 (c + 1) ∧ M1.get c = some (siB l i) ∧ badI l 0 = badI (l.drop i) i) := ⟨fun n s' => _, fun _ _ => Iff.rfl⟩
  refine wp_while I1 ?_ l.length _ ((hI1 _ _).2 ⟨0, M.set c (siB l 0), [none, none, none, _, _, _, none, _, _, _, none, _, _, _, _, _, _, _, _, _, _, _, _, _, _, _, _, _, _, _, _], rfl, Nat.zero_le _, rfl, get_same _ _ _, by rw [List.drop_zero]⟩)
  intro n s' hIs
  obtain ⟨i, M1, u, rfl, hi, rfl, hg, hb⟩ := (hI1 _ _).1 hIs
  clear hIs
  by_cases hlt : i < l.length
  · have hd : l.drop i = l[i] :: l.drop (i + 1) := List.drop_eq_getElem_cons hlt
    by_cases hc : l[i].toNat < 128
    · have hn := nxs_lo (c + 1) hg hlt hc
      have hr : rbad (l[i].toNat : Int) = !okB l[i] := by unfold okB; rw [Bool.not_not]
      cases ho : okB l[i] with
      | true =>
        rw [ho] at hr
        simp only [WX, B74, x_nxs_w, hn, h21, h21_eq, hr]
        refine ⟨l.length - (i + 1), by omega, (hI1 _ _).2 ⟨i + 1, _, [none, none, none, _, _, _, none, _, _, _, none, _, _, _, _, _, _, _, _, _, _, _, _, _, _, _, _, _, _, _, _], rfl, by omega, rfl, get_same _ _ _, ?_⟩⟩
        rw [hb, hd, badI, if_pos ho]
      | false =>
        rw [ho] at hr
        simp only [WX, B74, x_nxs_w, hn, h21, h21_eq, hr]
        rw [hb, hd, badI, if_neg (by rw [ho]; decide)]; rfl
    · obtain ⟨r, p, h1, hn⟩ := nxs_hi (c + 1) hg hlt (by omega)
      have key : ∀ n : Int, 128 ≤ n → rbad n = true := fun n h => by
        unfold rbad isAZ is09
        rw [decide_eq_false (show ¬ n ≤ 122 by omega), decide_eq_false (show ¬ n ≤ 57 by omega), decide_eq_false (show ¬ n = 95 by omega)]; simp
      have hr : rbad (r : Int) = true := key _ (by omega)
      have ho : okB l[i] = false := by unfold okB; rw [key _ (by omega)]; rfl
      simp only [WX, B74, x_nxs_w, hn, h21, h21_eq, hr]
      rw [hb, hd, badI, if_neg (by rw [ho]; decide)]; rfl
  · obtain rfl : i = l.length := by omega
    have hn := nxs_end (c + 1) hg
    simp only [WX, B74, x_nxs_w, hn]
    rw [hb, List.drop_length]; rfl
noncomputable def h74 : List V → Option V
  | [v, .f 21 [] [], .b true] => (asS v).bind fun l => if l.length ≤ 1000000 then some (.i .i64 (idxZ (badI l 0))) else none
  | _ => none
theorem h74_eq (l : List UInt8) (hl : l.length ≤ 1000000) : h74 [sV l, .f 21 [] [], .b true] = some (.i .i64 (idxZ (badI l 0))) := by
  show (asS (sV l)).bind (fun l => if l.length ≤ 1000000 then some (V.i .i64 (idxZ (badI l 0))) else none) = _
  rw [asS_s, Option.bind_some]; exact if_pos hl
theorem t39 (Φ : Nat → Option CF) (h : Φ 39 = some c39) (h74 : Φ 74 = some (.orc (pureO h74))) (l : List UInt8) (hl : l.length ≤ 1000000) (ct : Nat) : To Φ 39 [sV l, .f 21 [] []] ct (.i .i64 (idxZ (badI l 0))) := by
  refine to_walk h ?_
  simp only [WX, B39, h74, h74_eq l hl]
noncomputable def h39 : List V → Option V
  | [v, .f 21 [] []] => (asS v).bind fun l => if l.length ≤ 1000000 then some (.i .i64 (idxZ (badI l 0))) else none
  | _ => none
theorem h39_eq (l : List UInt8) (hl : l.length ≤ 1000000) : h39 [sV l, .f 21 [] []] = some (.i .i64 (idxZ (badI l 0))) := by
  show (asS (sV l)).bind (fun l => if l.length ≤ 1000000 then some (V.i .i64 (idxZ (badI l 0))) else none) = _
  rw [asS_s, Option.bind_some]; exact if_pos hl
theorem bad_le (l : List UInt8) : decide ((0 : Int) ≤ idxZ (badI l 0)) = !l.all okB := by
  have hb := badI_all l 0
  cases hx : badI l 0 with
  | none => rw [hb.1 hx]; rfl
  | some k =>
    have : ¬ l.all okB = true := fun hh => by rw [hb.2 hh] at hx; cases hx
    rw [Bool.not_eq_true] at this
    rw [this]; exact decide_eq_true (by show (0 : Int) ≤ (k : Int); omega)
theorem t20 (Φ : Nat → Option CF) (h : Φ 20 = some c20) (h39 : Φ 39 = some (.orc (pureO h39))) (l : List UInt8) (hl : l.length ≤ 1000000) (ct : Nat) : To Φ 20 [sV l, .f 21 [] []] ct (.b (!l.all okB)) := by
  refine to_walk h ?_
  have hb := bad_le l
  simp only [WX, B20, h39, h39_eq l hl, hb]
noncomputable def h20 : List V → Option V
  | [v, .f 21 [] []] => (asS v).bind fun l => if l.length ≤ 1000000 then some (.b (!l.all okB)) else none
  | _ => none
theorem h20_eq (l : List UInt8) (hl : l.length ≤ 1000000) : h20 [sV l, .f 21 [] []] = some (.b (!l.all okB)) := by
  show (asS (sV l)).bind (fun l => if l.length ≤ 1000000 then some (V.b (!l.all okB)) else none) = _
  rw [asS_s, Option.bind_some]; exact if_pos hl
def isName (s : List UInt8) : Bool := (nameL.drop 1).contains s
theorem isName_iff (s : List UInt8) : isName s = true ↔ ∃ k, IsN s k := by
  unfold isName IsN
  rw [List.contains_iff_mem, List.mem_iff_getElem?]
  constructor
  · rintro ⟨i, h⟩
    rw [List.getElem?_drop] at h
    exact ⟨1 + i, by omega, h⟩
  · rintro ⟨k, h1, h2⟩
    exact ⟨k - 1, by rw [List.getElem?_drop, show 1 + (k - 1) = k by omega]; exact h2⟩
theorem found_name {s : List UInt8} {n : Int} {b : Bool} (h : FoundN s n b) : b = isName s := by
  rcases h with ⟨k, h1, _, rfl⟩ | ⟨h1, _, rfl⟩
  · exact ((isName_iff s).2 ⟨k, h1⟩).symm
  · cases hx : isName s with
    | false => rfl
    | true => obtain ⟨k, hk⟩ := (isName_iff s).1 hx; exact absurd hk (h1 k)
def azB (s : List UInt8) : Bool := match s with | [] => false | c :: _ => isAZ (c.toNat : Int)
def labelOk (s : List UInt8) : Bool := !isName s && (decide (1 ≤ s.length) && (decide (s.length ≤ 12) && (azB s && s.all okB)))
theorem r7 (Φ : Nat → Option CF) (h : Φ 7 = some c7) (h19 : Φ 19 = some c19) (h38 : Φ 38 = some (.orc (pureO h38))) (h73 : Φ 73 = some (.orc (pureO h73))) (h72 : Φ 72 = some c72) (h20 : Φ 20 = some (.orc (pureO h20))) {F : RO} {M : Mem} {c : Nat} (ok : Okm F M c) (s : List UInt8) (hs : s.length ≤ 1000000) :
    Calls Φ F 7 [sV s] M c fun r _ _ => r = .b (labelOk s) := by
  refine calls_walk h ?_
  simp only [WX, B7]
  refine putE_to ((r19 Φ h19 h38 h73 h72 s ok).mono ?_)
  rintro r M1 c1 ⟨⟨n, b, rfl, hf⟩, _⟩
  obtain rfl := found_name hf
  have e2 : decide ((s.length : Int) < 1) = !decide (1 ≤ s.length) := by by_cases h : 1 ≤ s.length <;> simp [h] <;> omega
  have e1003 : decide ((12 : Int) < (s.length : Int)) = !decide (s.length ≤ 12) := by by_cases h : s.length ≤ 12 <;> simp [h] <;> omega
  unfold labelOk
  cases x1 : isName s with
  | true => simp only [WX, B7, Bool.false_and]
  | false =>
    cases x2 : decide (1 ≤ s.length) with
    | false => rw [x2] at e2; simp only [WX, B7, e2, Bool.false_and]
    | true =>
      rw [x2] at e2
      cases x3 : decide (s.length ≤ 12) with
      | false => rw [x3] at e1003; simp only [WX, B7, e2, e1003, Bool.false_and]
      | true =>
        rw [x3] at e1003
        have hl : 0 < s.length := by have := of_decide_eq_true x2; omega
        have hix : ixSV (sV s) (.i .i64 0) = some (.i .u8 ((s[0]).toNat : Int)) := ixSs s .i64 0 hl
        have ez : azB s = isAZ ((s[0]).toNat : Int) := by cases s with | nil => cases hl | cons a r => rfl
        rw [ez]
        generalize s[0] = b0 at hix
        unfold isAZ
        have e8 : decide ((b0.toNat : Int) < 97) = !decide ((97 : Int) ≤ (b0.toNat : Int)) := by by_cases h : (97 : Int) ≤ (b0.toNat : Int) <;> simp [h] <;> omega
        have e9 : decide ((122 : Int) < (b0.toNat : Int)) = !decide ((b0.toNat : Int) ≤ 122) := by by_cases h : (b0.toNat : Int) ≤ 122 <;> simp [h] <;> omega
        cases x4 : decide ((97 : Int) ≤ (b0.toNat : Int)) with
        | false => rw [x4] at e8; simp only [WX, B7, e2, e1003, hix, e8, Bool.false_and]
        | true =>
          rw [x4] at e8
          cases x5 : decide ((b0.toNat : Int) ≤ 122) with
          | false => rw [x5] at e9; simp only [WX, B7, e2, e1003, hix, e8, e9, Bool.false_and]
          | true =>
            rw [x5] at e9
            have hh := h20_eq s hs
            simp only [WX, B7, e2, e1003, hix, e8, e9, h20, hh, Bool.not_not]
end Go.Proofs.YtaigcmdogapjgaaGreatDoor.Ev
set_option maxRecDepth 10000
set_option maxHeartbeats 4000000
namespace Go.Proofs.YtaigcmdogapjgaaGreatDoor.Ev
open Go
noncomputable def b77_1 : CC := (.reg [(qq a2 (.mv z0)), (qq a3 (.nck z2)), (qq a4 (.fa 0 z3)), (qq a5 (.ld1 z4)), (qq a6 (.eq false .ptr true z5 (.c .p0)))])
noncomputable def b77_2 : CC := (.reg [(qq a7 (.mv z0)), (qq a8 (.mv z0)), (qq a9 (.up z8)), (qq a10 (.mv z9)), (qq a11 (.dn 99 2 z10)), (qq a12 (.nck z7)), (qq a13 (.fa 0 z12)), (ez (.st 1 z13 z11))])
noncomputable def b77_3 : CC := (.reg [(qq a14 (.mv z0)), (qq a15 (.nck z14)), (qq a16 (.fa 0 z15)), (qq a17 (.ld1 z16)), (qq a18 (.mv z0)), (qq a19 (.eq true .ptr false z17 z18))])
noncomputable def b77_4 : CC := (.cond z6 b77_2 (.seq b77_3 (.cond z19 .bad .skip)))
noncomputable def c77 : CF := .mk 5 [] (.seq b77_1 b77_4)
noncomputable def b100_1 : CC := (.dreg 16 [(0, 0, (qq a5 (.mv z0))), (1, 1, (qq a6 (.nck z5))), (2, 3, (qq a7 (.fa 1 z6))), (3, 7, (qq a8 (.ld1 z7))), (4, 15, (qq a9 (.cp z8))), (5, 31, (qq a10 (.bi .mul (x6 2) z9))), (6, 0, (qq a11 (.mv z1))), (7, 127, (qq a12 (.bi .add z10 z11))), (8, 255, (aa a13 (.nz 5 z12))), (9, 0, (qq a14 (.mv z0))), (10, 512, (qq a15 (.nck z14))), (11, 1536, (qq a16 (.fa 1 z15))), (12, 3584, (qq a17 (.ld1 z16))), (13, 7680, (qq a18 (.ln .slice z17))), (14, 16383, (qq a19 (.slL 1 z13 none (some z18) none))), (15, 32767, (qq a4 (.mv z19)))])
noncomputable def b100_2 : CC := (.reg [(qq a20 (.mv z4)), (qq a21 (.mv z0)), (qq a22 (.nck z21)), (qq a23 (.fa 1 z22)), (qq a24 (.ld1 z23)), (ee a25 (.cpy 1 z20 z24))])
noncomputable def b100_3 : CC := (.reg [(qq a26 (.mv z0)), (qq a27 (.mv z4)), (qq a28 (.nck z26)), (qq a29 (.fa 1 z28)), (ez (.st 1 z29 z27))])
noncomputable def c100 : CF := .mk 5 [] (.seq b100_1 (.seq b100_2 b100_3))
noncomputable def b78_1 : CC := (.reg [(qq a4 (.mv z0)), (ee a5 (.call 77 [z4]))])
noncomputable def b78_2 : CC := (.reg [(qq a6 (.mv z1)), (qq a7 (.bi .lss z6 (x6 0)))])
noncomputable def b78_3 : CC := (.reg [(qq a8 (.mki 9 (.c (.s 36 226187813140227768008177986391742176399534891738691412630441701833056540972817830802547)))), ⟨none, .q (.bad), none⟩])
noncomputable def b78_4 : CC := (.dreg 13 [(0, 0, (qq a9 (.mv z0))), (1, 1, (qq a10 (.nck z9))), (2, 3, (qq a11 (.fa 1 z10))), (3, 7, (qq a12 (.ld1 z11))), (4, 15, (qq a13 (.cp z12))), (5, 0, (qq a14 (.mv z0))), (6, 32, (qq a15 (.nck z14))), (7, 96, (qq a16 (.fa 1 z15))), (8, 224, (qq a17 (.ld1 z16))), (9, 480, (qq a18 (.ln .slice z17))), (10, 1023, (qq a19 (.bi .sub z13 z18))), (11, 0, (qq a20 (.mv z1))), (12, 4095, (qq a21 (.bi .lss z19 z20)))])
noncomputable def b78_5 : CC := (.reg [(qq a22 (.mv z0)), (qq a23 (.mv z1)), (ee a24 (.call 100 [z22, z23]))])
noncomputable def b78_6 : CC := (.seq b78_4 (.cond z21 b78_5 .skip))
noncomputable def b78_7 : CC := (.seq (.seq b78_2 (.cond z7 b78_3 .skip)) b78_6)
noncomputable def c78 : CF := .mk 5 [] (.seq b78_1 b78_7)
noncomputable def b42_1 : CC := (.reg [(qq a4 (.mv (x6 0))), (qq a5 (.mv (.c .a0)))])
noncomputable def b42_2 : CC := (.reg [(qq a6 (.mv z0)), (ee a7 (.call 77 [z6]))])
noncomputable def b42_3 : CC := (.reg [(qq a8 (.mv z0)), (qq a9 (.mv z0)), (qq a10 (.nck z9)), (qq a11 (.fa 1 z10)), (qq a12 (.ld1 z11)), (qq a13 (.mv z1)), (ee a14 (.app 5 1 1 z12 z13)), (qq a15 (.nck z8)), (qq a16 (.fa 1 z15)), (ez (.st 1 z16 z14))])
noncomputable def b42_4 : CC := (.reg [(qq a17 (.mv z1)), (qq a18 (.ln .str z17)), (qq a4 (.mv z18)), (qq a5 (.mv (.c .a0)))])
noncomputable def c42 : CF := .mk 5 [.t a4, .t a5] (.seq b42_1 (.seq b42_2 (.seq b42_3 (.seq b42_4 .ret))))
noncomputable def b48_1 : CC := (.dreg 12 [(0, 0, (qq a3 (.mv z0))), (1, 1, (qq a4 (.nck z3))), (2, 3, (qq a5 (.fa 1 z4))), (3, 7, (qq a6 (.ld1 z5))), (4, 15, (qq a7 (.sd z6))), (5, 0, (qq a8 (.mv z0))), (6, 32, (qq a9 (.nck z8))), (7, 96, (qq a10 (.fa 1 z9))), (8, 224, (qq a11 (.ld1 z10))), (9, 480, (qq a12 (.ln .slice z11))), (10, 1023, (ee a13 (.us 5 z7 z12))), (11, 2047, (qq a2 (.mv z13)))])
noncomputable def b48_2 : CC := (.seq (.reg [(qq a2 (.mv (.c (.s 0 0))))]) (.seq b48_1 .ret))
noncomputable def c48 : CF := .mk 4 [.t a2] b48_2
def BldAt (M : Mem) (c0 c b bb : Nat) (l : List UInt8) : Prop :=
  c0 ≤ b ∧ b < c ∧ b ≠ bb ∧ ∃ a v, M.get b = some (rowB 99 [a, v]) ∧ (a = .p0 ∨ a = .p b 0) ∧ BufAt M c0 c bb v l
theorem BldAt.up {M M' : Mem} {c0 c c' b bb : Nat} {l : List UInt8} (h : BldAt M c0 c b bb l) (hc : c ≤ c') (hb : ∀ x, x < c → M'.get x = M.get x) : BldAt M' c0 c' b bb l := by
  obtain ⟨h1, h2, h1003, a, v, h1004, h1005, h1006⟩ := h
  exact ⟨h1, by omega, h1003, a, v, by rw [hb b h2]; exact h1004, h1005, h1006.up hc (hb bb)⟩
end Go.Proofs.YtaigcmdogapjgaaGreatDoor.Ev
set_option maxRecDepth 10000
set_option maxHeartbeats 4000000
namespace Go.Proofs.YtaigcmdogapjgaaGreatDoor.Ev
open Go
noncomputable def b43_1 : CC := (.reg [(qq a4 (.mv (.c (.s 0 0))))])
noncomputable def b43_2 : CC := (.reg [(qq a11 (.mv z0)), (qq a12 (.ln .slice z11))])
noncomputable def b43_3 : CC := (.reg [(qq a14 (.bi .eql z12 (x6 0))), (qq a13 (.mv z14))])
noncomputable def b43_4 : CC := (.reg [(qq a4 (.mv (.c (.s 0 0))))])
noncomputable def b43_5 : CC := (.reg [(qq a16 (.bi .eql z12 (x6 1))), (qq a15 (.mv z16))])
noncomputable def b43_6 : CC := (.reg [(qq a17 (.mv z0)), (qq a18 (.iaS 1 z17 (x6 0))), (qq a19 (.ld1 z18)), (qq a4 (.mv z19))])
noncomputable def b43_7 : CC := (.seq b43_5 (.cond z15 (.seq b43_6 .ret) .skip))
noncomputable def b43_8 : CC := (.seq b43_3 (.cond z13 (.seq b43_4 .ret) b43_7))
noncomputable def b43_9 : CC := (.reg [(qq a5 (.mv (x6 0)))])
noncomputable def b43_10 : CC := (.reg [(qq a20 (.mv z1)), (qq a21 (.ln .str z20)), (qq a22 (.bi .gtr z21 (x6 0)))])
noncomputable def b43_11 : CC := (.reg [(qq a23 (.mv z1)), (qq a24 (.ln .str z23)), (qq a25 (.mv z0)), (qq a26 (.ln .slice z25)), (qq a27 (.bi .sub z26 (x6 1))), (qq a28 (.bi .quo (x6 9223372036854775807) z27)), (qq a29 (.bi .geq z24 z28))])
noncomputable def b43_12 : CC := (.reg [(qq a30 (.mki 9 (.c (.s 36 232023140547069528372253906381035003553488466437483087989658184371904395368843875349619)))), ⟨none, .q (.bad), none⟩])
noncomputable def b43_13 : CC := (.seq b43_11 (.cond z29 b43_12 .skip))
noncomputable def b43_14 : CC := (.reg [(qq a31 (.mv z5)), (qq a32 (.mv z1)), (qq a33 (.ln .str z32)), (qq a34 (.mv z0)), (qq a35 (.ln .slice z34)), (qq a36 (.bi .sub z35 (x6 1))), (qq a37 (.bi .mul z33 z36)), (qq a38 (.bi .add z31 z37)), (qq a5 (.mv z38))])
noncomputable def b43_15 : CC := (.cond z22 (.seq b43_13 b43_14) .skip)
noncomputable def b43_16 : CC := (.reg [(qq a39 (.mv z0)), (qq a40 (.ln .slice z39)), (qq a41 (.mv (x6 0)))])
noncomputable def b43_17 : CC := (.reg [(qq a42 (.bi .lss z41 z40))])
noncomputable def b43_18 : CC := (.reg [(qq a43 (.iaS 1 z39 z41)), (qq a44 (.ld1 z43)), (qq a7 (.mv z44))])
noncomputable def b43_19 : CC := (.reg [(qq a45 (.mv z7)), (qq a46 (.ln .str z45)), (qq a47 (.mv z5)), (qq a48 (.bi .sub (x6 9223372036854775807) z47)), (qq a49 (.bi .gtr z46 z48))])
noncomputable def b43_20 : CC := (.reg [(qq a50 (.mki 9 (.c (.s 36 232023140547069528372253906381035003553488466437483087989658184371904395368843875349619)))), ⟨none, .q (.bad), none⟩])
noncomputable def b43_21 : CC := (.seq b43_19 (.cond z49 b43_20 .skip))
noncomputable def b43_22 : CC := (.reg [(qq a51 (.mv z5)), (qq a52 (.mv z7)), (qq a53 (.ln .str z52)), (qq a54 (.bi .add z51 z53)), (qq a5 (.mv z54))])
noncomputable def b43_23 : CC := (.reg [(qq a55 (.bi .add z41 (x6 1))), (qq a41 (.mv z55))])
noncomputable def b43_24 : CC := (.seq (.cond z42 .skip (.exit 1)) (.seq (.block 2 (.seq b43_18 (.seq b43_21 b43_22))) b43_23))
noncomputable def b43_25 : CC := (.reg [(aa a8 (.al 99 [.p0, .l0]))])
noncomputable def b43_26 : CC := (.reg [(qq a56 (.mv z5)), (ee a57 (.call 78 [z8, z56]))])
noncomputable def b43_27 : CC := (.reg [(qq a58 (.mv z0)), (qq a59 (.iaS 1 z58 (x6 0))), (qq a60 (.ld1 z59)), (ee a61 (.call 42 [z8, z60]))])
noncomputable def b43_28 : CC := (.reg [(qq a62 (.mv z0)), (qq a63 (.slL 1 z62 (some (x6 1)) none none)), (qq a64 (.ln .slice z63)), (qq a65 (.mv (x6 0)))])
noncomputable def b43_29 : CC := (.reg [(qq a66 (.bi .lss z65 z64))])
noncomputable def b43_30 : CC := (.cond z66 .skip (.exit 3))
noncomputable def b43_31 : CC := (.reg [(qq a67 (.iaS 1 z63 z65)), (qq a68 (.ld1 z67)), (qq a10 (.mv z68))])
noncomputable def b43_32 : CC := (.reg [(qq a69 (.mv z1)), (ee a70 (.call 42 [z8, z69]))])
noncomputable def b43_33 : CC := (.reg [(qq a71 (.mv z10)), (ee a72 (.call 42 [z8, z71]))])
noncomputable def b43_34 : CC := (.reg [(qq a73 (.bi .add z65 (x6 1))), (qq a65 (.mv z73))])
noncomputable def b43_35 : CC := (.seq b43_30 (.seq (.block 4 (.seq b43_31 (.seq b43_32 b43_33))) b43_34))
noncomputable def b43_36 : CC := (.reg [(ee a74 (.call 48 [z8])), (qq a4 (.mv z74))])
noncomputable def b43_37 : CC := (.seq (.seq b43_28 (.block 3 (.loop (.seq b43_29 b43_35)))) (.seq b43_36 .ret))
noncomputable def b43_38 : CC := (.seq (.seq b43_16 (.block 1 (.loop (.seq b43_17 b43_24)))) (.seq b43_25 (.seq b43_26 (.seq b43_27 b43_37))))
noncomputable def b43_39 : CC := (.seq (.seq b43_2 (.block 0 b43_8)) (.seq b43_9 (.seq (.seq b43_10 b43_15) b43_38)))
noncomputable def c43 : CF := .mk 7 [.t a4] (.seq b43_1 b43_39)
theorem i64_sub (a b : Int) (h1 : -9223372036854775808 ≤ a - b) (h2 : a - b < 9223372036854775808) : biV .sub (.i .i64 a) (.i .i64 b) = some (.i .i64 (a - b)) := by
  rw [bi_sub, wrap_i64 h1 h2]
end Go.Proofs.YtaigcmdogapjgaaGreatDoor.Ev
set_option maxRecDepth 10000
set_option maxHeartbeats 4000000
namespace Go.Proofs.YtaigcmdogapjgaaGreatDoor.Ev
open Go
def lnsA : List UInt8 → List UInt8 → List (List UInt8)
  | [], _ => []
  | x :: r, a => if x = 10 then a :: lnsA r [] else lnsA r (a ++ [x])
def lns (l : List UInt8) : List (List UInt8) := lnsA l []
theorem lns_none : ∀ (l a : List UInt8) (i : Nat), fnd 10 l i = none → lnsA l a = []
  | [], _, _, _ => rfl
  | x :: r, a, i, h => by
    unfold fnd at h
    split at h
    · cases h
    · rename_i hx
      unfold lnsA
      rw [if_neg hx]
      exact lns_none r _ (i + 1) h
theorem lns_some : ∀ (l a : List UInt8) (i k : Nat), fnd 10 l i = some k → lnsA l a = (a ++ l.take (k - i)) :: lns (l.drop (k - i + 1))
  | [], _, _, _, h => by cases h
  | x :: r, a, i, k, h => by
    have hl := (fnd_lt h).1
    unfold fnd at h
    split at h
    · rename_i hx
      obtain rfl := Option.some.inj h
      unfold lnsA
      rw [if_pos hx, Nat.sub_self, List.take_zero, List.append_nil]; rfl
    · rename_i hx
      have h1 := (fnd_lt h).1
      unfold lnsA
      rw [if_neg hx, lns_some r _ (i + 1) k h, show k - i = k - (i + 1) + 1 by omega]
      simp
theorem lns_len : ∀ (l a : List UInt8), (lnsA l a).length ≤ l.length
  | [], _ => Nat.le_refl _
  | x :: r, a => by
    unfold lnsA
    split
    · have := lns_len r []; rw [List.length_cons, List.length_cons]; omega
    · have := lns_len r (a ++ [x]); rw [List.length_cons]; omega
noncomputable def b9_1 : CC := (.reg [(aa a1 (.bx 9 1 z0)), (qq a2 (.mv (.c .f0)))])
noncomputable def b9_2 : CC := (.reg [(qq a3 (.mkf 25 [] [z1])), (qq a2 (.mv z3))])
noncomputable def c9 : CF := .mk 3 [.t a2] (.seq b9_1 (.seq b9_2 .ret))
theorem e9 (v0 : V) : argTr 3 [v0] = (.n sk2 (some v0) sk2) := rfl
def B9 := ai @e9 (ai (wu b9_1.eq_1) (wu b9_2.eq_1))
noncomputable def b25_1 : CC := (.reg [(qq a8 (.ld1 z1)), (qq a3 (.mv z8))])
noncomputable def b25_2 : CC := (.reg [(qq a4 (.mv (x6 0)))])
noncomputable def b25_3 : CC := (.reg [(qq a12 (.mv z3)), (ee a13 (.call 26 [z12, (.c (.s 1 10))])), (qq a11 (.mv z13)), (qq a14 (.ex 0 z11)), (qq a15 (.ex 1 z11)), (qq a16 (.ex 2 z11)), (qq a5 (.mv z14)), (qq a6 (.mv z15)), (qq a7 (.mv z16))])
noncomputable def b25_4 : CC := (.reg [(qq a17 (.mv z7)), (qq a18 (.un .not z17)), (qq a19 (.mv z18)), ⟨(some a20), .q (.mv z0), (some (a19, false))⟩, ⟨(some a21), .q (.mv z4), (some (a19, false))⟩, ⟨(some a22), .q (.mv z5), (some (a19, false))⟩, ⟨(some a23), .e (.cv z20 [z21, z22]), (some (a19, false))⟩, ⟨(some a24), .q (.un .not z23), (some (a19, false))⟩, (qq a25 (.pk z19 xT z24))])
noncomputable def b25_5 : CC := (.reg [(qq a26 (.mv z6)), (qq a3 (.mv z26))])
noncomputable def b25_6 : CC := (.seq (.seq b25_4 (.cond z25 .ret .skip)) b25_5)
noncomputable def b25_7 : CC := (.reg [(qq a9 (.mv z4)), (qq a10 (.bi .add z9 (x6 1))), (qq a4 (.mv z10))])
noncomputable def b25_8 : CC := (.block 0 (.loop (.seq (.block 1 (.seq b25_3 b25_6)) b25_7)))
noncomputable def c25 : CF := .mk 5 [] (.seq b25_1 (.seq b25_2 b25_8))
theorem e25 (v0 v1 : V) : argTr 5 [v0, v1] = (.n (.n sk3 (some v1) sk3) (some v0) sk4) := rfl
def B25 := ai @e25 (ai (wu b25_1.eq_1) (ai (wu b25_2.eq_1) (ai (wu b25_3.eq_1) (ai (wu b25_4.eq_1) (ai (wu b25_5.eq_1) (ai (wu b25_6.eq_1) (ai (wu b25_7.eq_1) (wu b25_8.eq_1))))))))
noncomputable def b6_1 : CC := (.reg [(qq a3 (.mv z0)), (qq a2 (.mv z3))])
noncomputable def b6_2 : CC := (.seq (.reg [(qq a2 (.mv (x6 0)))]) (.seq b6_1 .ret))
noncomputable def c6 : CF := .mk 3 [.t a2] b6_2
theorem e6 (v0 : V) : argTr 3 [v0] = (.n sk2 (some v0) sk2) := rfl
def B6 := ai @e6 (ai (wu b6_1.eq_1) (wu b6_2.eq_1))
theorem t6 (Φ : Nat → Option CF) (h : Φ 6 = some c6) (n : Int) (ct : Nat) : To Φ 6 [.i .i64 n] ct (.i .i64 n) := by
  refine to_walk h ?_
  simp only [WX, B6]
def h6 : List V → Option V
  | [.i .i64 n] => some (.i .i64 n)
  | _ => none
theorem h6_eq (n : Int) : h6 [.i .i64 n] = some (.i .i64 n) := rfl
theorem r9 (Φ : Nat → Option CF) (h : Φ 9 = some c9) {F : RO} {M : Mem} {c : Nat} (ok : Okm F M c) (l : List UInt8) :
    Calls Φ F 9 [sV l] M c fun r M' c' => ∃ pb, r = .f 25 [] [.p pb 0] ∧ c ≤ pb ∧ pb < c' ∧ M'.get pb = some (rowB 9 [sV l]) ∧ Gr c M c' M' := by
  refine calls_walk h ?_
  have hg := fun x => (Gr.refl ok).set c x (Nat.le_refl _) (Nat.lt_succ_self _) (Nat.le_succ _)
  have fS : flatten (sV l) = [sV l] := rfl
  have aS : allOne [sV l] = true := rfl
  simp only [WX, B9, fS, aS]
  exact ⟨_, rfl, Nat.le_refl _, Nat.lt_succ_self _, get_same _ _ _, hg _⟩
end Go.Proofs.YtaigcmdogapjgaaGreatDoor.Ev
set_option maxRecDepth 10000
set_option maxHeartbeats 4000000
namespace Go.Proofs.YtaigcmdogapjgaaGreatDoor.Ev
open Go
noncomputable def b10_1 : CC := (.reg [(aa a2 (.al 48 [(.b false), (.b false), (.b false), (.b false), (.i .i64 0), (.i .i64 0), (.i .i64 0), (.i .i64 0), (.i .i64 0), (.s 0 0), (.s 0 0), .l0]))])
def w10_1 := wu b10_1.eq_1
noncomputable def b10_2 : CC := (.reg [(qq a14 (.mv z0)), (qq a15 (.bi .eql z14 (.c (.s 0 0)))), (qq a16 (.mv z15)), ⟨(some a17), .q (.mv z0), (some (a16, false))⟩, ⟨(some a18), .q (.ixS z17 (x6 0)), (some (a16, false))⟩, ⟨(some a19), .q (.bi .eql z18 (.c (.i .u8 35))), (some (a16, false))⟩, (qq a20 (.pk z16 xT z19))])
def w10_2 := wu b10_2.eq_1
noncomputable def b10_3 : CC := (.reg [(qq a21 (.bld [(.b false), (.b false), (.b false), (.b false), (.i .i64 0), (.i .i64 0), (.i .i64 0), (.i .i64 0), (.i .i64 0), (.s 0 0), (.s 0 0), .l0] [])), (ez (.st 12 z2 z21))])
def w10_3 := wu b10_3.eq_1
noncomputable def b10_4 : CC := (.seq b10_2 (.cond z20 (.seq b10_3 .ret) .skip))
def w10_4 := wu b10_4.eq_1
noncomputable def b10_5 : CC := (.reg [(qq a23 (.mv z0)), (ee a24 (.call 27 [z23, (.c (.s 1 58))])), (qq a22 (.mv z24)), (qq a25 (.ex 0 z22)), (qq a26 (.ex 1 z22)), (qq a3 (.mv z25)), (qq a4 (.mv z26))])
def w10_5 := wu b10_5.eq_1
noncomputable def b10_6 : CC := (.reg [(qq a27 (.mv z4)), (qq a28 (.mv z27)), ⟨(some a29), .q (.mv z3), (some (a28, true))⟩, ⟨(some a30), .e (.call 7 [z29]), (some (a28, true))⟩, (qq a31 (.pk z28 z30 xF))])
def w10_6 := wu b10_6.eq_1
noncomputable def b10_7 : CC := (.reg [(qq a32 (.mv z3)), (qq a33 (.bld [(.b false), (.b false), (.b false), (.b false), (.i .i64 0), (.i .i64 0), (.i .i64 0), (.i .i64 0), (.i .i64 0), (.s 0 0), (.s 0 0), .l0] [(9, 1, z32)])), (ez (.st 12 z2 z33))])
def w10_7 := wu b10_7.eq_1
noncomputable def b10_8 : CC := (.cond z31 (.seq b10_7 .ret) .skip)
def w10_8 := wu b10_8.eq_1
noncomputable def b10_9 : CC := (.reg [(qq a35 (.mv z0)), (ee a36 (.call 28 [z35])), (qq a34 (.mv z36)), (qq a37 (.ex 0 z34)), (qq a38 (.ex 1 z34)), (aa a5 (.al 46 [(.i .i64 0), (.i .i64 0), (.i .i64 0), (.i .i64 0), (.i .i64 0)])), (ez (.st 5 z5 z37)), (qq a6 (.mv z38))])
def w10_9 := wu b10_9.eq_1
noncomputable def b10_10 : CC := (.reg [(qq a39 (.mv z6)), (qq a40 (.bi .eql z39 (x6 0)))])
def w10_10 := wu b10_10.eq_1
noncomputable def b10_11 : CC := (.reg [(qq a41 (.ldn 5 z5)), (qq a42 (.bld [(.b false), (.b false), (.b false), (.b false), (.i .i64 0), (.i .i64 0), (.i .i64 0), (.i .i64 0), (.i .i64 0), (.s 0 0), (.s 0 0), .l0] [(2, 1, xT), (4, 5, z41)])), (ez (.st 12 z2 z42))])
def w10_11 := wu b10_11.eq_1
noncomputable def b10_12 : CC := (.cond z40 (.seq b10_11 .ret) .skip)
def w10_12 := wu b10_12.eq_1
noncomputable def b10_13 : CC := (.reg [(qq a43 (.mv z0)), (qq a44 (.bi .eql z43 (.c (.s 5 474148660526))))])
def w10_13 := wu b10_13.eq_1
noncomputable def b10_14 : CC := (.reg [(qq a45 (.bld [(.b false), (.b false), (.b false), (.b false), (.i .i64 0), (.i .i64 0), (.i .i64 0), (.i .i64 0), (.i .i64 0), (.s 0 0), (.s 0 0), .l0] [(1, 1, xT)])), (ez (.st 12 z2 z45))])
def w10_14 := wu b10_14.eq_1
noncomputable def b10_15 : CC := (.cond z44 (.seq b10_14 .ret) .skip)
def w10_15 := wu b10_15.eq_1
noncomputable def b10_16 : CC := (.reg [(qq a46 (.mv z0)), (ee a47 (.call 29 [z46, (.c (.i .u8 32))])), (qq a7 (.mv z47))])
def w10_16 := wu b10_16.eq_1
noncomputable def b10_17 : CC := (.reg [(qq a48 (.mv z7)), (qq a49 (.bi .lss z48 (x6 0)))])
def w10_17 := wu b10_17.eq_1
noncomputable def b10_18 : CC := (.reg [(qq a50 (.bld [(.b false), (.b false), (.b false), (.b false), (.i .i64 0), (.i .i64 0), (.i .i64 0), (.i .i64 0), (.i .i64 0), (.s 0 0), (.s 0 0), .l0] [(0, 1, xT)])), (ez (.st 12 z2 z50))])
def w10_18 := wu b10_18.eq_1
noncomputable def b10_19 : CC := (.cond z49 (.seq b10_18 .ret) .skip)
def w10_19 := wu b10_19.eq_1
noncomputable def b10_20 : CC := (.dreg 9 [(0, 0, (qq a51 (.mv z0))), (1, 0, (qq a52 (.mv z7))), (2, 3, (qq a53 (.slS z51 none (some z52)))), (3, 0, (qq a54 (.mv z0))), (4, 0, (qq a55 (.mv z7))), (5, 16, (qq a56 (.bi .add z55 (x6 1)))), (6, 56, (qq a57 (.slS z54 (some z56) none))), (7, 7, (qq a8 (.mv z53))), (8, 255, (qq a9 (.mv z57)))])
def w10_20 := wu b10_20.eq_1
noncomputable def b10_21 : CC := (.reg [(qq a58 (.mv z8))])
def w10_21 := wu b10_21.eq_1
noncomputable def b10_22 : CC := (.reg [(qq a60 (.bi .eql z58 (.c (.s 5 431416637230)))), (qq a59 (.mv z60))])
def w10_22 := wu b10_22.eq_1
noncomputable def b10_23 : CC := (.reg [(qq a61 (.bi .eql z58 (.c (.s 5 435745808942)))), (qq a59 (.mv z61))])
def w10_23 := wu b10_23.eq_1
noncomputable def b10_24 : CC := (.reg [(qq a62 (.bi .eql z58 (.c (.s 6 111477510927150)))), (qq a59 (.mv z62))])
def w10_24 := wu b10_24.eq_1
noncomputable def b10_25 : CC := (.reg [(qq a63 (.bi .eql z58 (.c (.s 5 500236121134)))), (qq a59 (.mv z63))])
def w10_25 := wu b10_25.eq_1
noncomputable def b10_26 : CC := (.seq b10_24 (.cond z59 .skip b10_25))
def w10_26 := wu b10_26.eq_1
noncomputable def b10_27 : CC := (.seq b10_23 (.cond z59 .skip b10_26))
def w10_27 := wu b10_27.eq_1
noncomputable def b10_28 : CC := (.seq b10_22 (.cond z59 .skip b10_27))
def w10_28 := wu b10_28.eq_1
noncomputable def b10_29 : CC := (.reg [(qq a64 (.mv z8)), (qq a65 (.mv z9)), (ee a66 (.call 30 [z64, z65])), (ez (.st 12 z2 z66))])
def w10_29 := wu b10_29.eq_1
noncomputable def b10_30 : CC := (.cond z59 (.seq b10_29 .ret) .skip)
def w10_30 := wu b10_30.eq_1
noncomputable def b10_31 : CC := (.reg [(qq a68 (.mv z8)), (qq a69 (.bi .add z68 (.c (.s 2 12320)))), (ee a70 (.call 28 [z69])), (qq a67 (.mv z70)), (qq a71 (.ex 0 z67)), (qq a72 (.ex 1 z67)), (aa a10 (.al 46 [(.i .i64 0), (.i .i64 0), (.i .i64 0), (.i .i64 0), (.i .i64 0)])), (ez (.st 5 z10 z71)), (qq a11 (.mv z72))])
def w10_31 := wu b10_31.eq_1
noncomputable def b10_32 : CC := (.reg [(qq a74 (.ldn 5 z10)), (ee a75 (.call 31 [z74, (.c (.i .u32 0))])), (qq a73 (.mv z75)), (qq a76 (.ex 0 z73)), (qq a77 (.ex 1 z73)), (qq a12 (.mv z76)), (qq a13 (.mv z77))])
def w10_32 := wu b10_32.eq_1
noncomputable def b10_33 : CC := (.reg [(qq a78 (.mv z11)), (qq a79 (.bi .neq z78 (x6 0))), (qq a80 (.mv z79)), ⟨(some a81), .q (.mv z13), (some (a80, false))⟩, ⟨(some a82), .q (.un .not z81), (some (a80, false))⟩, ⟨(some a83), .q (.mv z82), (some (a80, false))⟩, ⟨(some a84), .q (.fa 0 z10), (some (a83, true))⟩, ⟨(some a85), .q (.ld1 z84), (some (a83, true))⟩, ⟨(some a86), .q (.bi .neq z85 (x6 5)), (some (a83, true))⟩, ⟨(some a87), .q (.pk z83 z86 xF), (some (a80, false))⟩, (qq a88 (.pk z80 xT z87)), (qq a89 (.mv z88)), ⟨(some a90), .q (.mv z9), (some (a89, false))⟩, ⟨(some a91), .e (.call 7 [z90]), (some (a89, false))⟩, ⟨(some a92), .q (.un .not z91), (some (a89, false))⟩, (qq a93 (.pk z89 xT z92))])
def w10_33 := wu b10_33.eq_1
noncomputable def b10_34 : CC := (.reg [(qq a94 (.bld [(.b false), (.b false), (.b false), (.b false), (.i .i64 0), (.i .i64 0), (.i .i64 0), (.i .i64 0), (.i .i64 0), (.s 0 0), (.s 0 0), .l0] [(0, 1, xT)])), (ez (.st 12 z2 z94))])
def w10_34 := wu b10_34.eq_1
noncomputable def b10_35 : CC := (.cond z93 (.seq b10_34 .ret) .skip)
def w10_35 := wu b10_35.eq_1
noncomputable def b10_36 : CC := (.reg [(qq a95 (.ldn 5 z10)), (qq a96 (.mv z9)), (qq a97 (.bld [(.b false), (.b false), (.b false), (.b false), (.i .i64 0), (.i .i64 0), (.i .i64 0), (.i .i64 0), (.i .i64 0), (.s 0 0), (.s 0 0), .l0] [(2, 1, xT), (4, 5, z95), (10, 1, z96)])), (ez (.st 12 z2 z97))])
def w10_36 := wu b10_36.eq_1
noncomputable def b10_37 : CC := (.seq (.seq b10_32 (.seq b10_33 b10_35)) (.seq b10_36 .ret))
def w10_37 := wu b10_37.eq_1
noncomputable def b10_38 : CC := (.seq (.seq b10_21 (.block 0 (.seq b10_28 b10_30))) (.seq b10_31 b10_37))
def w10_38 := wu b10_38.eq_1
noncomputable def b10_39 : CC := (.seq b10_16 (.seq (.seq b10_17 b10_19) (.seq b10_20 b10_38)))
def w10_39 := wu b10_39.eq_1
noncomputable def b10_40 : CC := (.seq (.seq b10_9 (.seq b10_10 b10_12)) (.seq (.seq b10_13 b10_15) b10_39))
def w10_40 := wu b10_40.eq_1
noncomputable def b10_41 : CC := (.seq b10_1 (.seq b10_4 (.seq (.seq b10_5 (.seq b10_6 b10_8)) b10_40)))
def w10_41 := wu b10_41.eq_1
noncomputable def c10 : CF := .mk 7 [.cn a2 12] b10_41
theorem e10 (v0 : V) : argTr 7 [v0] = (.n sk6 (some v0) sk6) := rfl
def B10 := ai @e10 (ai @w10_1 (ai @w10_2 (ai @w10_3 (ai @w10_4 (ai @w10_5 (ai @w10_6 (ai @w10_7 (ai @w10_8 (ai @w10_9 (ai @w10_10 (ai @w10_11 (ai @w10_12 (ai @w10_13 (ai @w10_14 (ai @w10_15 (ai @w10_16 (ai @w10_17 (ai @w10_18 (ai @w10_19 (ai @w10_20 (ai @w10_21 (ai @w10_22 (ai @w10_23 (ai @w10_24 (ai @w10_25 (ai @w10_26 (ai @w10_27 (ai @w10_28 (ai @w10_29 (ai @w10_30 (ai @w10_31 (ai @w10_32 (ai @w10_33 (ai @w10_34 (ai @w10_35 (ai @w10_36 (ai @w10_37 (ai @w10_38 (ai @w10_39 (ai @w10_40 (@w10_41)))))))))))))))))))))))))))))))))))))))))
noncomputable def b11_1 : CC := (.reg [(aa a2 (.bx 48 12 z0)), (qq a4 (.mv (x6 0)))])
noncomputable def b11_2 : CC := (.reg [(qq a6 (.fa 2 z2)), (qq a7 (.ld1 z6)), (qq a8 (.mv z7)), ⟨(some a9), .q (.fa 3 z2), (some (a8, false))⟩, ⟨(some a10), .q (.ld1 z9), (some (a8, false))⟩, (qq a11 (.pk z8 xT z10)), (qq a5 (.mv z11))])
noncomputable def b11_3 : CC := (.reg [(qq a4 (.mv (x6 4)))])
noncomputable def b11_4 : CC := (.reg [(qq a13 (.fa 1 z2)), (qq a14 (.ld1 z13)), (qq a12 (.mv z14))])
noncomputable def b11_5 : CC := (.reg [(qq a15 (.mv z1)), (qq a16 (.un .neg z15)), (qq a17 (.bi .and z16 (x6 3))), (qq a4 (.mv z17))])
noncomputable def b11_6 : CC := (.seq b11_4 (.cond z12 (.seq b11_5 .ret) .skip))
noncomputable def b11_7 : CC := (.seq b11_2 (.cond z5 (.seq b11_3 .ret) b11_6))
noncomputable def b11_8 : CC := (.reg [(qq a18 (.fa 11 z2)), (qq a19 (.ld1 z18)), (qq a20 (.ln .slice z19)), (qq a4 (.mv z20))])
noncomputable def c11 : CF := .mk 5 [.t a4] (.seq b11_1 (.seq (.block 0 b11_7) (.seq b11_8 .ret)))
theorem e11 (v0 v1 : V) : argTr 5 [v0, v1] = (.n (.n sk3 (some v1) sk3) (some v0) sk4) := rfl
def B11 := ai @e11 (ai (wu b11_1.eq_1) (ai (wu b11_2.eq_1) (ai (wu b11_3.eq_1) (ai (wu b11_4.eq_1) (ai (wu b11_5.eq_1) (ai (wu b11_6.eq_1) (ai (wu b11_7.eq_1) (wu b11_8.eq_1))))))))
noncomputable def b27_1 : CC := (.reg [(qq a4 (.mv (.c (.s 0 0)))), (qq a5 (.mv xF))])
noncomputable def b27_2 : CC := (.reg [(qq a6 (.mv z0)), (qq a7 (.mv z1)), (ee a8 (.call 50 [z6, z7])), (qq a9 (.ex 0 z8)), (qq a10 (.ex 1 z8)), (qq a4 (.mv z9)), (qq a5 (.mv z10))])
noncomputable def c27 : CF := .mk 4 [.t a4, .t a5] (.seq b27_1 (.seq b27_2 .ret))
theorem e27 (v0 v1 : V) : argTr 4 [v0, v1] = (.n (.n sk2 (some v1) sk2) (some v0) sk3) := rfl
def B27 := ai @e27 (ai (wu b27_1.eq_1) (wu b27_2.eq_1))
noncomputable def b50_1 : CC := (.reg [(qq a4 (.mv (.c (.s 0 0)))), (qq a5 (.mv xF))])
noncomputable def b50_2 : CC := (.reg [(qq a6 (.mv z0)), (qq a7 (.mv z1)), (ee a8 (.call 34 [z6, z7])), (qq a9 (.un .not z8))])
noncomputable def b50_3 : CC := (.reg [(qq a10 (.mv z0)), (qq a4 (.mv z10)), (qq a5 (.mv xF))])
noncomputable def b50_4 : CC := (.seq b50_2 (.cond z9 (.seq b50_3 .ret) .skip))
noncomputable def b50_5 : CC := (.reg [(qq a11 (.mv z0)), (qq a12 (.mv z0)), (qq a13 (.ln .str z12)), (qq a14 (.mv z1)), (qq a15 (.ln .str z14)), (qq a16 (.bi .sub z13 z15)), (qq a17 (.slS z11 none (some z16))), (qq a4 (.mv z17)), (qq a5 (.mv xT))])
noncomputable def c50 : CF := .mk 5 [.t a4, .t a5] (.seq b50_1 (.seq b50_4 (.seq b50_5 .ret)))
theorem e50 (v0 v1 : V) : argTr 5 [v0, v1] = (.n (.n sk3 (some v1) sk3) (some v0) sk4) := rfl
def B50 := ai @e50 (ai (wu b50_1.eq_1) (ai (wu b50_2.eq_1) (ai (wu b50_3.eq_1) (ai (wu b50_4.eq_1) (wu b50_5.eq_1)))))
noncomputable def b34_1 : CC := (.reg [(qq a4 (.mv xF))])
noncomputable def b34_2 : CC := (.reg [(qq a5 (.mv z0)), (qq a6 (.ln .str z5)), (qq a7 (.mv z1)), (qq a8 (.ln .str z7)), (qq a9 (.bi .geq z6 z8)), (qq a10 (.mv z9)), ⟨(some a11), .q (.mv z0), (some (a10, true))⟩, ⟨(some a12), .q (.mv z0), (some (a10, true))⟩, ⟨(some a13), .q (.ln .str z12), (some (a10, true))⟩, ⟨(some a14), .q (.mv z1), (some (a10, true))⟩, ⟨(some a15), .q (.ln .str z14), (some (a10, true))⟩, ⟨(some a16), .q (.bi .sub z13 z15), (some (a10, true))⟩, ⟨(some a17), .q (.slS z11 (some z16) none), (some (a10, true))⟩, ⟨(some a18), .q (.mv z1), (some (a10, true))⟩, ⟨(some a19), .q (.bi .eql z17 z18), (some (a10, true))⟩, (qq a20 (.pk z10 z19 xF)), (qq a4 (.mv z20))])
noncomputable def c34 : CF := .mk 5 [.t a4] (.seq b34_1 (.seq b34_2 .ret))
theorem e34 (v0 v1 : V) : argTr 5 [v0, v1] = (.n (.n sk3 (some v1) sk3) (some v0) sk4) := rfl
def B34 := ai @e34 (ai (wu b34_1.eq_1) (wu b34_2.eq_1))
noncomputable def b13_1 : CC := (.reg [(qq a4 (.mv xF))])
noncomputable def b13_2 : CC := (.reg [(qq a5 (.mv z0)), (qq a6 (.mv z1)), (ee a7 (.call 34 [z5, z6])), (qq a4 (.mv z7))])
noncomputable def c13 : CF := .mk 4 [.t a4] (.seq b13_1 (.seq b13_2 .ret))
theorem e13 (v0 v1 : V) : argTr 4 [v0, v1] = (.n (.n sk2 (some v1) sk2) (some v0) sk3) := rfl
def B13 := ai @e13 (ai (wu b13_1.eq_1) (wu b13_2.eq_1))
theorem r106c (Φ : Nat → Option CF) (h : Φ 106 = some c106) {F : RO} {M : Mem} {c : Nat} (l : List UInt8) (b : UInt8) : Calls Φ F 106 [sV l, bV b] M c fun r M' c' => r = .i .i64 (idxZ (fnd b l 0)) ∧ M' = M ∧ c' = c := by
  refine calls_walk h ?_
  simp only [WX, B106, v_xib, xibV_s]
theorem r83c (Φ : Nat → Option CF) (h : Φ 83 = some c83) (h106 : Φ 106 = some c106) {F : RO} {M : Mem} {c : Nat} (l : List UInt8) (b : UInt8) : Calls Φ F 83 [sV l, sV [b]] M c fun r M' c' => r = .i .i64 (idxZ (fnd b l 0)) ∧ M' = M ∧ c' = c := by
  refine calls_walk h ?_
  have e : ((([b] : List UInt8).length : Nat) : Int) = 1 := rfl
  have d0 : decide (((([b] : List UInt8).length : Nat) : Int) = 0) = false := rfl
  have d1 : decide (((([b] : List UInt8).length : Nat) : Int) = 1) = true := rfl
  by_cases hl : [b] = l
  · have dl : decide ([b] = l) = true := decide_eq_true hl
    have hf : fnd b l 0 = some 0 := by rw [← hl]; simp [fnd]
    simp only [WX, Int.reduceEq, B83, Int.ofNat_one, dl, hf]
    rfl
  · have dl : decide ([b] = l) = false := decide_eq_false hl
    simp only [WX, Int.reduceEq, B83, Int.ofNat_one, dl, ixS0]
    refine putE_to ((r106c Φ h106 l b).mono ?_)
    rintro r M1 c1 ⟨rfl, rfl, rfl⟩
    simp only [WX]
theorem r49c (Φ : Nat → Option CF) (h : Φ 49 = some c49) (h83 : Φ 83 = some c83) (h106 : Φ 106 = some c106) {F : RO} {M : Mem} {c : Nat} (l : List UInt8) (b : UInt8) (hl : l.length ≤ 1073741824) : Calls Φ F 49 [sV l, sV [b]] M c fun r M' c' => r = cutV b l ∧ M' = M ∧ c ≤ c' := by
  refine calls_walk h ?_
  unfold cutV
  simp only [WX, B49]
  refine putE_to ((r83c Φ h83 h106 l b).mono ?_)
  rintro r M1 c1 ⟨rfl, rfl, rfl⟩
  cases hf : fnd b l 0 with
  | none =>
    have d : decide ((0 : Int) ≤ idxZ none) = false := rfl
    simp only [WX, B49, d]
    exact Nat.le_refl _
  | some k =>
    have hk := (fnd_lt hf).2
    have d : decide ((0 : Int) ≤ (k : Int)) = true := decide_eq_true (by omega)
    have hz : idxZ (some k) = (k : Int) := rfl
    have e : ((([b] : List UInt8).length : Nat) : Int) = 1 := rfl
    have q1 : biV .add (.i .i64 (k : Int)) (.i .i64 1) = some (.i .i64 ((k + 1 : Nat) : Int)) := by rw [i64_add _ _ (by omega) (by omega)]; simp
    have s1 := sl_nh l .i64 k (by omega)
    have s2 := sl_ln l .i64 (k + 1) (by omega)
    simp only [WX, B49, d, hz, Int.ofNat_one, q1, s1, s2, dq_slS]
    exact Nat.le_add_right _ _
theorem r26c (Φ : Nat → Option CF) (h : Φ 26 = some c26) (h49 : Φ 49 = some c49) (h83 : Φ 83 = some c83) (h106 : Φ 106 = some c106) {F : RO} {M : Mem} {c : Nat} (l : List UInt8) (b : UInt8) (hl : l.length ≤ 1073741824) : Calls Φ F 26 [sV l, sV [b]] M c fun r M' c' => r = cutV b l ∧ M' = M ∧ c ≤ c' := by
  refine calls_walk h ?_
  simp only [WX, B26]
  refine putE_to ((r49c Φ h49 h83 h106 l b hl).mono ?_)
  rintro r M1 c1 ⟨rfl, rfl, hle⟩
  obtain ⟨x, y, z, hc⟩ := cutV_t b l
  rw [hc]
  simp only [WX]
  exact hle
theorem r25c (Φ : Nat → Option CF) (h : Φ 25 = some c25) (h26 : Φ 26 = some c26) (h49 : Φ 49 = some c49) (h83 : Φ 83 = some c83) (h106 : Φ 106 = some c106) {F : RO} {M : Mem} {c y pb : Nat} {l : List UInt8} (hl : l.length ≤ 1000000) (hb : M.get pb = some (rowB 9 [sV l])) {I : Nat → Mem → Nat → Prop} {J : Mem → Nat → Prop} (h0 : I 0 M c) (hU : ∀ k M c c', c ≤ c' → I k M c → I k M c')
    (hY : ∀ k M c, (hk : k < (lns l).length) → I k M c → RTo (callV (K Φ none 25 F) (.y y) [.i .i64 (k : Int), sV (lns l)[k]] M c) fun r M' c' => (r = .b true ∧ I (k + 1) M' c') ∨ (r = .b false ∧ J M' c')) :
    Calls Φ F 25 [.y y, .p pb 0] M c fun _ M' c' => I (lns l).length M' c' ∨ J M' c' := by
  refine calls_walk h ?_
  have hld : load1 F M pb 0 = some (sV l) := load_row hb 0
  have e7 : V.s 1 10 = sV [10] := rfl
  have hll := lns_len l []
  simp only [WX, B25, hld]
  obtain ⟨Iv, hIv⟩ : ∃ Iv : Nat → St → Prop, ∀ n s, Iv n s ↔ (∃ (k : Nat) (r : List UInt8) (M1 : Mem) (c1 : Nat) (u : List (Option V)), n = (lns l).length - k ∧ k ≤ (lns l).length ∧ s = .mk ((.n (.n (.n (uv3 u 15 7 23) (some (sV r)) (uv3 u 19 11 27)) (some (.p pb 0)) (uv7 u 17 9 25 5 21 13 29)) (some (.y y)) (.n (.n (uv3 u 16 8 24) (some (.i .i64 (k : Int))) (uv3 u 20 12 28)) (uO u 2) (uv7 u 18 10 26 6 22 14 30)))) [] M1 c1 ∧ lns r = (lns l).drop k ∧ r.length ≤ l.length ∧ I k M1 c1) := ⟨fun n s => _, fun _ _ => Iff.rfl⟩
  refine wp_while Iv ?_ (lns l).length _ ((hIv _ _).2 ⟨0, l, _, _, [none, none, _, none, none, _, _, _, _, _, _, _, _, _, _, _, _, _, _, _, _, _, _, _, _, _, _, _, _, _, _], rfl, Nat.zero_le _, rfl, rfl, Nat.le_refl _, h0⟩)
  intro n s hIs
  obtain ⟨k, r, M1, c1, u, rfl, hk, rfl, hpre, hr, hi⟩ := (hIv _ _).1 hIs
  clear hIs
  have q8 : biV .add (.i .i64 (k : Int)) (.i .i64 1) = some (.i .i64 ((k + 1 : Nat) : Int)) := by rw [i64_add _ _ (by unfold lns at hk; omega) (by unfold lns at hk; omega)]; simp
  simp only [WX, B25, e7]
  refine putE_to ((r26c Φ h26 h49 h83 h106 r 10 (by omega)).mono ?_)
  rintro r' M1' c1' ⟨rfl, rfl, hle⟩
  replace hi := hU _ _ _ _ hle hi
  unfold cutV
  cases hf : fnd 10 r 0 with
  | none =>
    simp only [WX, B25]
    have hn := lns_none r [] 0 hf
    have hke : k = (lns l).length := by
      by_cases hh : k < (lns l).length
      · rw [show lnsA r [] = lns r from rfl, hpre, List.drop_eq_getElem_cons hh] at hn; cases hn
      · omega
    exact .inl (hke ▸ hi)
  | some j =>
    have hn := lns_some r [] 0 j hf
    rw [show lnsA r [] = lns r from rfl, hpre, List.nil_append, Nat.sub_zero] at hn
    have hklt : k < (lns l).length := by
      by_cases hh : k < (lns l).length
      · exact hh
      · rw [List.drop_eq_nil_of_le (by omega)] at hn; cases hn
    rw [List.drop_eq_getElem_cons hklt] at hn
    injection hn with g1 g2
    have hy := hY k M1' c1' hklt hi
    rw [g1] at hy
    simp only [WX, B25]
    refine putE_to (hy.mono ?_)
    rintro b M3 c1003 (⟨rfl, hi3⟩ | ⟨rfl, hj⟩)
    · simp only [WX, B25, q8]
      exact ⟨(lns l).length - (k + 1), by omega, (hIv _ _).2 ⟨k + 1, r.drop (j + 1), M3, c1003, [none, none, _, none, none, _, _, _, _, _, _, _, _, _, _, _, _, _, _, _, _, _, _, _, _, _, _, _, _, _, _], rfl, hklt, rfl, g2.symm, by rw [List.length_drop]; omega, hi3⟩⟩
    · simp only [WX]
      exact .inr hj
noncomputable def h7 : List V → Option V
  | [v] => (asS v).bind fun l => if l.length ≤ 1000000 then some (V.b (labelOk l)) else none
  | _ => none
theorem h7_eq (l : List UInt8) (hl : l.length ≤ 1000000) : h7 [sV l] = some (V.b (labelOk l)) := by
  show (asS (sV l)).bind (fun l => if l.length ≤ 1000000 then some (V.b (labelOk l)) else none) = _
  rw [asS_s, Option.bind_some]; exact if_pos hl
theorem eqlS (a b : List UInt8) (h : a ≠ b) : biV .eql (sV a) (sV b) = some (.b false) := by
  have := bi_seq a b; rwa [decide_eq_false h] at this
def endB (s t : List UInt8) : Bool := decide (t.length ≤ s.length) && decide (s.drop (s.length - t.length) = t)
theorem r34 (Φ : Nat → Option CF) (h : Φ 34 = some c34) {F : RO} {M : Mem} {c : Nat} (s t : List UInt8) (hs : s.length ≤ 1000000) (ht : t.length ≤ 1000000) :
    Calls Φ F 34 [sV s, sV t] M c fun r M' c' => r = .b (endB s t) ∧ M' = M ∧ c' = c := by
  refine calls_walk h ?_
  unfold endB
  by_cases hl : t.length ≤ s.length
  · have d1 : decide ((t.length : Int) ≤ (s.length : Int)) = true := decide_eq_true (by omega)
    have q0 : biV .sub (.i .i64 (s.length : Int)) (.i .i64 (t.length : Int)) = some (.i .i64 ((s.length - t.length : Nat) : Int)) := by
      rw [i64_sub _ _ (by omega) (by omega)]; congr 2; omega
    have q1 := sl_ln s .i64 (s.length - t.length) (by omega)
    have q2 := bi_seq (s.drop (s.length - t.length)) t
    simp only [WX, B34, d1, q0, q1, q2]
    rw [decide_eq_true hl, Bool.true_and]
  · have d1 : decide ((t.length : Int) ≤ (s.length : Int)) = false := decide_eq_false (by omega)
    simp only [WX, B34, d1]
    rw [decide_eq_false hl, Bool.false_and]
theorem r13 (Φ : Nat → Option CF) (h : Φ 13 = some c13) (h34 : Φ 34 = some c34) {F : RO} {M : Mem} {c : Nat} (s t : List UInt8) (hs : s.length ≤ 1000000) (ht : t.length ≤ 1000000) :
    Calls Φ F 13 [sV s, sV t] M c fun r M' c' => r = .b (endB s t) ∧ M' = M ∧ c' = c := by
  refine calls_walk h ?_
  simp only [WX, B13]
  refine putE_to ((r34 Φ h34 s t hs ht).mono ?_)
  rintro r M1 c1 ⟨rfl, rfl, rfl⟩
  simp only [WX]
theorem r27y (Φ : Nat → Option CF) (h : Φ 27 = some c27) (h50 : Φ 50 = some c50) (h34 : Φ 34 = some c34) {F : RO} {M : Mem} {c : Nat} (a : List UInt8) (b : UInt8) (ha : a.length ≤ 100000) :
    Calls Φ F 27 [sV (a ++ [b]), sV [b]] M c fun r M' c' => r = .t [sV a, .b true] ∧ M' = M ∧ c' = c := by
  refine calls_walk h ?_
  have hlen : (a ++ [b]).length = a.length + 1 := by simp
  have he : endB (a ++ [b]) [b] = true := by unfold endB; simp
  have q0 : biV .sub (.i .i64 ((a ++ [b]).length : Int)) (.i .i64 ((1 : Nat) : Int)) = some (.i .i64 (a.length : Int)) := by
    rw [i64_sub _ _ (by omega) (by omega)]; congr 2; omega
  have q1 := sl_nh (a ++ [b]) .i64 a.length (by omega)
  rw [List.take_left'] at q1
  rotate_left
  · rfl
  have r50 : Calls Φ F 50 [sV (a ++ [b]), sV [b]] M c fun r M' c' => r = .t [sV a, .b true] ∧ M' = M ∧ c' = c := by
    refine calls_walk h50 ?_
    simp only [WX, B50]
    refine putE_to ((r34 Φ h34 (a ++ [b]) [b] (by omega) (by simp)).mono ?_)
    rintro r M1 c1 ⟨rfl, rfl, rfl⟩
    rw [he]
    simp only [WX, B50, q0, q1]
  simp only [WX, B27]
  refine putE_to (r50.mono ?_)
  rintro r M1 c1 ⟨rfl, rfl, rfl⟩
  simp only [WX]
theorem lab_facts {a : List UInt8} (h : labelOk a = true) : 1 ≤ a.length ∧ a.length ≤ 12 ∧ ∃ x r, a = x :: r ∧ 97 ≤ x.toNat := by
  unfold labelOk at h
  simp only [Bool.and_eq_true, decide_eq_true_eq] at h
  obtain ⟨_, h1, h2, h3, _⟩ := h
  refine ⟨h1, h2, ?_⟩
  cases a with
  | nil => cases h1
  | cons x r =>
    have h4 : isAZ (x.toNat : Int) = true := h3
    unfold isAZ at h4
    simp only [Bool.and_eq_true, decide_eq_true_eq] at h4
    exact ⟨x, r, rfl, by omega⟩
def labE (a : List UInt8) : List V := [.b false, .b false, .b false, .b false, .i .i64 0, .i .i64 0, .i .i64 0, .i .i64 0, .i .i64 0, sV a, .s 0 0, .l0]
noncomputable def row74 : Blk := rowB 48 [.b false, .b false, .b false, .b false, .i .i64 0, .i .i64 0, .i .i64 0, .i .i64 0, .i .i64 0, .s 0 0, .s 0 0, .l0]
theorem r10l (Φ : Nat → Option CF) (h : Φ 10 = some c10) (h27 : Φ 27 = some c27) (h50 : Φ 50 = some c50) (h34 : Φ 34 = some c34) (h7' : Φ 7 = some (.orc (pureO h7))) {F : RO} {M : Mem} {c : Nat} (ok : Okm F M c) (a : List UInt8) (ha : labelOk a = true) :
    Calls Φ F 10 [sV (a ++ [58])] M c fun r M' c' => r = .g (labE a) ∧ Gr c M c' M' := by
  refine calls_walk h ?_
  obtain ⟨h1, h2, x, w, hxw, hx⟩ := lab_facts ha
  obtain ⟨s, hsd⟩ : ∃ s, s = a ++ [58] := ⟨_, rfl⟩
  have hs : s = x :: (w ++ [58]) := by rw [hsd, hxw]; rfl
  rw [← hsd]
  have q1 : biV .eql (sV s) (.s 0 0) = some (.b false) := eqlS s [] (by rw [hs]; intro e; cases e)
  have q2 := ixSs s .i64 0 (by rw [hs]; exact Nat.zero_lt_succ _)
  rw [show s[0]'(by rw [hs]; exact Nat.zero_lt_succ _) = x by simp [hs], show bV x = .i .u8 (x.toNat : Int) from rfl, show ((0 : Nat) : Int) = 0 from rfl] at q2
  have d1 : decide ((x.toNat : Int) = 35) = false := decide_eq_false (by omega)
  have h7a := h7_eq a (by omega)
  rw [ha] at h7a
  simp only [WX, B10, q1, q2, d1]
  have g0 := fun x => (Gr.refl ok).set c x (Nat.le_refl _) (Nat.lt_succ_self _) (Nat.le_succ _)
  have r27' := r27y Φ h27 h50 h34 (F := F) (M := M.set c row74) (c := c + 1) a 58 (by omega)
  rw [← hsd] at r27'
  refine putE_to (r27'.mono ?_)
  rintro r M1 c1 ⟨rfl, rfl, rfl⟩
  have hM : (M.set c row74).get c = some row74 := get_same _ _ _
  have hst := store_row hM 0 (labE a) (by unfold labE; simp) rfl
  rw [show over [V.b false, .b false, .b false, .b false, .i .i64 0, .i .i64 0, .i .i64 0, .i .i64 0, .i .i64 0, .s 0 0, .s 0 0, .l0] 0 (labE a) = labE a from rfl] at hst
  have hln := loadN_row (F := F) (get_same (M.set c row74) c (rowB 48 (labE a))) 12 rfl
  unfold labE at hst hln ⊢
  have fS : flatten (sV a) = [sV a] := rfl
  have oS : isOne (sV a) = true := rfl
  simp only [WX, Nat.reduceAdd, Nat.reduceLeDiff, B10, h7', h7a, hst, hln, fS]
  exact (g0 _).set _ _ (Nat.le_refl _) (Nat.lt_succ_self _) (Nat.le_refl _)
theorem r11l (Φ : Nat → Option CF) (h : Φ 11 = some c11) {F : RO} {M : Mem} {c : Nat} (ok : Okm F M c) (a : List UInt8) (at_ : V) :
    Calls Φ F 11 [.g (labE a), at_] M c fun r M' c' => r = .i .i64 0 ∧ Gr c M c' M' := by
  refine calls_walk h ?_
  have g0 := fun x => (Gr.refl ok).set c x (Nat.le_refl _) (Nat.lt_succ_self _) (Nat.le_succ _)
  have l2 : ∀ k v, (labE a)[k]? = some v → load1 F (M.set c (rowB 48 (labE a))) c k = some v := fun k v hv => by rw [load_row (get_same _ _ _) k]; exact hv
  have l := l2 2 (.b false) rfl
  have l3 := l2 3 (.b false) rfl
  have l1 := l2 1 (.b false) rfl
  have l41 := l2 11 .l0 rfl
  unfold labE at l l3 l1 l41 ⊢
  have oS : isOne (sV a) = true := rfl
  simp only [WX, Nat.reduceAdd, B11, l, l3, l1, l41, oS]
  exact g0 _
end Go.Proofs.YtaigcmdogapjgaaGreatDoor.Ev
set_option maxRecDepth 10000
set_option maxHeartbeats 8000000
namespace Go.Proofs.YtaigcmdogapjgaaGreatDoor.Ev
open Go
def entL (v : V) : List (List UInt8) → Nat → List (V × V × Nat)
  | [], _ => []
  | a :: r, n => (sV a, v, n) :: entL v r (n + 1)
theorem entL_len (v : V) : ∀ (l : List (List UInt8)) (n : Nat), (entL v l n).length = l.length
  | [], _ => rfl
  | a :: r, n => by rw [entL, List.length_cons, entL_len v r, List.length_cons]
theorem entL_snoc (v : V) (a : List UInt8) : ∀ (l : List (List UInt8)) (n : Nat), snocE (sV a, v, n + l.length) (entL v l n) = entL v (l ++ [a]) n
  | [], n => rfl
  | b :: r, n => by
    have := entL_snoc v a r (n + 1)
    rw [show n + 1 + r.length = n + (b :: r).length by rw [List.length_cons]; omega] at this
    show (sV b, v, n) :: snocE (sV a, v, n + (b :: r).length) (entL v r (n + 1)) = _
    rw [this]; rfl
theorem findK_cons (k k' v : V) (x : Nat) (r : List (V × V × Nat)) (i : Nat) (h : keyEq .str k k' = some false) : findK .str k ((k', v, x) :: r) i = findK .str k r (i + 1) := by
  show (match keyEq .str k k' with | some true => _ | some false => _ | none => _) = _
  rw [h]
theorem findK_ent (v : V) (a : List UInt8) : ∀ (l : List (List UInt8)) (n i : Nat), a ∉ l → findK .str (sV a) (entL v l n) i = some none
  | [], _, _, _ => rfl
  | b :: r, n, i, h => by
    have hne : a ≠ b := fun e => h (e ▸ List.mem_cons_self ..)
    have hk : keyEq .str (sV a) (sV b) = some false := by
      show some (strEq a.length (strN a) b.length (strN b)) = _
      rw [strEq_s, decide_eq_false hne]
    rw [entL, findK_cons _ _ _ _ _ _ hk]
    exact findK_ent v a r (n + 1) (i + 1) fun hm => h (List.mem_cons_of_mem _ hm)
noncomputable def lkQ (sh : Sh) (z : V) (o : Bool) (X Y : V) (F : RO) (M : Mem) : QR := dqR (.lk sh z o (.c X) (.c Y)) F M .e
theorem dq_lk0 {F : RO} (sh : Sh) (z : V) (o : Bool) (x k : X) (M : Mem) (t : T) : dqR (.lk sh z o x k) F M t = lkQ sh z o (x.ev t) (k.ev t) F M := Eq.trans rfl (Eq.refl _)
theorem lkQ_n {F : RO} {M : Mem} {b n : Nat} {es : List (V × V × Nat)} (sh : Sh) (z : V) (o : Bool) (Y : V) (h : M.get b = some (.map es n)) (e0 : findK sh Y es 0 = some none) : lkQ sh z o (.m b) Y F M = .r (bif o then .t [z, .b false] else z) b := by
  have hq : ∀ F' M', qop (.lk sh z o (.c (.m b)) (.c Y)) F' M' .e = asMap (look F' M' b) .f (fun es _ => q_lkr z o b (findK sh Y es 0)) := fun _ _ => rfl
  unfold lkQ dqR
  rw [hq, look_some_M h]
  show d_q0 _ F M .e (q_lkr z o b (findK sh Y es 0)) = _
  rw [e0]
  show d_q2 _ _ b (look F M b) = _
  rw [look_some_M h]
  show rOnly b (qop (.lk sh z o (.c (.m b)) (.c Y)) [(b, .map es n)] .e .e) = _
  rw [hq]
  have : look [(b, Blk.map es n)] (.e : Mem) b = some (.map es n) := by
    rw [look_none_M (show (Tr.e : Mem).get b = none from rfl)]
    show Bool.rec (motive := fun _ => Option Blk) _ (some (.map es n)) (Nat.beq b b) = _
    rw [beqN]; simp
  rw [this]
  show rOnly b (q_lkr z o b (findK sh Y es 0)) = _
  rw [e0]; rfl
noncomputable def muE (M : Mem) (c : Nat) (sh : Sh) (m k v : V) : RC := e_mu sh (.c m) (.c k) (.c v) [] M c .e
theorem x_mu_eq {Φ : Nat → Option CF} {rd : Option Nat} {fn : Nat} {F : RO} (sh : Sh) (m k v : X) (M : Mem) (c : Nat) (t : T) : doE (.mu sh m k v) (K Φ rd fn F) M c t = muE M c sh (m.ev t) (k.ev t) (v.ev t) := Eq.trans rfl (Eq.refl _)
theorem muE_n {M : Mem} {b n c : Nat} {es : List (V × V × Nat)} {sh : Sh} {k : V} (v : V) (h : M.get b = some (.map es n)) (e0 : findK sh k es 0 = some none) : muE M c sh (.m b) k v = .k undef (M.set b (.map (snocE (k, v, n) es) (n + 1))) c := by
  show asMap (M.get b) .f (fun es clock => e_mu1 M c b es clock k v (findK sh k es 0)) = _
  rw [h]
  show e_mu1 M c b es n k v (findK sh k es 0) = _
  rw [e0]
  show fN (Nat.succ n) (fun ck => setM M c b (.map (snocE (k, v, n) es) ck) undef) = _
  rw [fN_eq, setM_eq]
theorem lnV_map {F : RO} {M : Mem} {b n : Nat} {es : List (V × V × Nat)} (h : M.get b = some (.map es n)) : lnV .map F M (.m b) = some (.i .i64 (es.length : Int)) := by
  show (asMap (look F M b) .f fun es _ => fN es.length fun n => QR.r (.i .i64 (.ofNat n)) b).val = _
  rw [look_some_M h]
  show (fN es.length fun n => QR.r (.i .i64 (.ofNat n)) b).val = _
  rw [fN_eq]; rfl
theorem biQ_sn {F : RO} (a b : List UInt8) (M : Mem) : biQ .neq (sV a) (sV b) F M = oV (biV .neq (sV a) (sV b)) := by
  refine (dq_of ?_).trans (congrArg oV (v_bi (F := F) .neq _ _ M .e))
  intro F' M'
  show vB (!strEq a.length (strN a) b.length (strN b)) = oV (vB (!strEq a.length (strN a) b.length (strN b))).val
  rw [vB_eq]; rfl
theorem s00 : biV .neq (.s 0 0) (.s 0 0) = some (.b false) := by have := bi_sne [] []; rwa [decide_eq_true rfl] at this
theorem sQ0 {F : RO} (M : Mem) : biQ .neq (.s 0 0) (.s 0 0) F M = oV (some (.b false)) := (biQ_sn [] [] M).trans (congrArg oV s00)
theorem sne {a : List UInt8} (h : a ≠ []) : biV .neq (sV a) (.s 0 0) = some (.b true) := by have := bi_sne a []; rwa [decide_eq_false h] at this
theorem accPush {F : RO} {M : Mem} {c0 c b ty sz bytes : Nat} {v y : V} {es ns : List (List V)} (h : AccAt M c0 c b ty sz v es) (ok : Okm F M c) (h0 : c0 ≤ c) (hsz : 0 < sz) (hy : SlAt F M c sz y ns) (h1 : allOne ns.flatten = true) (hr : room (es.length + ns.length) bytes = true) :
    RTo (appV F M c ty sz bytes v y) fun v' M' c' => ∃ b', AccAt M' c0 c' b' ty sz v' (es ++ ns) ∧ Okm F M' c' ∧ c ≤ c' ∧ (∀ x, x < c0 → M'.get x = M.get x) := by
  obtain ⟨b1, hA1, hb1⟩ : ∃ b1, AccAt M c0 c b1 ty sz v es ∧ ((c0 ≤ b1 ∧ b1 < c ∧ ∃ x, M.get b1 = some x) ∨ c ≤ b1) := by
    rcases h with ⟨a0, ⟨a1, a2⟩ | ⟨a1, a2, a3, a4⟩⟩
    · exact ⟨c, ⟨a0, .inl ⟨a1, a2⟩⟩, .inr (Nat.le_refl _)⟩
    · exact ⟨b, ⟨a0, .inr ⟨a1, a2, a3, a4⟩⟩, .inl ⟨a1, a2, _, a4⟩⟩
  refine (appV_to (bytes := bytes) hA1 ⟨h0, fun _ _ => rfl, ok.hiM⟩ hsz hy h1 hr).mono ?_
  rintro v' M' c' ⟨b', hA', g', hle, hf, hb'⟩
  have gx : GrX (fun x => x = b1) c M c' M' := ⟨hle, fun x a b => hf x a b, g'.new⟩
  refine ⟨b', hA', gx.ok ok fun x a e => ?_, hle, fun x hx => g'.old x hx⟩
  rcases hb1 with ⟨_, _, hm⟩ | a2
  · rw [e]; exact hm
  · omega
theorem AccAt.keep {M M' : Mem} {c0 c c' b ty sz : Nat} {v : V} {es : List (List V)} (h : AccAt M c0 c b ty sz v es) (hc : c ≤ c') (hM : ∀ x, c0 ≤ x → x < c → M'.get x = M.get x) : AccAt M' c0 c' b ty sz v es := by
  rcases h with ⟨h0, h | ⟨h1, h2, rfl, h3⟩⟩
  · exact ⟨h0, .inl h⟩
  · exact ⟨h0, .inr ⟨h1, by omega, rfl, by rw [hM b h1 h2]; exact h3⟩⟩
theorem dq_bld {F : RO} (zero : List V) (ps : List (Nat × Nat × X)) (M : Mem) (t : T) : dqR (.bld zero ps) F M t = oV ((fillV zero (evP t ps)).map .g) := by
  refine (dq_of ?_).trans (congrArg oV (v_bld (F := F) zero ps M t))
  intro F' M'
  refine qv_oV ?_
  show (qg (fillParts t zero ps) = .f ∨ ∃ y, qg (fillParts t zero ps) = .v y)
  cases fillParts t zero ps with
  | none => exact .inl rfl
  | some x => exact .inr ⟨_, rfl⟩
noncomputable def b12_1 : CC := (.reg [(aa a3 (.bx 48 12 z1)), (qq a4 (.mv (x6 0)))])
def w12_1 := wu b12_1.eq_1
noncomputable def b12_2 : CC := (.reg [(qq a12 (.mv z0)), (qq a13 (.nck z12)), (qq a14 (.fa 0 z13)), (qq a15 (.fa 0 z14)), (qq a16 (.ld1 z15)), (qq a17 (.ln .slice z16)), (qq a5 (.mv z17))])
def w12_2 := wu b12_2.eq_1
noncomputable def b12_3 : CC := (.dreg 12 [(0, 0, (qq a19 (.mv z0))), (1, 1, (qq a20 (.nck z19))), (2, 3, (qq a21 (.fa 3 z20))), (3, 7, (qq a22 (.ld1 z21))), (4, 0, (qq a23 (.fa 10 z3))), (5, 16, (qq a24 (.ld1 z23))), (6, 63, (qq a25 (.lk .str (.i .i64 0) true z22 z24))), (7, 127, (qq a18 (.mv z25))), (8, 255, (qq a26 (.ex 0 z18))), (9, 255, (qq a27 (.ex 1 z18))), (10, 511, (qq a6 (.mv z26))), (11, 2047, (qq a7 (.mv z27)))])
def w12_3 := wu b12_3.eq_1
noncomputable def b12_4 : CC := (.dreg 30 [(0, 0, (qq a29 (.fa 0 z3))), (1, 1, (qq a30 (.ld1 z29))), (2, 3, (qq a31 (.mv z30))), (3, 7, ⟨(some a32), .q (.fa 2 z3), (some (a31, false))⟩), (4, 15, ⟨(some a33), .q (.ld1 z32), (some (a31, false))⟩), (5, 31, ⟨(some a34), .q (.mv z33), (some (a31, false))⟩), (6, 63, ⟨(some a35), .q (.mv z5), (some (a34, true))⟩), (7, 127, ⟨(some a36), .q (.bi .and z35 (x6 3)), (some (a34, true))⟩), (8, 255, ⟨(some a37), .q (.bi .neq z36 (x6 0)), (some (a34, true))⟩), (9, 511, ⟨(some a38), .q (.pk z34 z37 xF), (some (a31, false))⟩), (10, 1023, (qq a39 (.pk z31 xT z38))), (11, 2047, (qq a40 (.mv z39))), (12, 4095, ⟨(some a41), .q (.mv z0), (some (a40, false))⟩), (13, 8191, ⟨(some a42), .q (.nck z41), (some (a40, false))⟩), (14, 16383, ⟨(some a43), .q (.fa 4 z42), (some (a40, false))⟩), (15, 32767, ⟨(some a44), .q (.ld1 z43), (some (a40, false))⟩), (16, 4095, ⟨(some a45), .q (.fa 9 z3), (some (a40, false))⟩), (17, 69631, ⟨(some a46), .q (.ld1 z45), (some (a40, false))⟩), (18, 262143, ⟨(some a47), .q (.lk .str (.b false) false z44 z46), (some (a40, false))⟩), (19, 524287, (qq a48 (.pk z40 xT z47))), (20, 1048575, (qq a49 (.mv z48))), (21, 2097151, ⟨(some a50), .q (.fa 10 z3), (some (a49, false))⟩), (22, 4194303, ⟨(some a51), .q (.ld1 z50), (some (a49, false))⟩), (23, 8388607, ⟨(some a52), .q (.bi .neq z51 (.c (.s 0 0))), (some (a49, false))⟩), (24, 16777215, ⟨(some a53), .q (.mv z52), (some (a49, false))⟩), (25, 33554431, ⟨(some a54), .q (.mv z7), (some (a53, true))⟩), (26, 67108863, ⟨(some a55), .q (.un .not z54), (some (a53, true))⟩), (27, 134217727, ⟨(some a56), .q (.pk z53 z55 xF), (some (a49, false))⟩), (28, 268435455, (qq a57 (.pk z49 xT z56))), (29, 536870911, (qq a28 (.mv z57)))])
def w12_4 := wu b12_4.eq_1
noncomputable def b12_5 : CC := (.reg [(qq a4 (.mv (x6 4)))])
def w12_5 := wu b12_5.eq_1
noncomputable def b12_6 : CC := (.reg [(qq a59 (.fa 9 z3)), (qq a60 (.ld1 z59)), (qq a61 (.bi .neq z60 (.c (.s 0 0)))), (qq a62 (.mv z61)), ⟨(some a63), .q (.mv z0), (some (a62, true))⟩, ⟨(some a64), .q (.nck z63), (some (a62, true))⟩, ⟨(some a65), .q (.fa 4 z64), (some (a62, true))⟩, ⟨(some a66), .q (.ld1 z65), (some (a62, true))⟩, ⟨(some a67), .q (.ln .map z66), (some (a62, true))⟩, ⟨(some a68), .q (.bi .eql z67 (x6 256)), (some (a62, true))⟩, (qq a69 (.pk z62 z68 xF)), (qq a58 (.mv z69))])
def w12_6 := wu b12_6.eq_1
noncomputable def b12_7 : CC := (.reg [(qq a4 (.mv (x6 5)))])
def w12_7 := wu b12_7.eq_1
noncomputable def b12_8 : CC := (.reg [(qq a71 (.fa 9 z3)), (qq a72 (.ld1 z71)), (qq a73 (.bi .neq z72 (.c (.s 0 0)))), (qq a70 (.mv z73))])
def w12_8 := wu b12_8.eq_1
noncomputable def b12_9 : CC := (.dreg 7 [(0, 0, (qq a74 (.mv z0))), (1, 1, (qq a75 (.nck z74))), (2, 3, (qq a76 (.fa 4 z75))), (3, 7, (qq a77 (.ld1 z76))), (4, 0, (qq a78 (.fa 9 z3))), (5, 16, (qq a79 (.ld1 z78))), (6, 63, (ez (.mu .str z77 z79 xT)))])
def w12_9 := wu b12_9.eq_1
noncomputable def b12_10 : CC := (.dreg 16 [(0, 0, (qq a80 (.mv z0))), (1, 0, (qq a81 (.mv z0))), (2, 2, (qq a82 (.nck z81))), (3, 6, (qq a83 (.fa 0 z82))), (4, 14, (qq a84 (.fa 1 z83))), (5, 30, (qq a85 (.ld1 z84))), (6, 0, (qq a86 (.fa 9 z3))), (7, 64, (qq a87 (.ld1 z86))), (8, 0, (qq a88 (.mv z5))), (9, 448, (qq a89 (.bld [(.s 0 0), (.i .i64 0)] [(0, 1, z87), (1, 1, z88)]))), (10, 960, (aa a90 (.bsl 55 1 2 [(.s 0 0), (.i .i64 0)] [(0, z89)]))), (11, 2046, (ee a91 (.app 55 2 24 z85 z90))), (12, 4095, (qq a92 (.nck z80))), (13, 8191, (qq a93 (.fa 0 z92))), (14, 16383, (qq a94 (.fa 1 z93))), (15, 32767, (ez (.st 1 z94 z91)))])
def w12_10 := wu b12_10.eq_1
noncomputable def b12_11 : CC := (.reg [(qq a4 (.mv (x6 0)))])
def w12_11 := wu b12_11.eq_1
noncomputable def b12_12 : CC := (.cond z70 (.seq b12_9 (.seq b12_10 (.seq b12_11 .ret))) .skip)
def w12_12 := wu b12_12.eq_1
noncomputable def b12_13 : CC := (.cond z58 (.seq b12_7 .ret) (.seq b12_8 b12_12))
def w12_13 := wu b12_13.eq_1
noncomputable def b12_14 : CC := (.cond z28 (.seq b12_5 .ret) (.seq b12_6 b12_13))
def w12_14 := wu b12_14.eq_1
noncomputable def b12_15 : CC := (.reg [(qq a95 (.fa 11 z3)), (qq a96 (.ld1 z95)), (qq a8 (.mv z96))])
def w12_15 := wu b12_15.eq_1
noncomputable def b12_16 : CC := (.reg [(qq a9 (.mv (.c .l0)))])
def w12_16 := wu b12_16.eq_1
noncomputable def b12_17 : CC := (.reg [(qq a98 (.fa 2 z3)), (qq a99 (.ld1 z98)), (qq a97 (.mv z99))])
def w12_17 := wu b12_17.eq_1
noncomputable def b12_18 : CC := (.reg [(qq a100 (.fa 10 z3)), (qq a101 (.ld1 z100)), (qq a102 (.bi .neq z101 (.c (.s 0 0)))), (qq a103 (.mv z102)), ⟨(some a104), .q (.fa 4 z3), (some (a103, true))⟩, ⟨(some a105), .q (.fa 0 z104), (some (a103, true))⟩, ⟨(some a106), .q (.ld1 z105), (some (a103, true))⟩, ⟨(some a107), .q (.bi .eql z106 (x6 5)), (some (a103, true))⟩, (qq a108 (.pk z103 z107 xF))])
def w12_18 := wu b12_18.eq_1
noncomputable def b12_19 : CC := (.reg [(qq a109 (.mv z6)), (qq a110 (.fa 4 z3)), (qq a111 (.fa 4 z110)), (ez (.st 1 z111 z109))])
def w12_19 := wu b12_19.eq_1
noncomputable def b12_20 : CC := (.reg [(qq a112 (.mv z5)), (qq a113 (.bi .add z112 (x6 2))), (qq a114 (.bld [(.i .i64 0), (.b false)] [(0, 1, z113), (1, 1, xT)])), (aa a115 (.bsl 67 1 2 [(.i .i64 0), (.b false)] [(0, z114)])), (qq a9 (.mv z115))])
def w12_20 := wu b12_20.eq_1
noncomputable def b12_21 : CC := (.reg [(qq a116 (.fa 10 z3)), (qq a117 (.ld1 z116)), (qq a118 (.bi .neq z117 (.c (.s 0 0))))])
def w12_21 := wu b12_21.eq_1
noncomputable def b12_22 : CC := (.reg [(qq a119 (.mv z6)), (qq a120 (.mv z5)), (qq a121 (.bi .sub z119 z120)), (qq a122 (.bi .quo z121 (x6 4))), (qq a123 (.fa 4 z3)), (qq a124 (.fa 4 z123)), (ez (.st 1 z124 z122))])
def w12_22 := wu b12_22.eq_1
noncomputable def b12_23 : CC := (.seq b12_21 (.cond z118 b12_22 .skip))
def w12_23 := wu b12_23.eq_1
noncomputable def b12_24 : CC := (.cond z108 (.seq b12_19 b12_20) b12_23)
def w12_24 := wu b12_24.eq_1
noncomputable def b12_25 : CC := (.reg [(qq a126 (.fa 4 z3)), (qq a127 (.ldn 5 z126)), (aa a128 (.bsl 46 1 5 [(.i .i64 0), (.i .i64 0), (.i .i64 0), (.i .i64 0), (.i .i64 0)] [(0, z127)])), (ee a129 (.call 32 [z128])), (qq a125 (.mv z129)), (qq a130 (.ex 0 z125)), (qq a131 (.ex 1 z125)), (qq a10 (.mv z130)), (qq a11 (.mv z131))])
def w12_25 := wu b12_25.eq_1
noncomputable def b12_26 : CC := (.reg [(qq a132 (.mv z11)), (qq a133 (.bi .neq z132 (x6 0))), (qq a134 (.mv z133)), ⟨(some a135), .q (.fa 10 z3), (some (a134, false))⟩, ⟨(some a136), .q (.ld1 z135), (some (a134, false))⟩, ⟨(some a137), .q (.bi .neq z136 (.c (.s 0 0))), (some (a134, false))⟩, ⟨(some a138), .q (.mv z137), (some (a134, false))⟩, ⟨(some a139), .q (.fa 4 z3), (some (a138, true))⟩, ⟨(some a140), .q (.fa 0 z139), (some (a138, true))⟩, ⟨(some a141), .q (.ld1 z140), (some (a138, true))⟩, ⟨(some a142), .q (.bi .neq z141 (x6 5)), (some (a138, true))⟩, ⟨(some a143), .q (.pk z138 z142 xF), (some (a134, false))⟩, ⟨(some a144), .q (.mv z143), (some (a134, false))⟩, ⟨(some a145), .q (.mv z6), (some (a144, true))⟩, ⟨(some a146), .q (.mv z5), (some (a144, true))⟩, ⟨(some a147), .q (.bi .sub z145 z146), (some (a144, true))⟩, ⟨(some a148), .q (.bi .rem z147 (x6 4)), (some (a144, true))⟩, ⟨(some a149), .q (.bi .neq z148 (x6 0)), (some (a144, true))⟩, ⟨(some a150), .q (.pk z144 z149 xF), (some (a134, false))⟩, (qq a151 (.pk z134 xT z150))])
def w12_26 := wu b12_26.eq_1
noncomputable def b12_27 : CC := (.reg [(qq a4 (.mv (x6 4)))])
def w12_27 := wu b12_27.eq_1
noncomputable def b12_28 : CC := (.cond z151 (.seq b12_27 .ret) .skip)
def w12_28 := wu b12_28.eq_1
noncomputable def b12_29 : CC := (.reg [(qq a152 (.mv z10)), (qq a8 (.mv z152))])
def w12_29 := wu b12_29.eq_1
noncomputable def b12_30 : CC := (.seq (.seq b12_18 b12_24) (.seq b12_25 (.seq (.seq b12_26 b12_28) b12_29)))
def w12_30 := wu b12_30.eq_1
noncomputable def b12_31 : CC := (.reg [(qq a154 (.fa 3 z3)), (qq a155 (.ld1 z154)), (qq a153 (.mv z155))])
def w12_31 := wu b12_31.eq_1
noncomputable def b12_32 : CC := (.reg [(qq a156 (.mv z6)), (qq a157 (.ci .u64 z156)), (ee a158 (.call 33 [z157])), (qq a8 (.mv z158))])
def w12_32 := wu b12_32.eq_1
noncomputable def b12_33 : CC := (.reg [(qq a159 (.mv z5)), (qq a160 (.bld [(.i .i64 0), (.b false)] [(0, 1, z159)])), (aa a161 (.bsl 67 1 2 [(.i .i64 0), (.b false)] [(0, z160)])), (qq a9 (.mv z161))])
def w12_33 := wu b12_33.eq_1
noncomputable def b12_34 : CC := (.reg [(qq a163 (.fa 1 z3)), (qq a164 (.ld1 z163)), (qq a162 (.mv z164))])
def w12_34 := wu b12_34.eq_1
noncomputable def b12_35 : CC := (.reg [(qq a165 (.mv z5)), (qq a166 (.un .neg z165)), (qq a167 (.bi .and z166 (x6 3))), (aa a168 (.mks 5 1 1 [(.i .u8 0)] z167 z167)), (qq a8 (.mv z168))])
def w12_35 := wu b12_35.eq_1
noncomputable def b12_36 : CC := (.cond z162 b12_35 .skip)
def w12_36 := wu b12_36.eq_1
noncomputable def b12_37 : CC := (.cond z153 (.seq b12_32 b12_33) (.seq b12_34 b12_36))
def w12_37 := wu b12_37.eq_1
noncomputable def b12_38 : CC := (.cond z97 b12_30 (.seq b12_31 b12_37))
def w12_38 := wu b12_38.eq_1
noncomputable def b12_39 : CC := (.reg [(qq a169 (.mv z8)), (qq a170 (.ln .slice z169)), (qq a171 (.mv z5)), (qq a172 (.bi .sub (x6 8192) z171)), (qq a173 (.bi .gtr z170 z172))])
def w12_39 := wu b12_39.eq_1
noncomputable def b12_40 : CC := (.reg [(qq a4 (.mv (x6 5)))])
def w12_40 := wu b12_40.eq_1
noncomputable def b12_41 : CC := (.cond z173 (.seq b12_40 .ret) .skip)
def w12_41 := wu b12_41.eq_1
noncomputable def b12_42 : CC := (.reg [(qq a174 (.mv z0)), (qq a175 (.mv z0)), (qq a176 (.nck z175)), (qq a177 (.fa 0 z176)), (qq a178 (.fa 0 z177)), (qq a179 (.ld1 z178)), (qq a180 (.mv z8)), (ee a181 (.app 5 1 1 z179 z180)), (qq a182 (.nck z174)), (qq a183 (.fa 0 z182)), (qq a184 (.fa 0 z183)), (ez (.st 1 z184 z181))])
def w12_42 := wu b12_42.eq_1
noncomputable def b12_43 : CC := (.reg [(qq a185 (.mv z0)), (qq a186 (.mv z0)), (qq a187 (.nck z186)), (qq a188 (.fa 0 z187)), (qq a189 (.fa 2 z188)), (qq a190 (.ld1 z189)), (qq a191 (.mv z9)), (ee a192 (.app 67 2 16 z190 z191)), (qq a193 (.nck z185)), (qq a194 (.fa 0 z193)), (qq a195 (.fa 2 z194)), (ez (.st 1 z195 z192))])
def w12_43 := wu b12_43.eq_1
noncomputable def b12_44 : CC := (.reg [(qq a4 (.mv (x6 0)))])
def w12_44 := wu b12_44.eq_1
noncomputable def b12_45 : CC := (.seq (.seq b12_39 b12_41) (.seq b12_42 (.seq b12_43 (.seq b12_44 .ret))))
def w12_45 := wu b12_45.eq_1
noncomputable def b12_46 : CC := (.seq b12_15 (.seq b12_16 (.seq (.block 1 (.seq b12_17 b12_38)) b12_45)))
def w12_46 := wu b12_46.eq_1
noncomputable def b12_47 : CC := (.seq b12_2 (.seq b12_3 (.seq (.block 0 (.seq b12_4 b12_14)) b12_46)))
def w12_47 := wu b12_47.eq_1
noncomputable def c12 : CF := .mk 8 [.t a4] (.seq b12_1 b12_47)
theorem e12 (v0 v1 : V) : argTr 8 [v0, v1] = (.n (.n sk6 (some v1) sk6) (some v0) sk7) := rfl
def B12 := ai @e12 (ai @w12_1 (ai @w12_2 (ai @w12_3 (ai @w12_4 (ai @w12_5 (ai @w12_6 (ai @w12_7 (ai @w12_8 (ai @w12_9 (ai @w12_10 (ai @w12_11 (ai @w12_12 (ai @w12_13 (ai @w12_14 (ai @w12_15 (ai @w12_16 (ai @w12_17 (ai @w12_18 (ai @w12_19 (ai @w12_20 (ai @w12_21 (ai @w12_22 (ai @w12_23 (ai @w12_24 (ai @w12_25 (ai @w12_26 (ai @w12_27 (ai @w12_28 (ai @w12_29 (ai @w12_30 (ai @w12_31 (ai @w12_32 (ai @w12_33 (ai @w12_34 (ai @w12_35 (ai @w12_36 (ai @w12_37 (ai @w12_38 (ai @w12_39 (ai @w12_40 (ai @w12_41 (ai @w12_42 (ai @w12_43 (ai @w12_44 (ai @w12_45 (ai @w12_46 (@w12_47)))))))))))))))))))))))))))))))))))))))))))))))
def row68 (bv lv : V) (m1 m2 : Nat) : List V := [bv, lv, .l0, .m m1, .m m2]
def lbE (l : List (List UInt8)) : List (List V) := l.map fun a => [sV a, .i .i64 0]
theorem r12l (Φ : Nat → Option CF) (h : Φ 12 = some c12) {F : RO} {M : Mem} {c bb m1 m2 cB b1 : Nat} {lv : V} {l pl : List (List UInt8)} {a : List UInt8} (ok : Okm F M c)
    (hB : M.get bb = some (rowB 39 (row68 .l0 lv m1 m2))) (hm1 : M.get m1 = some (.map (entL (.i .i64 0) pl 0) pl.length)) (hm2 : M.get m2 = some (.map (entL (.b true) l 0) l.length)) (hbc : bb < cB) (hcB : cB ≤ c) (h1 : m1 < bb) (h2 : m2 < bb) (h12 : m1 ≠ m2) (hA : AccAt M cB c b1 55 2 lv (lbE l)) (hlen : l.length < 256) (ha : a ∉ l) (hne : a ≠ []) (hpl : ([] : List UInt8) ∉ pl) :
    Calls Φ F 12 [.p bb 0, .g (labE a)] M c fun r M' c' => r = .i .i64 0 ∧ Okm F M' c' ∧ c ≤ c' ∧ (∀ y, y < cB → y ≠ bb → y ≠ m2 → M'.get y = M.get y) ∧ M'.get m2 = some (.map (entL (.b true) (l ++ [a]) 0) (l ++ [a]).length) ∧ ∃ lv' b1', M'.get bb = some (rowB 39 (row68 .l0 lv' m1 m2)) ∧ AccAt M' cB c' b1' 55 2 lv' (lbE (l ++ [a])) := by
  refine calls_walk h ?_
  have hr : (labE a).length = 12 ∧ allOne (labE a) = true := ⟨rfl, rfl⟩
  simp only [WX, e12, w12_1, hr]
  have gX := fun x => (Gr.refl ok).set c x (Nat.le_refl _) (Nat.lt_succ_self _) (Nat.le_succ _)
  have gX := gX (rowB 48 (labE a))
  have l2 : ∀ k v, (labE a)[k]? = some v → load1 F (M.set c (rowB 48 (labE a))) c k = some v := fun k v hv => by rw [load_row (get_same _ _ _) k]; exact hv
  generalize M.set c (rowB 48 (labE a)) = X at gX l2 ⊢
  have okX := gX.ok ok
  have xB := (gX.old bb (by omega)).trans hB
  have xm2 := (gX.old m2 (by omega)).trans hm2
  have lB := load_row (F := F) xB 0
  have lP := load_row (F := F) xB 3
  have lH := load_row (F := F) xB 4
  rw [show (row68 .l0 lv m1 m2)[0]? = some .l0 from rfl] at lB
  rw [show (row68 .l0 lv m1 m2)[3]? = some (.m m1) from rfl] at lP
  rw [show (row68 .l0 lv m1 m2)[4]? = some (.m m2) from rfl] at lH
  have q1 := lkQ_n (F := F) .str (.i .i64 0) true (.s 0 0) ((gX.old m1 (by omega)).trans hm1) (findK_ent _ [] _ _ _ hpl)
  have q2 := lkQ_n (F := F) .str (.b false) false (sV a) xm2 (findK_ent _ a _ _ _ ha)
  have f0 := l2 0 (.b false) rfl
  have f1 := l2 1 (.b false) rfl
  have f2 := l2 2 (.b false) rfl
  have f3 := l2 3 (.b false) rfl
  have f9 := l2 9 (sV a) rfl
  have f10 := l2 10 (.s 0 0) rfl
  have f11 := l2 11 .l0 rfl
  have hln := lnV_map (F := F) xm2
  rw [entL_len] at hln
  have d1 : decide ((l.length : Int) = 256) = false := decide_eq_false (by omega)
  simp only [WX, Nat.reduceAdd, w12_2, w12_3, w12_4, w12_47, v_nck, dq_nck, nckV_p, lB, lP, q1, dq_lk0, f10, f0, f2, f9, q2, lH, sQ0]
  have sn := sne hne
  have qm := muE_n (c := c + 43 + 7) (.b true) xm2 (findK_ent _ a _ _ _ ha)
  have es := entL_snoc (.b true) a l 0
  rw [Nat.zero_add] at es
  rw [es, show l.length + 1 = (l ++ [a]).length by simp] at qm
  have okY : Okm F (X.set m2 (.map (entL (.b true) (l ++ [a]) 0) (l ++ [a]).length)) (c + 43 + 7) := ((gX.up (show c.succ ≤ c + 43 + 7 by omega)).ok ok).put (by omega) xm2
  have hfr := okY.free
  simp only [WX, Nat.reducePow, Nat.reduceDiv, Nat.reduceMod, Nat.reduceBEq, Nat.reduceAdd, wd_e1, w12_6, w12_8, w12_9, w12_12, w12_13, w12_14, v_nck, dq_nck, nckV_p, f9, sn, lH, hln, d1, x_mu_eq, qm, hfr]
  have oY : ∀ y, y < c → y ≠ m2 → (X.set m2 (.map (entL (.b true) (l ++ [a]) 0) (l ++ [a]).length)).get y = M.get y := fun y y1 y2 => (get_ne _ _ y2).trans (gX.old y (by omega))
  have yB := (get_ne X (.map (entL (.b true) (l ++ [a]) 0) (l ++ [a]).length) (show bb ≠ m2 by omega)).trans xB
  have ym2 := get_same X m2 (.map (entL (.b true) (l ++ [a]) 0) (l ++ [a]).length)
  have y9 : load1 F (X.set m2 (.map (entL (.b true) (l ++ [a]) 0) (l ++ [a]).length)) c 9 = some (sV a) := by
    rw [← f9]; unfold load1; rw [look_congr (get_ne _ _ (by omega))]
  generalize X.set m2 (.map (entL (.b true) (l ++ [a]) 0) (l ++ [a]).length) = Y at okY hfr oY yB ym2 y9 ⊢
  have lL := load_row (F := F) yB 1
  rw [show (row68 .l0 lv m1 m2)[1]? = some lv from rfl] at lL
  have lk : (look F Y (c + 60)).isNone = true := by rw [okY.look (by omega)]; rfl
  have fS : flatten (sV a) = [sV a] := rfl
  have oS : isOne (sV a) = true := rfl
  have hn1 : ¬ c = c + 60 := by omega
  have hn2 : ¬ bb = c + 60 := by omega
  simp only [WX, Nat.reducePow, Nat.reduceDiv, Nat.reduceMod, Nat.reduceBEq, Nat.reduceAdd, Nat.reduceLeDiff, B12, dq_nck, nckV_p, y9, lL, dq_bld, wd_a, putDA, lk, readFree_nil, readFree_cons, hn1, hn2, ne_eq, not_false_eq_true, fS, oS, wd_em]
  have gZ := ((Gr.refl okY).up (show c + 43 + 7 ≤ c + 66 by omega)).set (c + 60) (rowD [V.s 0 0, V.i IntKind.i64 0] 55 [sV a, V.i IntKind.i64 0]) (by omega) (show c + 60 < c + 66 by omega) (Nat.le_refl _)
  have okZ := gZ.ok okY
  have hA' := hA.keep (M' := Y.set (c + 60) (rowD [V.s 0 0, V.i IntKind.i64 0] 55 [sV a, V.i IntKind.i64 0])) (c' := c + 66) (by omega) fun x x1 x2 => (get_ne _ _ (by omega)).trans (oY x x2 (by omega))
  have hy : SlAt F (Y.set (c + 60) (rowD [V.s 0 0, V.i IntKind.i64 0] 55 [sV a, V.i IntKind.i64 0])) (c + 66) 2 (.l (c + 60) 0 1 1) [[sV a, .i .i64 0]] := slD (d := [.s 0 0, .i .i64 0]) (ty := 55) (get_same _ _ _) (by omega) (fun e he => by rw [List.mem_singleton] at he; subst he; rfl) rfl
  have hll : (lbE l).length = l.length := List.length_map _
  refine putDE_to ((accPush (c0 := cB) (bytes := 24) hA' okZ (by omega) (by decide) hy rfl (room_of (by rw [hll, List.length_singleton]; omega) (by rw [hll, List.length_singleton]; omega))).mono ?_)
  rintro v' M2 c2 ⟨b2, hA2, ok2, hle, hold⟩
  refine ⟨ok2.free, ?_⟩
  obtain ⟨v1, v2, v3⟩ : isOne v' = true ∧ flatten v' = [v'] ∧ allOne [v'] = true := by rcases hA2 with ⟨_, ⟨_, rfl⟩ | ⟨_, _, rfl, _⟩⟩ <;> exact ⟨rfl, rfl, rfl⟩
  have zB := (hold bb hbc).trans ((get_ne _ _ (by omega)).trans yB)
  have st1 := store_row zB 1 [v'] (by simp [row68]) v3
  rw [show over (row68 .l0 lv m1 m2) 1 [v'] = row68 .l0 v' m1 m2 from rfl] at st1
  have ok3 := ok2.put (y := rowB 39 (row68 .l0 v' m1 m2)) (by omega) zB
  have hfr2 := ok3.free
  simp only [WX, Nat.reducePow, Nat.reduceDiv, Nat.reduceMod, Nat.reduceBEq, wd_e1, B12, dq_nck, nckV_p, v2, st1, hfr2]
  refine ⟨ok3, by omega, fun y y1 y2 y3 => ?_, ?_, v', b2, get_same _ _ _, ?_⟩
  · rw [get_ne _ _ y2, hold y y1, get_ne _ _ (by omega), oY y (by omega) y3]
  · rw [get_ne _ _ (by omega), hold m2 (by omega), get_ne _ _ (by omega)]; exact ym2
  · have := hA2.keep (M' := M2.set bb (rowB 39 (row68 .l0 v' m1 m2))) (Nat.le_refl _) fun x x1 _ => get_ne _ _ (by omega)
    unfold lbE at this ⊢
    rw [List.map_append]; exact this
theorem r12f (Φ : Nat → Option CF) (h : Φ 12 = some c12) {F : RO} {M : Mem} {c bb m1 m2 : Nat} {lv : V} {l pl : List (List UInt8)} {a : List UInt8} (ok : Okm F M c)
    (hB : M.get bb = some (rowB 39 (row68 .l0 lv m1 m2))) (hm1 : M.get m1 = some (.map (entL (.i .i64 0) pl 0) pl.length)) (hm2 : M.get m2 = some (.map (entL (.b true) l 0) l.length)) (hbc : bb < c) (h1 : m1 < bb) (h2 : m2 < bb) (hlen : l.length = 256) (ha : a ∉ l) (hne : a ≠ []) (hpl : ([] : List UInt8) ∉ pl) :
    Calls Φ F 12 [.p bb 0, .g (labE a)] M c fun r M' c' => r = .i .i64 5 ∧ Gr c M c' M' := by
  refine calls_walk h ?_
  have hr : (labE a).length = 12 ∧ allOne (labE a) = true := ⟨rfl, rfl⟩
  simp only [WX, e12, w12_1, hr]
  have gX := fun x => (Gr.refl ok).set c x (Nat.le_refl _) (Nat.lt_succ_self _) (Nat.le_succ _)
  have gX := gX (rowB 48 (labE a))
  have l2 : ∀ k v, (labE a)[k]? = some v → load1 F (M.set c (rowB 48 (labE a))) c k = some v := fun k v hv => by rw [load_row (get_same _ _ _) k]; exact hv
  generalize M.set c (rowB 48 (labE a)) = X at gX l2 ⊢
  have xB := (gX.old bb (by omega)).trans hB
  have xm2 := (gX.old m2 (by omega)).trans hm2
  have lB := load_row (F := F) xB 0
  have lP := load_row (F := F) xB 3
  have lH := load_row (F := F) xB 4
  rw [show (row68 .l0 lv m1 m2)[0]? = some .l0 from rfl] at lB
  rw [show (row68 .l0 lv m1 m2)[3]? = some (.m m1) from rfl] at lP
  rw [show (row68 .l0 lv m1 m2)[4]? = some (.m m2) from rfl] at lH
  have q1 := lkQ_n (F := F) .str (.i .i64 0) true (.s 0 0) ((gX.old m1 (by omega)).trans hm1) (findK_ent _ [] _ _ _ hpl)
  have q2 := lkQ_n (F := F) .str (.b false) false (sV a) xm2 (findK_ent _ a _ _ _ ha)
  have f0 := l2 0 (.b false) rfl
  have f2 := l2 2 (.b false) rfl
  have f9 := l2 9 (sV a) rfl
  have f10 := l2 10 (.s 0 0) rfl
  have hln := lnV_map (F := F) xm2
  rw [entL_len] at hln
  have d1 : decide ((l.length : Int) = 256) = true := decide_eq_true (by omega)
  have sn := sne hne
  simp only [WX, Nat.reduceAdd, w12_2, w12_3, w12_4, w12_47, v_nck, dq_nck, nckV_p, lB, lP, q1, dq_lk0, f10, f0, f2, f9, q2, lH, sQ0]
  simp only [WX, B12, v_nck, nckV_p, f9, sn, lH, hln, d1]
  exact gX.up (by omega)
end Go.Proofs.YtaigcmdogapjgaaGreatDoor.Ev
set_option maxRecDepth 10000
set_option maxHeartbeats 16000000
namespace Go.Proofs.YtaigcmdogapjgaaGreatDoor.Ev
open Go
noncomputable def b4_1 : CC := (.reg [(aa a2 (.al 26 [.l0, .l0, .l0])), (qq a3 (.mv (x6 0))), (qq a4 (.mv (x6 0)))])
def w4_1 := wu b4_1.eq_1
noncomputable def b4_2 : CC := (.reg [(qq a17 (.mv z0)), (qq a18 (.ln .str z17)), (qq a19 (.bi .gtr z18 (x6 131072)))])
def w4_2 := wu b4_2.eq_1
noncomputable def b4_3 : CC := (.reg [(qq a20 (.bld [.l0, .l0, .l0] [])), (ez (.st 3 z2 z20)), (qq a3 (.mv (x6 0))), (qq a4 (.mv (x6 3)))])
def w4_3 := wu b4_3.eq_1
noncomputable def b4_4 : CC := (.seq b4_2 (.cond z19 (.seq b4_3 .ret) .skip))
def w4_4 := wu b4_4.eq_1
noncomputable def b4_5 : CC := (.reg [(aa a21 (.mkm)), (aa a22 (.mkm)), (qq a23 (.bld [.l0, .l0, .l0, .m0, .m0] [(3, 1, z21), (4, 1, z22)])), (aa a24 (.bx 39 5 z23)), (aa a5 (.al 35 [.p0])), (ez (.st 1 z5 z24))])
def w4_5 := wu b4_5.eq_1
noncomputable def b4_6 : CC := (.reg [(aa a7 (.al 3 [(.i .i64 0)])), (ez (.st 1 z7 (x6 0)))])
def w4_6 := wu b4_6.eq_1
noncomputable def b4_7 : CC := (.reg [(qq a25 (.mv z0)), (ee a26 (.call 9 [z25]))])
def w4_7 := wu b4_7.eq_1
noncomputable def b4_8 : CC := (.reg [(qq a9 (.mv z28))])
def w4_8 := wu b4_8.eq_1
noncomputable def b4_9 : CC := (.reg [(qq a29 (.mv z9)), (ee a30 (.call 10 [z29])), (aa a10 (.al 48 [(.b false), (.b false), (.b false), (.b false), (.i .i64 0), (.i .i64 0), (.i .i64 0), (.i .i64 0), (.i .i64 0), (.s 0 0), (.s 0 0), .l0])), (ez (.st 12 z10 z30))])
def w4_9 := wu b4_9.eq_1
noncomputable def b4_10 : CC := (.dreg 12 [(0, 0, (qq a32 (.ld1 z5))), (1, 1, (qq a33 (.nck z32))), (2, 3, (qq a34 (.fa 3 z33))), (3, 7, (qq a35 (.ld1 z34))), (4, 0, (qq a36 (.fa 9 z10))), (5, 16, (qq a37 (.ld1 z36))), (6, 63, (qq a38 (.lk .str (.i .i64 0) true z35 z37))), (7, 127, (qq a31 (.mv z38))), (8, 255, (qq a39 (.ex 0 z31))), (9, 255, (qq a40 (.ex 1 z31))), (10, 511, (qq a11 (.mv z39))), (11, 2047, (qq a12 (.mv z40)))])
def w4_10 := wu b4_10.eq_1
noncomputable def b4_11 : CC := (.reg [(qq a41 (.mv z12)), (qq a42 (.un .not z41)), (qq a43 (.mv z42)), ⟨(some a44), .q (.fa 9 z10), (some (a43, true))⟩, ⟨(some a45), .q (.ld1 z44), (some (a43, true))⟩, ⟨(some a46), .q (.bi .neq z45 (.c (.s 0 0))), (some (a43, true))⟩, (qq a47 (.pk z43 z46 xF))])
def w4_11 := wu b4_11.eq_1
noncomputable def b4_12 : CC := (.dreg 8 [(0, 0, (qq a48 (.ld1 z5))), (1, 1, (qq a49 (.nck z48))), (2, 3, (qq a50 (.fa 3 z49))), (3, 7, (qq a51 (.ld1 z50))), (4, 0, (qq a52 (.fa 9 z10))), (5, 16, (qq a53 (.ld1 z52))), (6, 0, (qq a54 (.ld1 z7))), (7, 127, (ez (.mu .str z51 z53 z54)))])
def w4_12 := wu b4_12.eq_1
noncomputable def b4_13 : CC := (.seq b4_11 (.cond z47 b4_12 .skip))
def w4_13 := wu b4_13.eq_1
noncomputable def b4_14 : CC := (.dreg 6 [(0, 0, (qq a55 (.ld1 z7))), (1, 0, (qq a56 (.ldn 12 z10))), (2, 0, (qq a57 (.ld1 z7))), (3, 6, (ee a58 (.call 11 [z56, z57]))), (4, 15, (qq a59 (.bi .add z55 z58))), (5, 31, (ez (.st 1 z7 z59)))])
def w4_14 := wu b4_14.eq_1
noncomputable def b4_15 : CC := (.reg [(qq a60 (.ld1 z6)), (qq a61 (.ldn 12 z10)), (aa a62 (.bsl 48 1 12 [(.b false), (.b false), (.b false), (.b false), (.i .i64 0), (.i .i64 0), (.i .i64 0), (.i .i64 0), (.i .i64 0), (.s 0 0), (.s 0 0), .l0] [(0, z61)])), (ee a63 (.app 48 12 104 z60 z62)), (ez (.st 1 z6 z63))])
def w4_15 := wu b4_15.eq_1
noncomputable def b4_16 : CC := (.block 1 (.seq b4_9 (.seq (.seq b4_10 b4_13) (.seq b4_14 b4_15))))
def w4_16 := wu b4_16.eq_1
noncomputable def b4_17 : CC := (.rf z26 [a27, a28] b4_8 b4_16)
def w4_17 := wu b4_17.eq_1
noncomputable def b4_18 : CC := (.reg [(qq a13 (.mv (x6 0))), (qq a14 (.mv (x6 0)))])
def w4_18 := wu b4_18.eq_1
noncomputable def b4_19 : CC := (.reg [(qq a64 (.ld1 z6)), (qq a65 (.ln .slice z64)), (qq a66 (.mv (x6 0)))])
def w4_19 := wu b4_19.eq_1
noncomputable def b4_20 : CC := (.reg [(qq a67 (.bi .lss z66 z65))])
def w4_20 := wu b4_20.eq_1
noncomputable def b4_21 : CC := (.cond z67 .skip (.exit 2))
def w4_21 := wu b4_21.eq_1
noncomputable def b4_22 : CC := (.reg [(qq a68 (.mv z66)), (qq a69 (.iaS 12 z64 z66)), (qq a70 (.ldn 12 z69)), (aa a16 (.al 48 [(.b false), (.b false), (.b false), (.b false), (.i .i64 0), (.i .i64 0), (.i .i64 0), (.i .i64 0), (.i .i64 0), (.s 0 0), (.s 0 0), .l0])), (qq a15 (.mv z68)), (ez (.st 12 z16 z70))])
def w4_22 := wu b4_22.eq_1
noncomputable def b4_23 : CC := (.reg [(qq a71 (.ld1 z5)), (qq a72 (.ldn 12 z16)), (ee a73 (.call 12 [z71, z72])), (qq a14 (.mv z73))])
def w4_23 := wu b4_23.eq_1
noncomputable def b4_24 : CC := (.reg [(qq a74 (.mv z14)), (qq a75 (.bi .neq z74 (x6 0)))])
def w4_24 := wu b4_24.eq_1
noncomputable def b4_25 : CC := (.reg [(qq a76 (.mv z15)), (qq a13 (.mv z76))])
def w4_25 := wu b4_25.eq_1
noncomputable def b4_26 : CC := (.cond z75 (.seq b4_25 (.exit 2)) .skip)
def w4_26 := wu b4_26.eq_1
noncomputable def b4_27 : CC := (.reg [(qq a77 (.bi .add z66 (x6 1))), (qq a66 (.mv z77))])
def w4_27 := wu b4_27.eq_1
noncomputable def b4_28 : CC := (.seq (.block 3 (.seq b4_22 (.seq b4_23 (.seq b4_24 b4_26)))) b4_27)
def w4_28 := wu b4_28.eq_1
noncomputable def b4_29 : CC := (.seq b4_19 (.block 2 (.loop (.seq b4_20 (.seq b4_21 b4_28)))))
def w4_29 := wu b4_29.eq_1
noncomputable def b4_30 : CC := (.reg [(qq a78 (.mv z14)), (qq a79 (.bi .eql z78 (x6 0))), (qq a80 (.mv z79)), ⟨(some a81), .q (.mv z0), (some (a80, true))⟩, ⟨(some a82), .q (.bi .neq z81 (.c (.s 0 0))), (some (a80, true))⟩, (qq a83 (.pk z80 z82 xF)), (qq a84 (.mv z83)), ⟨(some a85), .q (.mv z0), (some (a84, true))⟩, ⟨(some a86), .e (.call 13 [z85, (.c (.s 1 10))]), (some (a84, true))⟩, ⟨(some a87), .q (.un .not z86), (some (a84, true))⟩, (qq a88 (.pk z84 z87 xF))])
def w4_30 := wu b4_30.eq_1
noncomputable def b4_31 : CC := (.reg [(qq a89 (.ld1 z6)), (qq a90 (.ln .slice z89)), (qq a13 (.mv z90)), (qq a14 (.mv (x6 4)))])
def w4_31 := wu b4_31.eq_1
noncomputable def b4_32 : CC := (.seq b4_30 (.cond z88 b4_31 .skip))
def w4_32 := wu b4_32.eq_1
noncomputable def b4_33 : CC := (.reg [(qq a91 (.mv z14)), (qq a92 (.bi .neq z91 (x6 0)))])
def w4_33 := wu b4_33.eq_1
noncomputable def b4_34 : CC := (.reg [(qq a93 (.bld [.l0, .l0, .l0] [])), (qq a94 (.mv z13)), (qq a95 (.mv z14)), (ez (.st 3 z2 z93)), (qq a3 (.mv z94)), (qq a4 (.mv z95))])
def w4_34 := wu b4_34.eq_1
noncomputable def b4_35 : CC := (.cond z92 (.seq b4_34 .ret) .skip)
def w4_35 := wu b4_35.eq_1
noncomputable def b4_36 : CC := (.reg [(qq a96 (.ld1 z5)), (qq a97 (.nck z96)), (qq a98 (.fa 0 z97)), (qq a99 (.fa 1 z98)), (qq a100 (.ld1 z99)), (ee a101 (.call 14 [z100, (.c (.f 15 [] []))]))])
def w4_36 := wu b4_36.eq_1
noncomputable def b4_37 : CC := (.reg [(qq a102 (.ld1 z5)), (qq a103 (.nck z102)), (qq a104 (.fa 0 z103)), (qq a105 (.ldn 3 z104)), (ez (.st 3 z2 z105)), (qq a3 (.mv (x6 0))), (qq a4 (.mv (x6 0)))])
def w4_37 := wu b4_37.eq_1
noncomputable def b4_38 : CC := (.seq b4_32 (.seq (.seq b4_33 b4_35) (.seq b4_36 (.seq b4_37 .ret))))
def w4_38 := wu b4_38.eq_1
noncomputable def b4_39 : CC := (.seq (.seq b4_7 (.block 0 b4_17)) (.seq b4_18 (.seq .skip (.seq b4_29 b4_38))))
def w4_39 := wu b4_39.eq_1
noncomputable def b4_40 : CC := (.seq (.reg [(aa a6 (.al 40 [.l0]))]) (.seq b4_6 b4_39))
def w4_40 := wu b4_40.eq_1
noncomputable def b4_41 : CC := (.reg [(qq a64 (.ld1 z6)), (qq a65 (.ln .slice z64)), (qq a66 (.mv (x6 0)))])
def w4_41 := wu b4_41.eq_1
noncomputable def b4_42 : CC := (.reg [(qq a67 (.bi .lss z66 z65))])
def w4_42 := wu b4_42.eq_1
noncomputable def b4_43 : CC := (.cond z67 .skip (.exit 2))
def w4_43 := wu b4_43.eq_1
noncomputable def b4_44 : CC := (.reg [(qq a68 (.mv z66)), (qq a69 (.iaS 12 z64 z66)), (qq a70 (.ldn 12 z69)), (aa a16 (.al 48 [(.b false), (.b false), (.b false), (.b false), (.i .i64 0), (.i .i64 0), (.i .i64 0), (.i .i64 0), (.i .i64 0), (.s 0 0), (.s 0 0), .l0])), (qq a15 (.mv z68)), (ez (.st 12 z16 z70))])
def w4_44 := wu b4_44.eq_1
noncomputable def b4_45 : CC := (.reg [(qq a71 (.ld1 z5)), (qq a72 (.ldn 12 z16)), (ee a73 (.call 12 [z71, z72])), (qq a14 (.mv z73))])
def w4_45 := wu b4_45.eq_1
noncomputable def b4_46 : CC := (.reg [(qq a74 (.mv z14)), (qq a75 (.bi .neq z74 (x6 0)))])
def w4_46 := wu b4_46.eq_1
noncomputable def b4_47 : CC := (.reg [(qq a76 (.mv z15)), (qq a13 (.mv z76))])
def w4_47 := wu b4_47.eq_1
noncomputable def b4_48 : CC := (.cond z75 (.seq b4_47 (.exit 2)) .skip)
def w4_48 := wu b4_48.eq_1
noncomputable def b4_49 : CC := (.reg [(qq a77 (.bi .add z66 (x6 1))), (qq a66 (.mv z77))])
def w4_49 := wu b4_49.eq_1
noncomputable def b4_50 : CC := (.seq (.block 3 (.seq b4_44 (.seq b4_45 (.seq b4_46 b4_48)))) b4_49)
def w4_50 := wu b4_50.eq_1
noncomputable def b4_51 : CC := (.seq b4_41 (.block 2 (.loop (.seq b4_42 (.seq b4_43 b4_50)))))
def w4_51 := wu b4_51.eq_1
noncomputable def b4_52 : CC := (.reg [(qq a78 (.mv z14)), (qq a79 (.bi .eql z78 (x6 0))), (qq a80 (.mv z79)), ⟨(some a81), .q (.mv z0), (some (a80, true))⟩, ⟨(some a82), .q (.bi .neq z81 (.c (.s 0 0))), (some (a80, true))⟩, (qq a83 (.pk z80 z82 xF)), (qq a84 (.mv z83)), ⟨(some a85), .q (.mv z0), (some (a84, true))⟩, ⟨(some a86), .e (.call 13 [z85, (.c (.s 1 10))]), (some (a84, true))⟩, ⟨(some a87), .q (.un .not z86), (some (a84, true))⟩, (qq a88 (.pk z84 z87 xF))])
def w4_52 := wu b4_52.eq_1
noncomputable def b4_53 : CC := (.reg [(qq a89 (.ld1 z6)), (qq a90 (.ln .slice z89)), (qq a13 (.mv z90)), (qq a14 (.mv (x6 4)))])
def w4_53 := wu b4_53.eq_1
noncomputable def b4_54 : CC := (.seq b4_52 (.cond z88 b4_53 .skip))
def w4_54 := wu b4_54.eq_1
noncomputable def b4_55 : CC := (.reg [(qq a91 (.mv z14)), (qq a92 (.bi .neq z91 (x6 0)))])
def w4_55 := wu b4_55.eq_1
noncomputable def b4_56 : CC := (.reg [(qq a93 (.bld [.l0, .l0, .l0] [])), (qq a94 (.mv z13)), (qq a95 (.mv z14)), (ez (.st 3 z2 z93)), (qq a3 (.mv z94)), (qq a4 (.mv z95))])
def w4_56 := wu b4_56.eq_1
noncomputable def b4_57 : CC := (.cond z92 (.seq b4_56 .ret) .skip)
def w4_57 := wu b4_57.eq_1
noncomputable def b4_58 : CC := (.reg [(qq a96 (.ld1 z5)), (qq a97 (.nck z96)), (qq a98 (.fa 0 z97)), (qq a99 (.fa 1 z98)), (qq a100 (.ld1 z99)), (ee a101 (.call 14 [z100, (.c (.f 15 [] []))]))])
def w4_58 := wu b4_58.eq_1
noncomputable def b4_59 : CC := (.reg [(qq a102 (.ld1 z5)), (qq a103 (.nck z102)), (qq a104 (.fa 0 z103)), (qq a105 (.ldn 3 z104)), (ez (.st 3 z2 z105)), (qq a3 (.mv (x6 0))), (qq a4 (.mv (x6 0)))])
def w4_59 := wu b4_59.eq_1
noncomputable def b4_60 : CC := (.seq b4_54 (.seq (.seq b4_55 b4_57) (.seq b4_58 (.seq b4_59 .ret))))
def w4_60 := wu b4_60.eq_1
noncomputable def b4_61 : CC := (.scope (.seq b4_4 (.seq b4_5 b4_40)) (.tab 0 (.seq .skip (.seq b4_51 b4_60)) .skip))
def w4_61 := wu b4_61.eq_1
noncomputable def c4 : CF := .mk 7 [.cn a2 3, .t a3, .t a4] (.seq b4_1 b4_61)
theorem e4 (v0 : V) : argTr 7 [v0] = (.n sk6 (some v0) sk6) := rfl
def B4 := ai @e4 (ai @w4_1 (ai @w4_2 (ai @w4_3 (ai @w4_4 (ai @w4_5 (ai @w4_6 (ai @w4_7 (ai @w4_8 (ai @w4_9 (ai @w4_10 (ai @w4_11 (ai @w4_12 (ai @w4_13 (ai @w4_14 (ai @w4_15 (ai @w4_16 (ai @w4_17 (ai @w4_18 (ai @w4_19 (ai @w4_20 (ai @w4_21 (ai @w4_22 (ai @w4_23 (ai @w4_24 (ai @w4_25 (ai @w4_26 (ai @w4_27 (ai @w4_28 (ai @w4_29 (ai @w4_30 (ai @w4_31 (ai @w4_32 (ai @w4_33 (ai @w4_34 (ai @w4_35 (ai @w4_36 (ai @w4_37 (ai @w4_38 (ai @w4_39 (ai @w4_40 (ai @w4_41 (ai @w4_42 (ai @w4_43 (ai @w4_44 (ai @w4_45 (ai @w4_46 (ai @w4_47 (ai @w4_48 (ai @w4_49 (ai @w4_50 (ai @w4_51 (ai @w4_52 (ai @w4_53 (ai @w4_54 (ai @w4_55 (ai @w4_56 (ai @w4_57 (ai @w4_58 (ai @w4_59 (ai @w4_60 (@w4_61)))))))))))))))))))))))))))))))))))))))))))))))))))))))))))))
theorem over_end : ∀ (e a l : List V), e.length = l.length → over (a ++ l) a.length e = a ++ e
  | [], a, l, h => by rw [List.length_eq_zero_iff.1 h.symm]; rfl
  | v :: e, a, [], h => by cases h
  | v :: e, a, w :: l, h => by
    rw [over_cons]
    have := over_end e (a ++ [v]) l (by simpa using h)
    rw [List.length_append, List.length_singleton] at this
    rw [show (a ++ w :: l).set a.length v = (a ++ [v]) ++ l by simp, this]; simp
theorem over_full (l e : List V) (h : e.length = l.length) : over l 0 e = e := over_end e [] l h
theorem accOne {M : Mem} {c0 c b ty sz : Nat} {v : V} {es : List (List V)} (h : AccAt M c0 c b ty sz v es) : isOne v = true ∧ flatten v = [v] ∧ allOne [v] = true := by
  rcases h with ⟨_, ⟨_, rfl⟩ | ⟨_, _, rfl, _⟩⟩ <;> exact ⟨rfl, rfl, rfl⟩
structure P8 (F : RO) (M0 M : Mem) (c cS cc : Nat) (acc : V) (l : List (List UInt8)) : Prop where
  ok : Okm F M cc
  le : c + 7 ≤ cS ∧ cS ≤ cc
  old : ∀ x, x < c → M.get x = M0.get x
  r0 : M.get c = some (rowB 26 [.l0, .l0, .l0])
  m1 : M.get (c + 1) = some (.map (entL (.i .i64 0) l 0) l.length)
  m2 : M.get (c + 2) = some (.map [] 0)
  r3 : M.get (c + 3) = some (rowB 39 (row68 .l0 .l0 (c + 1) (c + 2)))
  r4 : M.get (c + 4) = some (rowB 35 [.p (c + 3) 0])
  r5 : M.get (c + 5) = some (rowB 40 [acc])
  r6 : M.get (c + 6) = some (rowB 3 [.i .i64 0])
  acs : ∃ b, AccAt M cS cc b 48 12 acc (l.map labE)
theorem body8 (Φ : Nat → Option CF) (h10 : Φ 10 = some c10) (h11 : Φ 11 = some c11) (h27 : Φ 27 = some c27) (h50 : Φ 50 = some c50) (h34 : Φ 34 = some c34) (h7' : Φ 7 = some (.orc (pureO h7))) {F : RO} {M0 M : Mem} {rd : Option Nat} {ds : List Nat} {c cS cc : Nat} {acc fv sv kv : V} {l : List (List UInt8)}
    (h : P8 F M0 M c cS cc acc l) {a : List UInt8} (ha : labelOk a = true) (hal : a ∉ l) (hxs : l.length ≤ 100000) (u : List (Option V)) (Q : Ex → St → Prop)
    (hQ : ∀ (t' : T) M' c' acc', P8 F M0 M' c cS c' acc' (l ++ [a]) → (∀ y, y < cS → y ≠ c + 1 → y ≠ c + 5 → y ≠ c + 6 → M'.get y = M.get y) → cc ≤ c' → Q .nrm (.mk t' ds M' c')) :
    Wp b4_16 (K Φ rd 4 F) (.mk ((.n (.n (.n (.n (uv7 u 63 31 95 15 79 47 111) (some (.p (c + 6) 0)) (uv7 u 71 39 103 23 87 55 119)) (some (.i .i64 0)) (.n (uv7 u 67 35 99 19 83 51 115) (uO u 11) (.n (uv3 u 75 43 107) (some (kv)) (uv3 u 91 59 123)))) (uO u 1) (.n (.n (uv7 u 65 33 97 17 81 49 113) (some (sV (a ++ [58]))) (uv7 u 73 41 105 25 89 57 121)) (some (.p (c + 4) 0)) (.n (uv7 u 69 37 101 21 85 53 117) (uO u 13) (uv7 u 77 45 109 29 93 61 125)))) (some (sv)) (.n (.n (.n (uv7 u 64 32 96 16 80 48 112) (uO u 8) (uv7 u 72 40 104 24 88 56 120)) (some (.i .i64 0)) (.n (uv7 u 68 36 100 20 84 52 116) (uO u 12) (.n (uv3 u 76 44 108) (some (sV (a ++ [58]))) (uv3 u 92 60 124)))) (some (.p c 0)) (.n (.n (uv7 u 66 34 98 18 82 50 114) (uO u 10) (.n (uv3 u 74 42 106) (some (fv)) (uv3 u 90 58 122))) (some (.p (c + 5) 0)) (.n (uv7 u 70 38 102 22 86 54 118) (uO u 14) (uv7 u 78 46 110 30 94 62 126)))))) ds M cc) Q := by
  obtain ⟨ok, ⟨le1, le2⟩, old, r0, m1, m2, r3, r4, r5, r6, ⟨ab, acs⟩⟩ := h
  obtain ⟨hal1, _, _⟩ := lab_facts ha
  have hne : a ≠ [] := by intro e; rw [e] at hal1; exact absurd hal1 (by decide)
  simp only [WX, B4]
  refine putE_to ((r10l Φ h10 h27 h50 h34 h7' ok a ha).mono ?_)
  rintro r M1 c1 ⟨rfl, hg⟩
  have n1 : (labE a).length = 12 := rfl
  have n2 : allOne (labE a) = true := rfl
  have n3 : (labE a)[9]? = some (sV a) := rfl
  have gle := hg.le
  have ok1 := hg.ok ok
  have ov : over [V.b false, .b false, .b false, .b false, .i .i64 0, .i .i64 0, .i .i64 0, .i .i64 0, .i .i64 0, .s 0 0, .s 0 0, .l0] 0 (labE a) = labE a := over_full _ _ n1
  have st0 := store_row (get_same M1 c1 row74) 0 (labE a) (by show 0 + (labE a).length ≤ 12; omega) n2
  rw [ov] at st0
  unfold row74 at st0
  simp only [WX, n1, st0]
  have gN : Gr c1 M1 (c1 + 1) ((M1.set c1 row74).set c1 (rowB 48 (labE a))) := ((Gr.refl ok1).set c1 row74 (Nat.le_refl _) (Nat.lt_succ_self _) (Nat.le_succ _)).set c1 (rowB 48 (labE a)) (Nat.le_refl _) (Nat.lt_succ_self _) (Nat.le_refl _)
  have nA : ((M1.set c1 row74).set c1 (rowB 48 (labE a))).get c1 = some (rowB 48 (labE a)) := get_same _ _ _
  unfold row74 at gN nA
  generalize (M1.set c1 (rowB 48 [V.b false, .b false, .b false, .b false, .i .i64 0, .i .i64 0, .i .i64 0, .i .i64 0, .i .i64 0, .s 0 0, .s 0 0, .l0])).set c1 (rowB 48 (labE a)) = N at gN nA ⊢
  have gT := hg.trans gN
  have k4 := load_row (F := F) ((gT.old (c + 4) (by omega)).trans r4) 0
  have k3 := load_row (F := F) ((gT.old (c + 3) (by omega)).trans r3) 3
  rw [show (row68 .l0 .l0 (c + 1) (c + 2))[3]? = some (.m (c + 1)) from rfl] at k3
  have k6 := load_row (F := F) ((gT.old (c + 6) (by omega)).trans r6) 0
  have kA := load_row (F := F) nA 9
  rw [n3] at kA
  have km1 := (gT.old (c + 1) (by omega)).trans m1
  have q1 := lkQ_n (F := F) .str (.i .i64 0) true (sV a) km1 (findK_ent _ a _ _ _ hal)
  have sn := sne hne
  have qm := muE_n (c := c1 + 1 + 12 + 8) (.i .i64 0) km1 (findK_ent _ a _ _ _ hal)
  have es := entL_snoc (.i .i64 0) a l 0
  rw [Nat.zero_add] at es
  rw [es, show l.length + 1 = (l ++ [a]).length by simp] at qm
  have g21 : Gr c1 M1 (c1 + 1 + 12 + 8) N := gN.up (by omega)
  have okN := g21.ok ok1
  have okN' := okN.put (y := .map (entL (.i .i64 0) (l ++ [a]) 0) (l ++ [a]).length) (by omega) km1
  have hfr := okN'.free
  simp only [WX, Nat.reducePow, Nat.reduceDiv, Nat.reduceMod, Nat.reduceBEq, Nat.reduceAdd, wd_e1, w4_10, w4_11, w4_12, w4_13, dq_nck, nckV_p, k4, k3, kA, q1, dq_lk0, sn, k6, x_mu_eq, qm, hfr]
  have oN : ∀ y, y < cc → y ≠ c + 1 → (N.set (c + 1) (.map (entL (.i .i64 0) (l ++ [a]) 0) (l ++ [a]).length)).get y = M.get y := fun y y1 y2 => (get_ne _ _ y2).trans (gT.old y y1)
  have oN' : ∀ y, cc ≤ y → y < c1 → (N.set (c + 1) (.map (entL (.i .i64 0) (l ++ [a]) 0) (l ++ [a]).length)).get y = M1.get y := fun y y1 y2 => (get_ne _ _ (by omega)).trans (gN.old y y2)
  have nA' : (N.set (c + 1) (.map (entL (.i .i64 0) (l ++ [a]) 0) (l ++ [a]).length)).get c1 = some (rowB 48 (labE a)) := (get_ne _ _ (by omega)).trans nA
  have nm1 := get_same N (c + 1) (.map (entL (.i .i64 0) (l ++ [a]) 0) (l ++ [a]).length)
  generalize N.set (c + 1) (.map (entL (.i .i64 0) (l ++ [a]) 0) (l ++ [a]).length) = N2 at okN' hfr oN oN' nA' nm1 ⊢
  have k6' := load_row (F := F) ((oN (c + 6) (by omega) (by omega)).trans r6) 0
  have kn' := loadN_row (F := F) nA' 12 n1
  have okW : Okm F N2 (c1 + 21 + 6) := ⟨fun y hy => okN'.hiM y (by omega), fun y hy => okN'.hiF y (by omega), okN'.ap, by have := okN'.ge; omega⟩
  simp only [WX, Nat.reduceAdd, w4_14, k6', kn']
  refine wd_ef _ _ _ _ _ _ _ _ _ _ _ okW ?_
  intro F1 N1 okn hlk
  refine (show RTo (callC (den Φ) F1 11 [.g (labE a), .i .i64 0] N1 _ (Φ 11)) _ from (r11l Φ h11 okn a (.i .i64 0)).mono ?_)
  rintro v M2 c3 ⟨rfl, g2⟩
  refine ⟨g2, fun M3 g3 _ => ?_⟩
  have q8 : biV .add (.i .i64 0) (.i .i64 0) = some (.i .i64 0) := i64_add 0 0 (by omega) (by omega)
  have ok3 := g3.ok okW
  have g3l := g3.le
  have b6 := (g3.old (c + 6) (by omega)).trans ((oN (c + 6) (by omega) (by omega)).trans r6)
  have st1 := store_row b6 0 [.i .i64 0] (by simp) rfl
  rw [show over [V.i .i64 0] 0 [.i .i64 0] = [.i .i64 0] from rfl] at st1
  have ok4 := ok3.put (y := rowB 3 [.i .i64 0]) (by omega) b6
  have hfr4 := ok4.free
  simp only [WX, Nat.reducePow, Nat.reduceDiv, Nat.reduceMod, Nat.reduceBEq, wd_e1, q8, st1, hfr4]
  have oM : ∀ y, y < cc → y ≠ c + 1 → y ≠ c + 6 → (M3.set (c + 6) (rowB 3 [V.i .i64 0])).get y = M.get y := fun y y1 y2 y3 => (get_ne _ _ y3).trans ((g3.old y (by omega)).trans (oN y y1 y2))
  have mA : (M3.set (c + 6) (rowB 3 [V.i .i64 0])).get c1 = some (rowB 48 (labE a)) := (get_ne _ _ (by omega)).trans ((g3.old c1 (by omega)).trans nA')
  have mm1 : (M3.set (c + 6) (rowB 3 [V.i .i64 0])).get (c + 1) = some (.map (entL (.i .i64 0) (l ++ [a]) 0) (l ++ [a]).length) := (get_ne _ _ (by omega)).trans ((g3.old (c + 1) (by omega)).trans nm1)
  have m6 : (M3.set (c + 6) (rowB 3 [V.i .i64 0])).get (c + 6) = some (rowB 3 [V.i .i64 0]) := get_same _ _ _
  generalize M3.set (c + 6) (rowB 3 [V.i .i64 0]) = M4 at ok4 hfr4 oM mA mm1 m6 ⊢
  have b5 := (oM (c + 5) (by omega) (by omega) (by omega)).trans r5
  have l5 := load_row (F := F) b5 0
  rw [show ([acc] : List V)[0]? = some acc from rfl] at l5
  have lA := loadN_row (F := F) mA 12 n1
  obtain ⟨z1, z2, z3⟩ := accOne acs
  have fS : flatten (V.g (labE a)) = labE a := rfl
  simp only [WX, B4, l5, lA, n1, n2]
  have g5 : Gr c3 M4 (c3 + 1) (M4.set c3 (rowD [.b false, .b false, .b false, .b false, .i .i64 0, .i .i64 0, .i .i64 0, .i .i64 0, .i .i64 0, .s 0 0, .s 0 0, .l0] 48 (labE a))) := (Gr.refl ok4).set c3 _ (Nat.le_refl _) (Nat.lt_succ_self _) (Nat.le_succ _)
  have hy : SlAt F (M4.set c3 (rowD [.b false, .b false, .b false, .b false, .i .i64 0, .i .i64 0, .i .i64 0, .i .i64 0, .i .i64 0, .s 0 0, .s 0 0, .l0] 48 (labE a))) (c3 + 1) 12 (.l c3 0 1 1) [labE a] :=
    slD (d := [.b false, .b false, .b false, .b false, .i .i64 0, .i .i64 0, .i .i64 0, .i .i64 0, .i .i64 0, .s 0 0, .s 0 0, .l0]) (ty := 48) (by rw [get_same]; simp) (by omega) (fun e he => by rw [List.mem_singleton] at he; subst he; exact n1) rfl
  have hll : (l.map labE).length = l.length := List.length_map _
  have acs5 := acs.keep (M' := M4.set c3 (rowD [.b false, .b false, .b false, .b false, .i .i64 0, .i .i64 0, .i .i64 0, .i .i64 0, .i .i64 0, .s 0 0, .s 0 0, .l0] 48 (labE a))) (c' := c3 + 1) (by omega) fun x x1 x2 => (g5.old x (by omega)).trans (oM x x2 (by omega) (by omega))
  refine putE_to ((accPush (c0 := cS) (bytes := 104) acs5 (g5.ok ok4) (by omega) (by decide) hy n2 (room_of (by rw [hll, List.length_singleton]; omega) (by rw [hll, List.length_singleton]; omega))).mono ?_)
  rintro v' M6 c6 ⟨b', hA, ok6, hle6, f1⟩
  obtain ⟨w1, w2, w3⟩ := accOne hA
  have lo6 : ∀ y, y < cS → y ≠ c + 1 → y ≠ c + 6 → M6.get y = M.get y := fun y y1 y2 y3 => (f1 y y1).trans ((g5.old y (by omega)).trans (oM y (by omega) y2 y3))
  have b36 := (lo6 (c + 5) (by omega) (by omega) (by omega)).trans r5
  have st5 := store_row b36 0 [v'] (by simp) w3
  rw [show over [acc] 0 [v'] = [v'] from rfl] at st5
  simp only [WX, w2, st5]
  refine hQ _ _ _ v' ⟨ok6.put (by omega) b36, ⟨le1, by omega⟩, fun y hy => ?_, ?_, ?_, ?_, ?_, ?_, get_same _ _ _, ?_, ⟨b', ?_⟩⟩ (fun y y1 y2 y3 y4 => (get_ne _ _ y3).trans (lo6 y y1 y2 y4)) (by omega)
  · rw [get_ne _ _ (by omega), lo6 y (by omega) (by omega) (by omega), old y hy]
  · rw [get_ne _ _ (by omega), lo6 _ (by omega) (by omega) (by omega), r0]
  · rw [get_ne _ _ (by omega), f1 _ (by omega), g5.old _ (by omega)]; exact mm1
  · rw [get_ne _ _ (by omega), lo6 _ (by omega) (by omega) (by omega), m2]
  · rw [get_ne _ _ (by omega), lo6 _ (by omega) (by omega) (by omega), r3]
  · rw [get_ne _ _ (by omega), lo6 _ (by omega) (by omega) (by omega), r4]
  · rw [get_ne _ _ (by omega), f1 _ (by omega), g5.old _ (by omega)]; exact m6
  · have := hA.keep (M' := M6.set (c + 5) (rowB 40 [v'])) (Nat.le_refl _) fun y y1 y2 => get_ne _ _ (by omega)
    rw [List.map_append]; exact this
end Go.Proofs.YtaigcmdogapjgaaGreatDoor.Ev
