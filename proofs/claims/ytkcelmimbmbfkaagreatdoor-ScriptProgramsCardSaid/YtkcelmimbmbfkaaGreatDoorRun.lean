/- What is proved here: the closed run of the function known, which the law calls, comes to true. No conditions. -/
import Derived.Test.YtkcelmimbmbfkaaGreatDoorCode0
import Derived.Test.YtkcelmimbmbfkaaGreatDoorCode1
import Derived.KernelRfl
set_option maxRecDepth 100000
namespace Go.Proofs.YtkcelmimbmbfkaaGreatDoor
open Go Ev
noncomputable def phi : Tr CF := (.n (.n (.n (.n (.n (.n (.n (.n .e (some bD7) .e) (some c63) .e) (some c31) (.n .e (some c95) .e)) (some c15) (.n (.n (.n .e (some YC) .e) (some c79) .e) (some c47) (.n .e (some bC6) .e))) (some c7) (.n (.n (.n (.n .e (some bE0) .e) (some c71) .e) (some c39) (.n .e (some bC3) .e)) (some c23) (.n (.n (.n .e (some bF3) .e) (some c87) .e) (some c55) (.n .e (some kQ) .e)))) (some c3) (.n (.n (.n (.n (.n .e (some bD9) .e) (some c67) .e) (some c35) (.n .e (some c99) .e)) (some c19) (.n (.n (.n .e (some bE8) .e) (some c83) .e) (some Y0) (.n .e (some bC8) .e))) (some c11) (.n (.n (.n (.n .e (some bE3) .e) (some c75) .e) (some c43) (.n .e (some Yw) .e)) (some c27) (.n (.n .e (some c91) .e) (some c59) (.n .e (some bD3) .e))))) none (.n (.n (.n (.n (.n .e (some c65) .e) (some c33) (.n .e (some c97) .e)) (some c17) (.n (.n (.n .e (some YE) .e) (some Ug) .e) (some c49) (.n .e (some jS) .e))) (some c9) (.n (.n (.n (.n .e (some bE1) .e) (some c73) .e) (some c41) (.n .e (some bC5) .e)) (some c25) (.n (.n .e (some xe) .e) (some c57) (.n .e (some bD1) .e)))) (some c5) (.n (.n (.n (.n (.n .e (some YA) .e) (some c69) .e) (some c37) (.n .e (some bC1) .e)) (some c21) (.n (.n (.n .e (some bF0) .e) (some wD) .e) (some c53) (.n .e (some bD0) .e))) (some c13) (.n (.n (.n .e (some c77) .e) (some YG) .e) (some c29) (.n (.n .e (some c93) .e) (some Y1) (.n .e (some bD5) .e)))))) none (.n (.n (.n (.n (.n (.n (.n .e (some Yy) .e) (some c64) .e) (some c32) (.n .e (some c96) .e)) (some c16) (.n (.n (.n .e (some YD) .e) (some c80) .e) (some c48) (.n .e (some jR) .e))) (some c8) (.n (.n (.n (.n .e (some YB) .e) (some c72) .e) (some c40) (.n .e (some bC4) .e)) (some c24) (.n (.n (.n .e (some bF4) .e) (some c88) .e) (some c56) (.n .e (some Jy) .e)))) (some c4) (.n (.n (.n (.n (.n .e (some Yz) .e) (some c68) .e) (some c36) (.n .e (some bC0) .e)) (some c20) (.n (.n (.n .e (some bE9) .e) (some tI) .e) (some yR) (.n .e (some bC9) .e))) (some c12) (.n (.n (.n (.n .e (some bE5) .e) (some c76) .e) (some YF) .e) (some c28) (.n (.n .e (some c92) .e) (some c60) (.n .e (some bD4) .e))))) none (.n (.n (.n (.n (.n (.n .e (some bD8) .e) (some c66) .e) (some c34) (.n .e (some c98) .e)) (some c18) (.n (.n (.n .e (some bE7) .e) (some c82) .e) (some Uf) (.n .e (some bC7) .e))) (some c10) (.n (.n (.n (.n .e (some bE2) .e) (some c74) .e) (some c42) (.n .e (some Yv) .e)) (some c26) (.n (.n .e (some c90) .e) (some c58) (.n .e (some bD2) .e)))) (some c6) (.n (.n (.n (.n (.n .e (some tH) .e) (some c70) .e) (some c38) (.n .e (some bC2) .e)) (some c22) (.n (.n (.n .e (some bF2) .e) (some c86) .e) (some c54) .e)) (some c14) (.n (.n (.n (.n .e (some bE6) .e) (some c78) .e) (some c46) (.n .e (some Yx) .e)) (some c30) (.n (.n .e (some c94) .e) (some c62) (.n .e (some bD6) .e)))))))
theorem aa0 : qi (cd Tryz.prog) phi := ⟨trivial, ⟨trivial, ⟨Ke, ⟨ok7, ⟨co6, ⟨cq2, ⟨ct6, ⟨bR6, trivial, trivial⟩, trivial⟩, ⟨cw9, trivial, trivial⟩⟩, ⟨cr8, ⟨cv3, ⟨bT0, trivial, trivial⟩, trivial⟩, ⟨bQ1, trivial, trivial⟩⟩⟩, ⟨cp4, ⟨cr0, ⟨cu5, ⟨bS3, trivial, trivial⟩, trivial⟩, ⟨bP5, trivial, trivial⟩⟩, ⟨cs6, ⟨cw1, ⟨bT8, trivial, trivial⟩, trivial⟩, ⟨bQ8, trivial, trivial⟩⟩⟩⟩, ⟨co2, ⟨cp0, ⟨cq6, ⟨cu0, ⟨bR9, trivial, trivial⟩, trivial⟩, ⟨cx3, trivial, trivial⟩⟩, ⟨cs2, ⟨cv7, ⟨bT4, trivial, trivial⟩, trivial⟩, ⟨bQ5, trivial, trivial⟩⟩⟩, ⟨cp8, ⟨cr4, ⟨cu9, ⟨bS7, trivial, trivial⟩, trivial⟩, ⟨bP9, trivial, trivial⟩⟩, ⟨ct0, ⟨cw5, trivial, trivial⟩, ⟨bR2, trivial, trivial⟩⟩⟩⟩⟩, ⟨Y2, ⟨ok9, ⟨co8, ⟨cq4, ⟨ct8, trivial, trivial⟩, ⟨cx1, trivial, trivial⟩⟩, ⟨cs0, ⟨cv5, ⟨bT2, trivial, trivial⟩, trivial⟩, ⟨bQ3, trivial, trivial⟩⟩⟩, ⟨cp6, ⟨cr2, ⟨cu7, ⟨bS5, trivial, trivial⟩, trivial⟩, ⟨bP7, trivial, trivial⟩⟩, ⟨cs8, ⟨cw3, trivial, trivial⟩, ⟨bR0, trivial, trivial⟩⟩⟩⟩, ⟨co4, ⟨cp2, ⟨cq8, ⟨cu2, ⟨bS1, trivial, trivial⟩, trivial⟩, ⟨bP3, trivial, trivial⟩⟩, ⟨cs4, ⟨cv9, ⟨bT6, trivial, trivial⟩, trivial⟩, ⟨bQ7, trivial, trivial⟩⟩⟩, ⟨cq0, ⟨cr6, ⟨cv1, trivial, trivial⟩, trivial⟩, ⟨ct4, ⟨cw7, trivial, trivial⟩, ⟨bR4, trivial, trivial⟩⟩⟩⟩⟩⟩, ⟨trivial, ⟨ok4, ⟨ok8, ⟨co7, ⟨cq3, ⟨ct7, ⟨bR7, trivial, trivial⟩, trivial⟩, ⟨cx0, trivial, trivial⟩⟩, ⟨cr9, ⟨cv4, ⟨bT1, trivial, trivial⟩, trivial⟩, ⟨bQ2, trivial, trivial⟩⟩⟩, ⟨cp5, ⟨cr1, ⟨cu6, ⟨bS4, trivial, trivial⟩, trivial⟩, ⟨bP6, trivial, trivial⟩⟩, ⟨cs7, ⟨cw2, ⟨bT9, trivial, trivial⟩, trivial⟩, ⟨bQ9, trivial, trivial⟩⟩⟩⟩, ⟨co3, ⟨cp1, ⟨cq7, ⟨cu1, ⟨bS0, trivial, trivial⟩, trivial⟩, ⟨bP2, trivial, trivial⟩⟩, ⟨cs3, ⟨cv8, ⟨bT5, trivial, trivial⟩, trivial⟩, ⟨bQ6, trivial, trivial⟩⟩⟩, ⟨cp9, ⟨cr5, ⟨cv0, ⟨bS8, trivial, trivial⟩, trivial⟩, trivial⟩, ⟨ct3, ⟨cw6, trivial, trivial⟩, ⟨bR3, trivial, trivial⟩⟩⟩⟩⟩, ⟨ok6, ⟨co1, ⟨co9, ⟨cq5, ⟨ct9, ⟨bR8, trivial, trivial⟩, trivial⟩, ⟨cx2, trivial, trivial⟩⟩, ⟨cs1, ⟨cv6, ⟨bT3, trivial, trivial⟩, trivial⟩, ⟨bQ4, trivial, trivial⟩⟩⟩, ⟨cp7, ⟨cr3, ⟨cu8, ⟨bS6, trivial, trivial⟩, trivial⟩, ⟨bP8, trivial, trivial⟩⟩, ⟨cs9, ⟨cw4, trivial, trivial⟩, ⟨bR1, trivial, trivial⟩⟩⟩⟩, ⟨co5, ⟨cp3, ⟨cq9, ⟨cu4, ⟨bS2, trivial, trivial⟩, trivial⟩, ⟨bP4, trivial, trivial⟩⟩, ⟨cs5, ⟨cw0, ⟨bT7, trivial, trivial⟩, trivial⟩, trivial⟩⟩, ⟨cq1, ⟨cr7, ⟨cv2, ⟨bS9, trivial, trivial⟩, trivial⟩, ⟨bQ0, trivial, trivial⟩⟩, ⟨ct5, ⟨cw8, trivial, trivial⟩, ⟨bR5, trivial, trivial⟩⟩⟩⟩⟩⟩⟩
theorem VG : eC Tryz.prog (fun k => phi.get k) := VF aa0
noncomputable def mB : List gF := [(7, .u8, [(.ofNat 0), (.ofNat 1), (.ofNat 28), (.ofNat 2), (.ofNat 29), (.ofNat 14), (.ofNat 24), (.ofNat 3), (.ofNat 30), (.ofNat 22), (.ofNat 20), (.ofNat 15), (.ofNat 25), (.ofNat 17), (.ofNat 4), (.ofNat 8), (.ofNat 31), (.ofNat 27), (.ofNat 13), (.ofNat 23), (.ofNat 21), (.ofNat 19), (.ofNat 16), (.ofNat 7), (.ofNat 26), (.ofNat 12), (.ofNat 18), (.ofNat 6), (.ofNat 11), (.ofNat 5), (.ofNat 10), (.ofNat 9)]), (8, .u8, [(.ofNat 0), (.ofNat 1), (.ofNat 56), (.ofNat 2), (.ofNat 57), (.ofNat 49), (.ofNat 28), (.ofNat 3), (.ofNat 61), (.ofNat 58), (.ofNat 42), (.ofNat 50), (.ofNat 38), (.ofNat 29), (.ofNat 17), (.ofNat 4), (.ofNat 62), (.ofNat 47), (.ofNat 59), (.ofNat 36), (.ofNat 45), (.ofNat 43), (.ofNat 51), (.ofNat 22), (.ofNat 53), (.ofNat 39), (.ofNat 33), (.ofNat 30), (.ofNat 24), (.ofNat 18), (.ofNat 12), (.ofNat 5), (.ofNat 63), (.ofNat 55), (.ofNat 48), (.ofNat 27), (.ofNat 60), (.ofNat 41), (.ofNat 37), (.ofNat 16), (.ofNat 46), (.ofNat 35), (.ofNat 44), (.ofNat 21), (.ofNat 52), (.ofNat 32), (.ofNat 23), (.ofNat 11), (.ofNat 54), (.ofNat 26), (.ofNat 40), (.ofNat 15), (.ofNat 34), (.ofNat 20), (.ofNat 31), (.ofNat 10), (.ofNat 25), (.ofNat 14), (.ofNat 19), (.ofNat 9), (.ofNat 13), (.ofNat 8), (.ofNat 7), (.ofNat 6)]), (4, .u64, [(.ofNat 1), (.ofNat 10), (.ofNat 100), (.ofNat 1000), (.ofNat 10000), (.ofNat 100000), (.ofNat 1000000), (.ofNat 10000000), (.ofNat 100000000), (.ofNat 1000000000), (.ofNat 10000000000), (.ofNat 100000000000), (.ofNat 1000000000000), (.ofNat 10000000000000), (.ofNat 100000000000000), (.ofNat 1000000000000000), (.ofNat 10000000000000000), (.ofNat 100000000000000000), (.ofNat 1000000000000000000), (.ofNat 10000000000000000000)])]
def rho : Go.Shelf.Ren := ⟨fun x => match x with | 146 => 19 | 221 => 49 | 268 => 86 | 138 => 87 | 143 => 88 | 195 => 116 | 197 => 117 | 218 => 118 | 219 => 106 | 260 => 138 | 217 => 128 | 225 => 129 | 224 => 130 | 267 => 131 | 266 => 141 | 314 => 142 | n => n, fun x => match x with | 9 => 9 | 31 => 53 | 3 => 3 | 4 => 4 | 0 => 0 | 105 => 177 | 21 => 21 | 5 => 5 | 46 => 109 | 119 => 212 | 139 => 215 | 138 => 214 | 146 => 203 | 51 => 73 | n => n, fun x => match x with | 1 => 0 | 3 => 5 | 4 => 6 | n => n⟩
theorem Zz : Go.Proofs.Lays.n146 Tryz.prog rho := ⟨by kernel_rfl,
  Tryz.func87.trans (congrArg some (by kernel_rfl)),
  Tryz.func88.trans (congrArg some (by kernel_rfl)),
  Tryz.func19.trans (congrArg some (by kernel_rfl)),
  Tryz.func116.trans (congrArg some (by kernel_rfl)),
  Tryz.func117.trans (congrArg some (by kernel_rfl)),
  Tryz.func128.trans (congrArg some (by kernel_rfl)),
  Tryz.func118.trans (congrArg some (by kernel_rfl)),
  Tryz.func106.trans (congrArg some (by kernel_rfl)),
  Tryz.func49.trans (congrArg some (by kernel_rfl)),
  Tryz.func130.trans (congrArg some (by kernel_rfl)),
  Tryz.func129.trans (congrArg some (by kernel_rfl)),
  Tryz.func138.trans (congrArg some (by kernel_rfl)),
  Tryz.func141.trans (congrArg some (by kernel_rfl)),
  Tryz.func131.trans (congrArg some (by kernel_rfl)),
  Tryz.func86.trans (congrArg some (by kernel_rfl)),
  Tryz.func142.trans (congrArg some (by kernel_rfl)),
  Tryz.underlying0,
  Tryz.isAgg0,
  Tryz.sizeOf0,
  Tryz.zeroValue0,
  Tryz.underlying3,
  Tryz.isAgg3,
  Tryz.sizeOf3,
  Tryz.zeroValue3,
  Tryz.underlying4,
  Tryz.isAgg4,
  Tryz.sizeOf4,
  Tryz.zeroValue4,
  Tryz.underlying5,
  Tryz.isAgg5,
  Tryz.sizeOf5,
  Tryz.zeroValue5,
  Tryz.underlying9,
  Tryz.isAgg9,
  Tryz.sizeOf9,
  Tryz.zeroValue9,
  Tryz.underlying21,
  Tryz.isAgg21,
  Tryz.sizeOf21,
  Tryz.zeroValue21,
  Tryz.underlying53,
  Tryz.isAgg53,
  Tryz.sizeOf53,
  Tryz.zeroValue53,
  Tryz.underlying109,
  Tryz.isAgg109,
  Tryz.sizeOf109,
  Tryz.zeroValue109,
  Tryz.underlying73,
  Tryz.isAgg73,
  Tryz.sizeOf73,
  Tryz.zeroValue73,
  Tryz.underlying177,
  Tryz.isAgg177,
  Tryz.sizeOf177,
  Tryz.zeroValue177,
  Tryz.underlying212,
  Tryz.isAgg212,
  Tryz.sizeOf212,
  Tryz.underlying214,
  Tryz.isAgg214,
  Tryz.sizeOf214,
  Tryz.zeroValue214,
  Tryz.underlying215,
  Tryz.isAgg215,
  Tryz.sizeOf215,
  Tryz.zeroValue215,
  Tryz.underlying203,
  Tryz.isAgg203,
  Tryz.sizeOf203,
  Tryz.zeroValue203,
  by kernel_rfl,
  by kernel_rfl,
  by kernel_rfl⟩
theorem BG : bg Tryz.prog 19 (pX 9 0) := Ki Zz (by kernel_rfl) rfl rfl rfl (by decide) Tryz.func19 (by kernel_rfl) (by kernel_rfl)
noncomputable def phs : Nat → Option CF := kM (fun k => phi.get k) 19 (.orc (pX 9 0))
theorem bh9 : eC Tryz.prog phs := bH VG BG
theorem ran : ∀ ty q tm z, isT (bV9 phs 1000000 ((0, vF tm z) :: vd (mA mB ty) q [1, 2] 1000) 4 1002) = true := fun ty q tm z => by kernel_rfl
end Go.Proofs.YtkcelmimbmbfkaaGreatDoor
