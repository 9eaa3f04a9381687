/- What is defined here: the law, cut. No conditions. -/
import Derived.Test.YtakeaojhkcbheaaGreatDoorSbD
import Derived.KernelRfl
set_option maxRecDepth 100000
namespace Go.Proofs.YtakeaojhkcbheaaGreatDoor
open Go Ev
noncomputable section
def fL (ty : Nat → Nat) (q : Nat → Nat × Nat × Nat) (tm : Nat) (z : Int) : RO := (0, maxBlk tm z) :: errF (tabF tabs ty) q [1, 2] 1000
def wl_s : Ws := ⟨argTr 9 [], [], 1002, []⟩
def cs (a b : Ws) (e : Ex) : Cv := ⟨a.c, a.t, a.ks, a.m, e, b.t, b.ks, b.m, b.c⟩
def bdy : CF → CC | .mk _ _ b => b | .orc _ => .skip
def sfx (k : Nat) (c : CC) : CC := match lsuf k c with | some y => y | none => .skip
def bL : CC := bdy c3
def bLb : CC := sfx 12 bL
def bLc : CC := sfx 0 bLb
def bLd : CC := sfx 4 bLc
def lpA : CC → CC | .seq (.seq a _) _ => a | _ => .skip
def lpB : CC → CC | .seq (.seq _ (.block _ (.loop b))) _ => b | _ => .skip
def opsD : CC → List CO | .seq (.reg (_ :: _ :: l)) _ => l | _ => []
def rstD : CC → CC | .seq _ r => r | _ => .skip
def phF : Nat → Option CF := upd phE 15 (.orc (knownX tabs [1, 2]))
end
end Go.Proofs.YtakeaojhkcbheaaGreatDoor
