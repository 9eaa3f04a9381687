/- What is proved here: nothing of the program; it defines an evaluator of compact code over abstract memory, and the compiler into that code. No conditions. -/
import GoSem.Step
import Derived.Calls
import Derived.Laws.Cells
import Derived.Laws.Strings
import Derived.Laws.BytesArg
import Derived.Laws.IdiomStrings
set_option linter.unusedSimpArgs false
set_option linter.unusedVariables false
set_option linter.defProp false
namespace Go.Proofs.YtdnddpmjnlagfaaGreatDoor.Ev
open Go
noncomputable section
noncomputable section
def ag:=@decide_eq_false
def af:=@Option.some.inj
def ae:=@decide_eq_true
def ah:=@Nat.le_refl
def aL:=@Nat.lt_succ_self
def aX:=@List.length_cons
def aR:=@Option.bind_eq_some_iff
def bw:=@List.length_append
def b9:=@Option.map_eq_some_iff
def gf:=@List.append_assoc
def ab:=@if_neg
def ac:=@if_pos
def bT:=@Nat.add_zero
def bU:=@List.length_nil
def aI:=@Result.andThen_ok
def bm:=@Option.isSome_iff_exists
def eN:=@List.drop_eq_getElem_cons
def aD:=@Bool.and_eq_true
def aF:=@Nat.zero_le
def bz:=@List.mem_cons_of_mem
def aS:=@Bool.false_eq_true
def bP:=@List.length_drop
def aA:=@Sem.run_pure
def aP:=@Nat.le_succ
def aE:=@Sem.run_bind
def cL:=@List.append_nil
def bj:=@List.mem_cons
def bK:=@List.mem_cons_self
def bn:=@Nat.le_trans
def bc:=@of_decide_eq_true
def uM:=@List.drop_length
inductive Tr(α:Type) where
 |e:Tr α
 |n (l:Tr α) (v:Option α) (r:Tr α):Tr α
def Tr.get{α:Type}(t:Tr α):Nat→Option α:=
 Tr.rec (motive:=fun _=>Nat→Option α) (fun _=>none)
  (fun _ v _ gl gr k=>Bool.rec (Bool.rec (gl (Nat.div k 2)) (gr (Nat.sub (Nat.div k 2) 1)) (Nat.beq (Nat.mod k 2) 0)) v (Nat.beq k 0)) t
def Tr.force{α β:Type}(t:Tr α)(f:Tr α→β):β:=
 Tr.rec (motive:=fun _=>β) (f .e) (fun l v r _ _=>f (.n l v r)) t
def Tr.single{α:Type}(v:Option α)(fuel:Nat):Nat→Tr α:=
 Nat.rec (motive:=fun _=>Nat→Tr α) (fun _=> .n .e v .e)
  (fun _ ih k=>Bool.rec (Bool.rec ((ih (Nat.div k 2)).force fun t=> .n t none .e) ((ih (Nat.sub (Nat.div k 2) 1)).force fun t=> .n .e none t) (Nat.beq (Nat.mod k 2) 0)) (.n .e v .e) (Nat.beq k 0)) fuel
def Tr.put{α:Type}(v:Option α)(t:Tr α):Nat→Tr α:=
 Tr.rec (motive:=fun _=>Nat→Tr α) (fun k=>Tr.single v (Nat.succ (Nat.log2 k)) k)
  (fun l x r sl sr k=>Bool.rec (Bool.rec ((sl (Nat.div k 2)).force fun t=> .n t x r) ((sr (Nat.sub (Nat.div k 2) 1)).force fun t=> .n l x t) (Nat.beq (Nat.mod k 2) 0)) (.n l v r) (Nat.beq k 0)) t
def Tr.set{α:Type}(t:Tr α)(k:Nat)(v:α):Tr α:=Tr.put (some v) t k
def Tr.del{α:Type}(t:Tr α)(k:Nat):Tr α:=Tr.put none t k
inductive aH where
 |h:aH
 |l (p:aH):aH
 |r (p:aH):aH
def Tr.left{α:Type}(t:Tr α):Tr α:=Tr.rec (motive:=fun _=>Tr α) .e (fun l _ _ _ _=>l) t
def Tr.right{α:Type}(t:Tr α):Tr α:=Tr.rec (motive:=fun _=>Tr α) .e (fun _ _ r _ _=>r) t
def Tr.val{α:Type}(t:Tr α):Option α:=Tr.rec (motive:=fun _=>Option α) none (fun _ v _ _ _=>v) t
def Tr.getP{α:Type}(t:Tr α)(p:aH):Option α:=
 aH.rec (motive:=fun _=>Tr α→Option α) (fun t=>t.val)
  (fun _ ih t=>Tr.rec (motive:=fun _=>Option α) none (fun l _ _ _ _=>ih l) t)
  (fun _ ih t=>Tr.rec (motive:=fun _=>Option α) none (fun _ _ r _ _=>ih r) t) p t
def Tr.setP{α:Type}(t:Tr α)(p:aH)(v:α):Tr α:=
 aH.rec (motive:=fun _=>Tr α→Tr α)
  (fun t=>Tr.rec (motive:=fun _=>Tr α) (.n .e (some v) .e) (fun l _ r _ _=> .n l (some v) r) t)
  (fun _ ih t=>Tr.rec (motive:=fun _=>Tr α) ((ih .e).force fun a=> .n a none .e) (fun l x r _ _=>(ih l).force fun a=> .n a x r) t)
  (fun _ ih t=>Tr.rec (motive:=fun _=>Tr α) ((ih .e).force fun a=> .n .e none a) (fun l x r _ _=>(ih r).force fun a=> .n l x a) t) p t
inductive V where
 |b (x:Bool)
 |i (k:IntKind) (n:Int)
 |s (len x:Nat)
 |p (blk off:Nat)
 |p0
 |l (blk off len cap:Nat)
 |u (blk off len el kn:Nat)
 |ue (blk off0 off:Nat)
 |l0
 |m (blk:Nat)
 |m0
 |f (fn:Nat) (first caps:List V)
 |y (blk:Nat)
 |f0
 |a (t:Nat) (v:V)
 |a0
 |g (cs:List V)
 |t (cs:List V)
 deriving Inhabited
def undef:V:= .t []
inductive X where
 |t (n:aH)
 |c (v:V)
abbrev T:=Tr V
def cq(tm:T)(p:aH):V:=Option.rec undef (fun v=>v) (tm.getP p)
def X.ev(x:X)(tm:T):V:=X.rec (motive:=fun _=>T→V) (fun n tm=>cq tm n) (fun v _=>v) x tm
def LX{β:Type}(v:V)(f:β)(g:Bool→β):β:=V.casesOn (motive_1:=fun _=>β) v g (fun _ _=>f) (fun _ _=>f) (fun _ _=>f) f (fun _ _ _ _=>f) (fun _ _ _ _ _=>f) (fun _ _ _=>f) f (fun _=>f) f (fun _ _ _=>f) (fun _=>f) f (fun _ _=>f) f (fun _=>f) (fun _=>f)
def wg{β:Type}(v:V)(f:β)(g:IntKind→Int→β):β:=V.casesOn (motive_1:=fun _=>β) v (fun _=>f) g (fun _ _=>f) (fun _ _=>f) f (fun _ _ _ _=>f) (fun _ _ _ _ _=>f) (fun _ _ _=>f) f (fun _=>f) f (fun _ _ _=>f) (fun _=>f) f (fun _ _=>f) f (fun _=>f) (fun _=>f)
def rX{β:Type}(v:V)(f:β)(g:Nat→Nat→β):β:=V.casesOn (motive_1:=fun _=>β) v (fun _=>f) (fun _ _=>f) (fun _ _=>f) g f (fun _ _ _ _=>f) (fun _ _ _ _ _=>f) (fun _ _ _=>f) f (fun _=>f) f (fun _ _ _=>f) (fun _=>f) f (fun _ _=>f) f (fun _=>f) (fun _=>f)
def oT{β:Type}(v:V)(f:β)(g:Nat→Nat→β):β:=V.casesOn (motive_1:=fun _=>β) v (fun _=>f) (fun _ _=>f) g (fun _ _=>f) f (fun _ _ _ _=>f) (fun _ _ _ _ _=>f) (fun _ _ _=>f) f (fun _=>f) f (fun _ _ _=>f) (fun _=>f) f (fun _ _=>f) f (fun _=>f) (fun _=>f)
def Fr{β:Type}(v:V)(f:β)(g:List V→β):β:=V.casesOn (motive_1:=fun _=>β) v (fun _=>f) (fun _ _=>f) (fun _ _=>f) (fun _ _=>f) f (fun _ _ _ _=>f) (fun _ _ _ _ _=>f) (fun _ _ _=>f) f (fun _=>f) f (fun _ _ _=>f) (fun _=>f) f (fun _ _=>f) f g (fun _=>f)
def onM{β:Type}(v:V)(f:β)(g:Nat→β):β:=V.casesOn (motive_1:=fun _=>β) v (fun _=>f) (fun _ _=>f) (fun _ _=>f) (fun _ _=>f) f (fun _ _ _ _=>f) (fun _ _ _ _ _=>f) (fun _ _ _=>f) f g f (fun _ _ _=>f) (fun _=>f) f (fun _ _=>f) f (fun _=>f) (fun _=>f)
inductive Sh where
 |bool|int|str|ptr|slice|map|func|iface|ifs (ints:List Nat)|agg (ks:List (Nat×Sh))
inductive QO where
 |mv (x:X)
 |pk (c a b:X)
 |ld1 (x:X)
 |ldn (n:Nat) (x:X)
 |nck (x:X)
 |bi (op:BinOp) (x y:X)
 |eq (neg:Bool) (sh:Sh) (lit:Bool) (x y:X)
 |un (op:UnOp) (x:X)
 |ci (k:IntKind) (x:X)
 |bs (x:X)
 |mki (t:Nat) (x:X)
 |mkf (f:Nat) (first caps:List X)
 |fa (off:Nat) (x:X)
 |fl1 (off:Nat) (x:X)
 |fln (off n:Nat) (x:X)
 |iaA (len sz:Nat) (x i:X)
 |iaS (sz:Nat) (x i:X)
 |ixA1 (len sz:Nat) (x i:X)
 |ixAn (len sz:Nat) (x i:X)
 |ixS (x i:X)
 |slS (x:X) (lo hi:Option X)
 |slL (sz:Nat) (x:X) (lo hi mx:Option X)
 |slA (n sz:Nat) (x:X) (lo hi mx:Option X)
 |lk (sh:Sh) (zero:V) (ok:Bool) (x k:X)
 |ex (i:Nat) (x:X)
 |ln (sh:Sh) (x:X)
 |lnc (n:Nat)
 |cp (x:X)
 |mn (mx:Bool) (x:X) (xs:List X)
 |bld (zero:List V) (parts:List (Nat×Nat×X))
 |ta (want:Nat) (zero:V) (ok:Bool) (x:X)
 |up (x:X)
 |dn (ty sz:Nat) (x:X)
 |sd (x:X)
 |xib (x c:X)
 |xcn (x c:X)
 |xcmp (x y:X)
 |sap (n:Nat) (x:X)
 |bad
inductive AO where
 |al (ty:Nat) (cells:List V)
 |bx (ty sz:Nat) (x:X)
 |bsl (ty n sz:Nat) (zero:List V) (parts:List (Nat×X))
 |mks (ty sz bytes:Nat) (zero:List V) (l c:X)
 |mkm
 |sb (ty:Nat) (x:X)
 |nz (ty:Nat) (x:X)
 |rgs (x:X)
inductive EO where
 |call (f:Nat) (args:List X)
 |cv (f:X) (args:List X)
 |st (n:Nat) (x v:X)
 |app (ty sz bytes:Nat) (x y:X)
 |cpy (sz:Nat) (x y:X)
 |clr (zero:List V) (x:X)
 |mu (sh:Sh) (m k v:X)
 |del (sh:Sh) (m k:X)
 |us (ty:Nat) (x n:X)
 |ms (x:X)
 |nxs (x:X)
 |rgm (x:X)
 |nxm (x:X)
inductive OK where
 |q (o:QO)
 |a (o:AO)
 |e (o:EO)
inductive CO where
 |mk (dst:Option aH) (op:OK) (guard:Option (aH×Bool))
inductive CC where
 |skip
 |reg (ops:List CO)
 |dreg (n:Nat) (ops:List (Nat×Nat×CO))
 |seq (a b:CC)
 |cond (x:X) (a b:CC)
 |block (id:Nat) (b:CC)
 |loop (b:CC)
 |rf (f:X) (params:List aH) (assign body:CC)
 |exit (id:Nat)
 |scope (b tbl:CC)
 |tab (l:Nat) (c r:CC)
 |goto (l:Nat)
 |ret
 |bad
 deriving Inhabited
inductive RV where
 |t (n:aH)
 |c1 (n:aH)
 |cn (n:aH) (sz:Nat)
inductive zH where
 |none|ret|ext (id:Nat)
inductive LS where
 |ready|busy|done|exhausted
inductive bq where
 |cells (ty n:Nat) (ex:Bool) (fz:Nat) (str:Bool) (d:List V) (c:T)
 |map (es:List (V×V×Nat)) (clock:Nat)
 |loop (s:LS) (pe:zH) (fn:Nat) (tm:T) (params:List aH) (assign body:CC) (defers:Nat)
 |defs (taken:Bool)
 |siter (n s pos:Nat)
 |miter (m:Option Nat) (since:Nat) (seen:List Nat) (stepped:Nat)
def Do(n:Int):Int:=
 let m:=Int.emod n 18446744073709551616
 bif Nat.blt m.toNat 9223372036854775808 then m else Int.sub m 18446744073709551616
def wrS(n:Int)(w h:Nat):Int:=
 let m:=Int.emod n (.ofNat w)
 bif Nat.blt m.toNat h then m else Int.sub m (.ofNat w)
def b51(n:Int):Int:=
 Int.rec (motive:=fun _=>Int) (fun m=>Bool.rec (motive:=fun _=>Int) (Do n) (.ofNat m) (Nat.blt m 9223372036854775808)) (fun m=>Bool.rec (motive:=fun _=>Int) (Do n) (.negSucc m) (Nat.blt m 9223372036854775808)) n
def cr0(n:Int):Int:=wrS n 256 128
def bx8(n:Int):Int:=wrS n 65536 32768
def bx9(n:Int):Int:=wrS n 4294967296 2147483648
def cr1(n:Int):Int:=Int.emod n (.ofNat 256)
def by0(n:Int):Int:=Int.emod n (.ofNat 65536)
def by1(n:Int):Int:=Int.emod n (.ofNat 4294967296)
def by2(n:Int):Int:=Int.emod n (.ofNat 18446744073709551616)
def wr(k:IntKind):Int→Int:=IntKind.rec (motive:=fun _=>Int→Int) cr0 bx8 bx9 b51 cr1 by0 by1 by2 k
def OH(a b:Int):Bool:=
 Int.rec (motive:=fun _=>Bool) (fun x=>Int.rec (motive:=fun _=>Bool) (fun y=>Nat.blt x y) (fun _=>false) b) (fun x=>Int.rec (motive:=fun _=>Bool) (fun _=>true) (fun y=>Nat.blt y x) b) a
def Ob(a b:Int):Bool:=
 Int.rec (motive:=fun _=>Bool) (fun x=>Int.rec (motive:=fun _=>Bool) (fun y=>Nat.beq x y) (fun _=>false) b) (fun x=>Int.rec (motive:=fun _=>Bool) (fun _=>false) (fun y=>Nat.beq x y) b) a
def fN{β:Type}(n:Nat)(f:Nat→β):β:=Nat.rec (motive:=fun _=>β) (f 0) (fun m _=>f (Nat.succ m)) n
def fI{β:Type}(n:Int)(f:Int→β):β:=
 Int.rec (motive:=fun _=>β) (fun m=>fN m fun m=>f (.ofNat m)) (fun m=>fN m fun m=>f (.negSucc m)) n
def fB{β:Type}(b:Bool)(f:Bool→β):β:=Bool.rec (f false) (f true) b
def kF:IntKind→Nat
 | .i8| .u8=>8
 | .i16| .u16=>16
 | .i32| .u32=>32
 | .i64| .u64=>64
def toU(k:IntKind)(x:Int):Nat:=(Int.emod x (.ofNat (Nat.pow 2 (kF k)))).toNat
def rS(k:IntKind):Nat:=IntKind.rec (motive:=fun _=>Nat) 0 1 2 3 4 5 6 7 k
def ii(a b:IntKind):Bool:=Nat.beq (rS a) (rS b)
inductive QR where
 |f
 |v (x:V)
 |r (x:V) (b:Nat)
def vI(k:IntKind)(n:Int):QR:=fI n fun n=> .v (.i k n)
def vB(b:Bool):QR:=fB b fun b=> .v (.b b)
def vS(n x:Nat):QR:=fN n fun n=>fN x fun x=> .v (.s n x)
def km(k:IntKind)(n:Nat):QR:=vI k (wr k (.ofNat n))
def ml(k:IntKind)(a b:Int):QR:=bif Ob b 0 then .f else vI k (wr k (Int.tdiv a b))
def mm(k:IntKind)(a b:Int):QR:=bif Ob b 0 then .f else vI k (Int.tmod a b)
def rV(b:Bool):Bool:=Bool.rec (motive:=fun _=>Bool) true false b
def ad8(a b:Int):Int:=
 Int.rec (motive:=fun _=>Int) (fun x=>Int.rec (motive:=fun _=>Int) (fun y=> .ofNat (Nat.add x y)) (fun _=>Int.add a b) b) (fun _=>Int.add a b) a
def aZ0(k:IntKind)(a b:Int):QR:=vI k (wr k (ad8 a b))
def aZ9(k:IntKind)(a b:Int):QR:=vI k (wr k (Int.sub a b))
def aZ7(k:IntKind)(a b:Int):QR:=vI k (wr k (Int.mul a b))
def aZ1(k:IntKind)(a b:Int):QR:=km k (Nat.land (toU k a) (toU k b))
def bS1(k:IntKind)(a b:Int):QR:=km k (Nat.lor (toU k a) (toU k b))
def bS2(k:IntKind)(a b:Int):QR:=km k (Nat.xor (toU k a) (toU k b))
def Yc(k:IntKind)(a b:Int):QR:=km k (Nat.land (toU k a) (Nat.xor (Nat.sub (Nat.pow 2 (kF k)) 1) (toU k b)))
def aZ2(_:IntKind)(a b:Int):QR:=vB (Ob a b)
def aZ8(_:IntKind)(a b:Int):QR:=vB (rV (Ob a b))
def aZ6(_:IntKind)(a b:Int):QR:=vB (OH a b)
def aZ5(_:IntKind)(a b:Int):QR:=vB (rV (OH b a))
def aZ4(_:IntKind)(a b:Int):QR:=vB (OH b a)
def aZ3(_:IntKind)(a b:Int):QR:=vB (rV (OH a b))
def bS0(_:IntKind)(_ _:Int):QR:= .f
def pj(op:BinOp):IntKind→Int→Int→QR:=
 BinOp.rec (motive:=fun _=>IntKind→Int→Int→QR) aZ0 aZ9 aZ7 ml mm aZ1 bS1 bS2 bS0 bS0 Yc aZ2 aZ8 aZ6 aZ5 aZ4 aZ3 op
def eJ(k:IntKind)(n:Nat):Nat:=bif Nat.ble n (kF k)then n else kF k
def ap7(k:IntKind)(a b:Int):QR:=
 Int.rec (motive:=fun _=>QR) (fun n=>vI k (wr k (Int.mul a (.ofNat (Nat.pow 2 (eJ k n)))))) (fun _=> .f) b
def ap8(k:IntKind)(a b:Int):QR:=
 Int.rec (motive:=fun _=>QR) (fun n=>vI k (Int.fdiv a (.ofNat (Nat.pow 2 (eJ k n))))) (fun _=> .f) b
def bl:Nat→Nat→List UInt8
 |0,_=>[]
 |n+1,x=>UInt8.ofNat (x%256)::bl n (x/256)
def ba(n x:Nat):ByteArray:=⟨(bl n x).toArray⟩
def j8(n:Nat):Nat:=Nat.pow 256 n
def nE(n x m y:Nat):Bool:=Bool.rec (motive:=fun _=>Bool) false (Nat.beq (Nat.mod x (j8 n)) (Nat.mod y (j8 n))) (Nat.beq n m)
def qY:Nat→Nat→Nat→Nat→Nat→Bool
 |0,_,_,_,_=>false
 |fuel+1,n,x,m,y=>
  match m with
  |0=>false
  |m+1=>match n with
   |0=>true
   |n+1=>Nat.blt (Nat.mod x 256) (Nat.mod y 256)||(Nat.beq (Nat.mod x 256) (Nat.mod y 256)&&qY fuel n (Nat.div x 256) m (Nat.div y 256))
def m4(n x m y:Nat):QR:=
 bif Nat.ble (Nat.add n m) 1099511627776 then vS (Nat.add n m) (Nat.add (Nat.mod x (j8 n)) (Nat.mul (j8 n) y))else .f
def Xk(op:BinOp)(n x m y:Nat):QR:=
 match op with
 | .add=>m4 n x m y
 | .eql=>vB (nE n x m y)
 | .neq=>vB (!nE n x m y)
 | .lss=>vB (qY (Nat.succ (Nat.add n m)) n x m y)
 | .geq=>vB (!qY (Nat.succ (Nat.add n m)) n x m y)
 |_=> .f
abbrev Mem:=Tr bq
abbrev RO:=List (Nat×bq)
def aV(F:RO)(k:Nat):Option bq:=
 List.rec (motive:=fun _=>Option bq) none (fun h _ ih=>Bool.rec ih (some h.2) (Nat.beq h.1 k)) F
def look(F:RO)(M:Mem)(k:Nat):Option bq:=
 Option.rec (aV F k) (fun b=>some b) (M.get k)
def xX{α:Type}(l:List α):Nat→Option α:=
 List.rec (motive:=fun _=>Nat→Option α) (fun _=>none) (fun h _ ih k=>Bool.rec (ih (Nat.sub k 1)) (some h) (Nat.beq k 0)) l
def cell(n:Nat)(d:List V)(c:T)(k:Nat):Option V:=
 Bool.rec none (Option.rec (xX d (Nat.mod k d.length)) (fun v=>some v) (c.get k)) (Nat.blt k n)
def XA(v:V)(o:Option (List V)):Option (List V):=Option.rec (motive:=fun _=>Option (List V)) none (fun l=>some (v::l)) o
def fe(n:Nat)(d:List V)(c:T)(m:Nat):Nat→Option (List V):=
 Nat.rec (motive:=fun _=>Nat→Option (List V)) (fun _=>some [])
  (fun _ ih k=>Option.rec (motive:=fun _=>Option (List V)) none (fun v=>XA v (ih (Nat.succ k))) (cell n d c k)) m
def qc{β:Type}(o:Option bq)(f:β)(g:Nat→List V→T→β):β:=
 Option.rec (motive:=fun _=>β) f (fun b=>bq.casesOn (motive:=fun _=>β) b (fun _ n _ _ _ d c=>g n d c) (fun _ _=>f) (fun _ _ _ _ _ _ _ _=>f) (fun _=>f) (fun _ _ _=>f) (fun _ _ _ _=>f)) o
def loadN(F:RO)(M:Mem)(b o n:Nat):Option (List V):=
 qc (look F M b) none fun m d c=>fe m d c n o
def load1(F:RO)(M:Mem)(b o:Nat):Option V:=
 qc (look F M b) none fun m d c=>cell m d c o
def flatten(v:V):List V:=Fr v [v] fun cs=>cs
def cY(v:V):Bool:=V.casesOn (motive_1:=fun _=>Bool) v (fun _=>true) (fun _ _=>true) (fun _ _=>true) (fun _ _=>true) true (fun _ _ _ _=>true) (fun _ _ _ _ _=>true) (fun _ _ _=>true) true (fun _=>true) true (fun _ _ _=>true) (fun _=>true) true (fun _ _=>true) true (fun _=>false) (fun _=>false)
def bv(l:List V):Bool:=List.rec (motive:=fun _=>Bool) true (fun v _ ih=>Bool.rec (motive:=fun _=>Bool) false ih (cY v)) l
def aW(vs:List V)(k:Nat):T→T:=
 List.rec (motive:=fun _=>Nat→T→T) (fun _ t=>t) (fun v _ ih k t=>(t.set k v).force fun t=>ih (Nat.succ k) t) vs k
def fy(M:Mem)(b o:Nat)(vs:List V)(ty n:Nat)(ex:Bool)(fz:Nat)(str:Bool)(d:List V)(c:T):Option Mem:=
 (aW vs o c).force fun c=>(M.set b (.cells ty n ex fz str d c)).force fun M=>some M
def o8(M:Mem)(b o:Nat)(vs:List V)(blk:bq):Option Mem:=
 bq.casesOn (motive:=fun _=>Option Mem) blk
  (fun ty n ex fz str d c=>Bool.rec (motive:=fun _=>Option Mem) none (Bool.rec (motive:=fun _=>Option Mem) none (Bool.rec (motive:=fun _=>Option Mem) none (fy M b o vs ty n ex fz str d c) (bv vs)) (Nat.ble fz o)) (Nat.ble (Nat.add o vs.length) n))
  (fun _ _=>none) (fun _ _ _ _ _ _ _ _=>none) (fun _=>none) (fun _ _ _=>none) (fun _ _ _ _=>none)
def cC(M:Mem)(b o:Nat)(vs:List V):Option Mem:=Option.rec (motive:=fun _=>Option Mem) none (fun blk=>o8 M b o vs blk) (M.get b)
def gm:List V→Option (Nat×Nat)
 |[]=>some (0,0)
 | .i .u8 (.ofNat c)::l=>match gm l with
   |some (n,x)=>some (Nat.succ n,Nat.add (Nat.mod c 256) (Nat.mul 256 x))
   |none=>none
 |_=>none
def bM:Nat→Nat→List V
 |0,_=>[]
 |n+1,x=>fN (Nat.mod x 256) fun c=> .i .u8 (.ofNat c)::bM n (Nat.div x 256)
def oA(v:V):Option Nat:=wg v none fun _ n=>Int.rec (motive:=fun _=>Option Nat) some (fun _=>none) n
def optN(tm:T)(d:Nat)(o:Option X):Option Nat:=Option.rec (motive:=fun _=>Option Nat) (some d) (fun x=>oA (x.ev tm)) o
def optNN(tm:T):Option X→Option (Option Nat)
 |none=>some none
 |some x=>match oA (x.ev tm)with
  |some n=>some (some n)
  |none=>none
def l9(F:RO)(M:Mem)(b:Nat):Bool:=
 match look F M b with
 |some (.cells _ n _ fz str _ _)=>Nat.beq fz 0&& !str&&Nat.blt 0 n
 |_=>false
def CN(F:RO)(M:Mem)(b o b' o':Nat):Option Bool:=
 bif Nat.beq b b' then some (Nat.beq o o')else bif l9 F M b&&l9 F M b' then some false else none
def CG:V→Option Bool
 | .l0=>some true
 | .l _ _ _ _=>some false
 | .u _ _ _ _ _=>some false
 | .ue _ _ _=>some false
 |_=>none
def CH:V→Option Bool
 | .m0=>some true
 | .m _=>some false
 |_=>none
def CE:V→Option Bool
 | .f0=>some true
 | .f _ _ _=>some false
 | .y _=>some false
 |_=>none
def Ap:V→Option Bool
 | .a0=>some true
 | .a _ _=>some false
 |_=>none
def jR(lit:Bool):Option Bool→Option Bool→Option Bool
 |some true,some true=>bif lit then some true else none
 |some true,some false=>some false
 |some false,some true=>some false
 |_,_=>none
def eqB:V→V→Option Bool
 | .b x,.b y=>some (x==y)
 |_,_=>none
def PE:V→V→Option Bool
 | .i k x,.i k' y=>bif ii k k' then some (Ob x y)else none
 |_,_=>none
def eqS:V→V→Option Bool
 | .s n x,.s m y=>some (nE n x m y)
 |_,_=>none
def eqP(F:RO)(M:Mem):V→V→Option Bool
 | .p0,.p0=>some true
 | .p0,.p _ _=>some false
 | .p _ _,.p0=>some false
 | .p b o,.p b' o'=>CN F M b o b' o'
 |_,_=>none
def rT(k:Nat):List Nat→Bool
 |[]=>false
 |h::r=>bif Nat.beq h k then true else rT k r
def A7(ints:List Nat)(x y:V):Option Bool:=
 match x,y with
 | .a t v,.a t' v'=>bif Nat.beq t t' then(bif rT t ints then PE v v' else none)else some false
 |x,y=>jR false (Ap x) (Ap y)
def La(F:RO)(M:Mem)(sh:Sh)(lit:Bool)(x y:V):Option Bool:=
 match sh with
 | .bool=>eqB x y
 | .int=>PE x y
 | .str=>eqS x y
 | .ptr=>eqP F M x y
 | .slice=>jR true (CG x) (CG y)
 | .map=>jR true (CH x) (CH y)
 | .func=>jR true (CE x) (CE y)
 | .iface=>jR lit (Ap x) (Ap y)
 | .ifs l=>A7 l x y
 | .agg _=>none
def mp(F:RO)(M:Mem)(xs ys:List V):List (Nat×Sh)→Option Bool
 |[]=>some true
 |(o,sh)::r=>match xX xs o,xX ys o with
  |some x,some y=>match La F M sh false x y with
   |some true=>mp F M xs ys r
   |r=>r
  |_,_=>none
def yD(F:RO)(M:Mem)(ks:List (Nat×Sh))(x y:V):Option Bool:=
 match x,y with
 | .g xs,.g ys=>mp F M xs ys ks
 |_,_=>none
def xB(F:RO)(M:Mem)(sh:Sh)(lit:Bool)(x y:V):Option Bool:=
 match sh with
 | .agg ks=>yD F M ks x y
 |sh=>La F M sh lit x y
def nb:Sh→V→V→Option Bool
 | .int,.i k x,.i k' y=>bif ii k k' then some (Ob x y)else none
 | .str,.s n x,.s m y=>some (nE n x m y)
 | .bool,.b x,.b y=>some (x==y)
 |_,_,_=>none
def oK(sh:Sh)(k:V):List (V×V×Nat)→Nat→Option (Option (Nat×V))
 |[],_=>some none
 |(k',v,_)::r,i=>match nb sh k k' with
  |some true=>some (some (i,v))
  |some false=>oK sh k r (Nat.succ i)
  |none=>none
def evs(xs:List X)(tm:T):List V:=
 List.rec (motive:=fun _=>List V) [] (fun x _ ih=>x.ev tm::ih) xs
def mt{α:Type}:Nat→List α→Option (List α)
 |0,_=>some []
 |_+1,[]=>none
 |n+1,x::l=>match mt n l with
  |some r=>some (x::r)
  |none=>none
def ky{α:Type}:Nat→List α→List α
 |0,l=>l
 |_+1,[]=>[]
 |n+1,_::l=>ky n l
def ig{α:Type}:List α→Nat→List α→Option (List α)
 |l,0,[]=>some l
 |l,0,v::r=>match l with
  |[]=>none
  |_::t=>match ig t 0 r with
   |some t=>some (v::t)
   |none=>none
 |[],_+1,_=>none
 |h::t,k+1,r=>match ig t k r with
  |some t=>some (h::t)
  |none=>none
def fillParts(tm:T):List V→List (Nat×Nat×X)→Option (List V)
 |cs,[]=>some cs
 |cs,(o,n,x)::r=>
  bif Nat.beq (flatten (x.ev tm)).length n then match ig cs o (flatten (x.ev tm))with
   |some cs=>fillParts tm cs r
   |none=>none
  else none
def Fk(mx:Bool):V→V→Option V
 | .i k x,.i _ y=>fI (bif OH (bif mx then x else y) (bif mx then y else x)then y else x) fun n=>some (.i k n)
 |_,_=>none
def minAll(mx:Bool)(tm:T):V→List X→Option V
 |v,[]=>some v
 |v,x::r=>match Fk mx v (x.ev tm)with
  |some v=>minAll mx tm v r
  |none=>none
def mZ(c:Nat):Nat→Nat→Nat→Option Nat
 |0,_,_=>none
 |n+1,x,i=>bif Nat.beq (Nat.mod x 256) c then some i else mZ c n (Nat.div x 256) (Nat.succ i)
def countB(c:Nat):Nat→Nat→Nat→Nat
 |0,_,r=>r
 |n+1,x,r=>countB c n (Nat.div x 256) (bif Nat.beq (Nat.mod x 256) c then Nat.succ r else r)
def qr(o:Option V):QR:=Option.rec (motive:=fun _=>QR) .f .v o
def qrb(b:Nat)(o:Option V):QR:=Option.rec (motive:=fun _=>QR) .f (fun x=> .r x b) o
def qg(o:Option (List V)):QR:=Option.rec (motive:=fun _=>QR) .f (fun x=> .v (.g x)) o
def qgb(b:Nat)(o:Option (List V)):QR:=Option.rec (motive:=fun _=>QR) .f (fun x=> .r (.g x) b) o
def mkL(b o n c:Nat):QR:=fN o fun o=>fN n fun n=>fN c fun c=> .v (.l b o n c)
def mkU(b o n el kn:Nat):QR:=fN o fun o=>fN n fun n=>fN el fun el=> .v (.u b o n el kn)
def uo(b o:Nat):QR:=fN o fun o=> .v (.p b o)
def tn(sz b o cap l h m:Nat):QR:=
 bif Nat.ble m cap&&Nat.ble h m&&Nat.ble l h then mkL b (bif Nat.beq m l then o else Nat.add o (Nat.mul l sz)) (Nat.sub h l) (Nat.sub m l)else .f
def oW(sz b o el kn l h:Nat):QR:=
 bif Nat.ble (Nat.add el h) kn&&Nat.ble l h then
  bif Nat.beq l 0 then mkU b o h el kn
  else bif Nat.blt (Nat.add el l) kn then mkU b (Nat.add o (Nat.mul l sz)) (Nat.sub h l) (Nat.add el l) kn
  else fN (Nat.add o (Nat.mul l sz)) fun o'=> .v (.ue b o o')
 else .f
def Zk(sz b o el kn l h m:Nat):QR:=
 bif Nat.ble (Nat.add el m) kn&&Nat.ble h m&&Nat.ble l h then mkL b (bif Nat.beq m l then o else Nat.add o (Nat.mul l sz)) (Nat.sub h l) (Nat.sub m l)else .f
def D6(sz:Nat)(v:V)(lo hi mx:Option Nat):QR:=
 bif mx.isNone||hi.isSome then
 match v with
 | .l b o len cap=>tn sz b o cap (lo.getD 0) (hi.getD len) (mx.getD cap)
 | .l0=>bif Nat.beq (mx.getD 0) 0&&Nat.beq (hi.getD 0) 0&&Nat.beq (lo.getD 0) 0 then .v .l0 else .f
 | .u b o len el kn=>match mx with
   |none=>oW sz b o el kn (lo.getD 0) (hi.getD len)
   |some m=>Zk sz b o el kn (lo.getD 0) (hi.getD len) m
 | .ue b o0 o=>bif mx.isNone&&Nat.beq (hi.getD 0) 0&&Nat.beq (lo.getD 0) 0 then .v (.ue b o0 o)else .f
 |_=> .f
 else .f
def readB(F:RO)(M:Mem)(sz n b o:Nat):Option (List V×Option Nat):=
 bif Nat.beq n 0 then some ([],none)else match loadN F M b o (Nat.mul n sz)with
  |some vs=>some (vs,some b)
  |none=>none
def readL(F:RO)(M:Mem)(sz n:Nat):V→Option (List V×Option Nat)
 | .l b o _ _| .u b o _ _ _=>readB F M sz n b o
 | .ue _ _ _| .l0=>bif Nat.beq n 0 then some ([],none)else none
 |_=>none
def qE:V→Option Nat
 | .l _ _ n _| .u _ _ n _ _=>some n
 | .ue _ _ _| .l0=>some 0
 | .s n _=>some n
 |_=>none
def an9(x:X)(_:RO)(_:Mem)(tm:T):QR:= .v (x.ev tm)
def P3(c a b:X)(_:RO)(_:Mem)(tm:T):QR:=
 LX (c.ev tm) .f fun x=>Bool.rec (motive:=fun _=>QR) (.v (b.ev tm)) (.v (a.ev tm)) x
def Mk(x:X)(F:RO)(M:Mem)(tm:T):QR:=rX (x.ev tm) .f fun b o=>qrb b (load1 F M b o)
def Ml(n:Nat)(x:X)(F:RO)(M:Mem)(tm:T):QR:=rX (x.ev tm) .f fun b o=>qgb b (loadN F M b o n)
def nq(x:X)(_:RO)(_:Mem)(tm:T):QR:=
 match x.ev tm with
 | .p b o=> .v (.p b o)
 | .f g h c=> .v (.f g h c)
 | .y l=> .v (.y l)
 | .a t v=> .v (.a t v)
 |_=> .f
def eC(op:BinOp)(k:IntKind)(a:Int)(k':IntKind)(b:Int):QR:=Bool.rec (motive:=fun _=>QR) .f (pj op k a b) (ii k k')
def cc6(k:IntKind)(a:Int)(_:IntKind)(b:Int):QR:=ap7 k a b
def cc7(k:IntKind)(a:Int)(_:IntKind)(b:Int):QR:=ap8 k a b
def fS(op:BinOp):IntKind→Int→IntKind→Int→QR:=
 BinOp.rec (motive:=fun _=>IntKind→Int→IntKind→Int→QR) (eC .add) (eC .sub) (eC .mul) (eC .quo) (eC .rem) (eC .and) (eC .or) (eC .xor) cc6 cc7 (eC .andNot) (eC .eql) (eC .neq) (eC .lss) (eC .leq) (eC .gtr) (eC .geq) op
def b07(op:BinOp)(k:IntKind)(a:Int)(y:V):QR:=wg y .f fun k' b=>fS op k a k' b
def b08(op:BinOp)(n a:Nat)(y:V):QR:=oT y .f fun m b=>Xk op n a m b
def CP(op:BinOp)(x y:X)(_:RO)(_:Mem)(tm:T):QR:=
 V.casesOn (motive_1:=fun _=>QR) (x.ev tm) (fun _=> .f) (fun k a=>b07 op k a (y.ev tm)) (fun n a=>b08 op n a (y.ev tm)) (fun _ _=> .f) .f (fun _ _ _ _=> .f) (fun _ _ _ _ _=> .f) (fun _ _ _=> .f) .f (fun _=> .f) .f (fun _ _ _=> .f) (fun _=> .f) .f (fun _ _=> .f) .f (fun _=> .f) (fun _=> .f)
def zg(neg:Bool):Option Bool→QR
 |some r=>vB (bif neg then !r else r)
 |none=> .f
def an3(neg:Bool)(sh:Sh)(lit:Bool)(x y:X)(F:RO)(M:Mem)(tm:T):QR:=
 zg neg (xB F M sh lit (x.ev tm) (y.ev tm))
def cd0(x:V):QR:=wg x .f fun k n=>vI k (wr k (Int.sub 0 n))
def cd1(x:V):QR:=wg x .f fun k n=>km k (Nat.xor (Nat.sub (Nat.pow 2 (kF k)) 1) (toU k n))
def cc9(x:V):QR:=LX x .f fun b=>vB (rV b)
def ao2(op:UnOp)(x:X)(_:RO)(_:Mem)(tm:T):QR:=
 UnOp.rec (motive:=fun _=>QR) (cd0 (x.ev tm)) (cd1 (x.ev tm)) (cc9 (x.ev tm)) .f op
def an2(k:IntKind)(x:X)(_:RO)(_:Mem)(tm:T):QR:=wg (x.ev tm) .f fun _ n=>vI k (wr k n)
def Me(b:Option Nat):Option (Nat×Nat)→QR
 |some (n,s)=>fN n fun n=>fN s fun s=>match b with
  |some b=> .r (.s n s) b
  |none=> .v (.s n s)
 |none=> .f
def Md(F:RO)(M:Mem)(v:V):Option Nat→QR
 |some n=>match readL F M 1 n v with
  |some (vs,b)=>Me b (gm vs)
  |none=> .f
 |none=> .f
def OX(x:X)(F:RO)(M:Mem)(tm:T):QR:=
 match x.ev tm with
 | .s _ _=> .f
 |v=>Md F M v (qE v)
def Mp(t:Nat)(x:X)(_:RO)(_:Mem)(tm:T):QR:= .v (.a t (x.ev tm))
def Mo(f:Nat)(first caps:List X)(_:RO)(_:Mem)(tm:T):QR:= .v (.f f (evs first tm) (evs caps tm))
def an4(off:Nat)(x:X)(_:RO)(_:Mem)(tm:T):QR:=rX (x.ev tm) .f fun b o=>uo b (Nat.add o off)
def Mg(off:Nat)(x:X)(_:RO)(_:Mem)(tm:T):QR:=Fr (x.ev tm) .f fun cs=>qr (xX cs off)
def Mh(off n:Nat)(x:X)(_:RO)(_:Mem)(tm:T):QR:=Fr (x.ev tm) .f fun cs=>qg (mt n (ky off cs))
def xY(sz b o len:Nat)(i:Int):QR:=
 Int.rec (motive:=fun _=>QR) (fun i=>Bool.rec (motive:=fun _=>QR) .f (uo b (Nat.add o (Nat.mul i sz))) (Nat.blt i len)) (fun _=> .f) i
def Mi(len sz:Nat)(x i:X)(_:RO)(_:Mem)(tm:T):QR:=
 rX (x.ev tm) .f fun b o=>wg (i.ev tm) .f fun _ i=>xY sz b o len i
def s9(sz b o len:Nat)(i:V):QR:=wg i .f fun _ i=>xY sz b o len i
def qO(sz:Nat)(x i:X)(_:RO)(_:Mem)(tm:T):QR:=
 V.casesOn (motive_1:=fun _=>QR) (x.ev tm) (fun _=> .f) (fun _ _=> .f) (fun _ _=> .f) (fun _ _=> .f) .f (fun b o len _=>s9 sz b o len (i.ev tm)) (fun b o len _ _=>s9 sz b o len (i.ev tm)) (fun _ _ _=> .f) .f (fun _=> .f) .f (fun _ _ _=> .f) (fun _=> .f) .f (fun _ _=> .f) .f (fun _=> .f) (fun _=> .f)
def qC(len sz:Nat)(cs:List V):Option Nat→QR
 |some i=>bif Nat.blt i len then qr (xX cs (Nat.mul i sz))else .f
 |none=> .f
def Yj(len sz:Nat)(cs:List V):Option Nat→QR
 |some i=>bif Nat.blt i len then qg (mt sz (ky (Nat.mul i sz) cs))else .f
 |none=> .f
def Au(len sz:Nat)(x i:X)(_:RO)(_:Mem)(tm:T):QR:=Fr (x.ev tm) .f fun cs=>qC len sz cs (oA (i.ev tm))
def Av(len sz:Nat)(x i:X)(_:RO)(_:Mem)(tm:T):QR:=Fr (x.ev tm) .f fun cs=>Yj len sz cs (oA (i.ev tm))
def np(n s i:Nat):QR:=Bool.rec (motive:=fun _=>QR) .f (fN (Nat.mod (Nat.div s (j8 i)) 256) fun c=> .v (.i .u8 (.ofNat c))) (Nat.blt i n)
def Mj(x i:X)(_:RO)(_:Mem)(tm:T):QR:=
 oT (x.ev tm) .f fun n s=>Option.rec (motive:=fun _=>QR) .f (fun i=>np n s i) (oA (i.ev tm))
def bh6(n s l h:Nat):QR:=
 Bool.rec (motive:=fun _=>QR) .f (Bool.rec (motive:=fun _=>QR) .f (vS (Nat.sub h l) (Nat.mod (Nat.div s (j8 l)) (j8 (Nat.sub h l)))) (Nat.ble h n)) (Nat.ble l h)
def jU(n s:Nat)(lo hi:Option Nat):QR:=
 Option.rec (motive:=fun _=>QR) .f (fun l=>Option.rec (motive:=fun _=>QR) .f (fun h=>bh6 n s l h) hi) lo
def wt(x:X)(lo hi:Option X)(_:RO)(_:Mem)(tm:T):QR:=
 oT (x.ev tm) .f fun n s=>jU n s (optN tm 0 lo) (optN tm n hi)
def se(sz:Nat)(v:V):Option (Option Nat)→Option (Option Nat)→Option (Option Nat)→QR
 |some lo,some hi,some mx=>D6 sz v lo hi mx
 |_,_,_=> .f
def Mq(sz:Nat)(x:X)(lo hi mx:Option X)(_:RO)(_:Mem)(tm:T):QR:=
 se sz (x.ev tm) (optNN tm lo) (optNN tm hi) (optNN tm mx)
def wq(n sz b o:Nat):Option Nat→Option Nat→Option Nat→QR
 |some l,some h,some m=>tn sz b o n l h m
 |_,_,_=> .f
def zi(n sz:Nat)(x:X)(lo hi mx:Option X)(_:RO)(_:Mem)(tm:T):QR:=
 bif mx.isNone||hi.isSome then rX (x.ev tm) .f fun b o=>wq n sz b o (optN tm 0 lo) (optN tm n hi) (optN tm n mx)else .f
def b09(zero:V)(ok:Bool)(b:Nat):Option (Option (Nat×V))→QR
 |some (some (_,v))=> .r (bif ok then .t [v,.b true]else v) b
 |some none=> .r (bif ok then .t [zero,.b false]else zero) b
 |none=> .f
def oH{β:Type}(o:Option bq)(f:β)(g:List (V×V×Nat)→Nat→β):β:=
 match o with
 |some (.map es c)=>g es c
 |_=>f
def P2(sh:Sh)(zero:V)(ok:Bool)(x k:X)(F:RO)(M:Mem)(tm:T):QR:=
 match x.ev tm with
 | .m0=> .v (bif ok then .t [zero,.b false]else zero)
 | .m b=>oH (look F M b) .f fun es _=>b09 zero ok b (oK sh (k.ev tm) es 0)
 |_=> .f
def wo(i:Nat)(x:X)(_:RO)(_:Mem)(tm:T):QR:=
 V.casesOn (motive_1:=fun _=>QR) (x.ev tm) (fun _=> .f) (fun _ _=> .f) (fun _ _=> .f) (fun _ _=> .f) .f (fun _ _ _ _=> .f) (fun _ _ _ _ _=> .f) (fun _ _ _=> .f) .f (fun _=> .f) .f (fun _ _ _=> .f) (fun _=> .f) .f (fun _ _=> .f) .f (fun _=> .f) (fun vs=>qr (xX vs i))
def Mn(o:Option Nat):QR:=Option.rec (motive:=fun _=>QR) .f (fun n=> .v (.i .i64 (.ofNat n))) o
def Ff:V→Option Nat
 | .l _ _ n _| .u _ _ n _ _=>some n
 | .ue _ _ _| .l0=>some 0
 |_=>none
def bf3(F:RO)(M:Mem):V→QR
 | .m0=> .v (.i .i64 0)
 | .m b=>oH (look F M b) .f fun es _=>fN es.length fun n=> .r (.i .i64 (.ofNat n)) b
 |_=> .f
def an7(sh:Sh)(x:X)(F:RO)(M:Mem)(tm:T):QR:=
 match sh with
 | .str=>oT (x.ev tm) .f fun n _=> .v (.i .i64 (.ofNat n))
 | .slice=>Mn (Ff (x.ev tm))
 | .map=>bf3 F M (x.ev tm)
 |_=> .f
def cc8(n:Nat)(_:RO)(_:Mem)(_:T):QR:= .v (.i .i64 (.ofNat n))
def wm(x:X)(_:RO)(_:Mem)(tm:T):QR:=
 match x.ev tm with
 | .l0=> .v (.i .i64 0)
 | .l _ _ _ c=> .v (.i .i64 (.ofNat c))
 |_=> .f
def an8(mx:Bool)(x:X)(xs:List X)(_:RO)(_:Mem)(tm:T):QR:=qr (minAll mx tm (x.ev tm) xs)
def Mc(zero:List V)(parts:List (Nat×Nat×X))(_:RO)(_:Mem)(tm:T):QR:=qg (fillParts tm zero parts)
def P4(want:Nat)(zero:V)(ok:Bool)(x:X)(_:RO)(_:Mem)(tm:T):QR:=
 match x.ev tm with
 | .a t v=>bif Nat.beq t want then .v (bif ok then .t [v,.b true]else v)else bif ok then .v (.t [zero,.b false])else .f
 | .a0=>bif ok then .v (.t [zero,.b false])else .f
 |_=> .f
def P5(x:X)(F:RO)(M:Mem)(tm:T):QR:=
 match x.ev tm with
 | .p0=> .v .p0
 | .p b o=>qc (look F M b) .f fun n _ _=>bif Nat.blt o n then .r (.p b o) b else .f
 |_=> .f
def bb7(ty sz b:Nat):Option bq→QR
 |some (.cells ty' n true _ _ _ _)=>bif Nat.beq ty' ty&&Nat.beq n sz then .r (.p b 0) b else .f
 |_=> .f
def P0(ty sz:Nat)(x:X)(F:RO)(M:Mem)(tm:T):QR:=
 match x.ev tm with
 | .p0=> .v .p0
 | .p b 0=>bb7 ty sz b (look F M b)
 |_=> .f
def wp(x:X)(_:RO)(_:Mem)(tm:T):QR:=
 match x.ev tm with
 | .l0=> .v .p0
 | .l b o _ c=>bif Nat.beq c 0 then .f else .v (.p b o)
 | .u b o _ el kn=>bif Nat.blt el kn then .v (.p b o)else .f
 |_=> .f
def FC:Option Nat→QR
 |some i=> .v (.i .i64 (.ofNat i))
 |none=> .v (.i .i64 (.negSucc 0))
def rD:V→Option Nat
 | .i .u8 (.ofNat c)=>some c
 |_=>none
def by4(n s:Nat):Option Nat→QR
 |some c=>FC (mZ (Nat.mod c 256) n s 0)
 |none=> .f
def by3(n s:Nat):Option Nat→QR
 |some c=>fN (countB (Nat.mod c 256) n s 0) fun r=> .v (.i .i64 (.ofNat r))
 |none=> .f
def Mt(x c:X)(_:RO)(_:Mem)(tm:T):QR:=oT (x.ev tm) .f fun n s=>by4 n s (rD (c.ev tm))
def Ms(x c:X)(_:RO)(_:Mem)(tm:T):QR:=oT (x.ev tm) .f fun n s=>by3 n s (rD (c.ev tm))
def nD:Nat→Nat→Nat→Nat→Int
 |0,_,0,_=>0
 |0,_,_+1,_=> .negSucc 0
 |_+1,_,0,_=>1
 |n+1,x,m+1,y=>bif Nat.beq (Nat.mod x 256) (Nat.mod y 256)then nD n (Nat.div x 256) m (Nat.div y 256)
  else bif Nat.blt (Nat.mod x 256) (Nat.mod y 256)then .negSucc 0 else 1
def Ay(x y:X)(_:RO)(_:Mem)(tm:T):QR:=oT (x.ev tm) .f fun n a=>oT (y.ev tm) .f fun m b=>vI .i64 (nD n a m b)
def zh(n:Nat)(x:X)(_:RO)(_:Mem)(tm:T):QR:=
 match x.ev tm with
 | .l b o len _=>bif Nat.ble n len then .v (.p b o)else .f
 | .u b o len _ _=>bif Nat.ble n len then .v (.p b o)else .f
 |_=> .f
def cc5(_:RO)(_:Mem)(_:T):QR:= .f
def cS(o:QO):RO→Mem→T→QR:=
 QO.rec (motive:=fun _=>RO→Mem→T→QR) an9 P3 Mk Ml nq CP an3 ao2 an2 OX Mp Mo an4 Mg Mh Mi qO Au Av Mj wt Mq zi P2 wo an7 cc8 wm an8 Mc P4 P5 P0 wp Mt Ms Ay zh cc5 o
def b64(ty:Nat)(cells:List V)(b:Nat)(_:T):Option (V×bq):=
 bif bv cells then some (.p b 0,.cells ty cells.length true 0 false [] (aW cells 0 .e))else none
def NM(ty sz:Nat)(x:X)(b:Nat)(tm:T):Option (V×bq):=
 bif Nat.beq (flatten (x.ev tm)).length sz&&bv (flatten (x.ev tm))then some (.p b 0,.cells ty sz true 0 false [] (aW (flatten (x.ev tm)) 0 .e))else none
def fillP(sz m:Nat)(tm:T):List (Nat×X)→T→Option T
 |[],t=>some t
 |(o,x)::r,t=>
  bif Nat.beq (flatten (x.ev tm)).length sz&&Nat.ble (Nat.add o sz) m&&bv (flatten (x.ev tm))then(aW (flatten (x.ev tm)) o t).force fun t=>fillP sz m tm r t else none
def yl(ty n sz:Nat)(zero:List V)(parts:List (Nat×X))(b:Nat)(tm:T):Option (V×bq):=
 match fillP sz (Nat.mul n sz) tm parts .e with
 |some c=>fN (Nat.mul n sz) fun m=>some (.l b 0 n n,.cells ty m true 0 false zero c)
 |none=>none
def zQ(ty sz bytes:Nat)(zero:List V)(b:Nat):Option Nat→Option Nat→Option (V×bq)
 |some l,some c=>bif Nat.ble l c&&Nat.ble (Nat.mul c (Nat.succ bytes)) 1099511627776 then fN (Nat.mul c sz) fun m=>some (.l b 0 l c,.cells ty m true 0 false zero .e)else none
 |_,_=>none
def H8(ty sz bytes:Nat)(zero:List V)(l c:X)(b:Nat)(tm:T):Option (V×bq):=zQ ty sz bytes zero b (oA (l.ev tm)) (oA (c.ev tm))
def Qj(b:Nat)(_:T):Option (V×bq):=some (.m b,.map [] 0)
def ad6(ty:Nat)(x:X)(b:Nat)(tm:T):Option (V×bq):=
 oT (x.ev tm) none fun n s=>some (.u b 0 n 0 n,.cells ty n false 0 true [] (aW (bM n s) 0 .e))
def Hg:V→Option Nat
 | .i .i64 (.ofNat n)=>some n
 |_=>none
def NP(ty:Nat)(x:X)(b:Nat)(tm:T):Option (V×bq):=
 match Hg (x.ev tm)with
 |some n=>bif Nat.ble n 1099511627776 then some (.u b 0 n 0 n,.cells ty n false 0 false [] .e)else none
 |none=>none
def H9(x:X)(b:Nat)(tm:T):Option (V×bq):=
 oT (x.ev tm) none fun n s=>some (.p b 0,.siter n s 0)
def kl(o:AO):Nat→T→Option (V×bq):=
 AO.rec (motive:=fun _=>Nat→T→Option (V×bq)) b64 NM yl H8 Qj ad6 NP H9 o
inductive RC where
 |f
 |k (v:V) (M:Mem) (c:Nat)
inductive CF where
 |mk (n:Nat) (res:List RV) (body:CC)
 |orc (g:RO→List V→Mem→Nat→RC)
def er(c:Nat)(o:Option Mem):RC:=Option.rec (motive:=fun _=>RC) .f (fun M=> .k undef M c) o
def aq2(n:Nat):Option (List V×Option Nat)→Option (Nat×List V)
 |some (vs,_)=>some (n,vs)
 |none=>none
def gd(F:RO)(M:Mem)(sz:Nat)(y:V):Option (Nat×List V):=
 match y with
 | .s n x=>bif Nat.beq sz 1 then some (n,bM n x)else none
 |y=>match qE y with
  |some n=>aq2 n (readL F M sz n y)
  |none=>none
def kP(len bytes:Nat):Bool:=Nat.ble (Nat.mul (Nat.add (Nat.mul 3 len) 2000) bytes) 281474976710656&&Nat.ble len 1099511627776
def kC(M:Mem)(c ty bytes len fz:Nat)(str:Bool)(vs:List V):RC:=
 bif kP len bytes then(M.set c (.cells ty vs.length false fz str [] (aW vs 0 .e))).force fun M=>fN (Nat.succ c) fun c'=>fN len fun len=> .k (.u c 0 len 0 len) M c' else .f
def vA(M:Mem)(c ty bytes len fz:Nat)(str:Bool)(new:List V):Option (List V×Option Nat)→RC
 |some (old,_)=>kC M c ty bytes len fz str (old++new)
 |none=> .f
def na(M:Mem)(c ty bytes len fz:Nat)(str:Bool)(new:List V)(m:Nat)(d:List V)(cs:T):RC:=
 bif kP len bytes then(aW new m cs).force fun cs=>fN (Nat.add m new.length) fun m=>(M.set c (.cells ty m false fz str d cs)).force fun M=>fN (Nat.succ c) fun c'=>fN len fun len=> .k (.u c 0 len 0 len) M c' else .f
def F5(M:Mem)(c ty bytes len fz:Nat)(str:Bool)(new:List V):Option bq→RC
 |some (.cells _ m _ _ _ d cs)=>na M c ty bytes len fz str new m d cs
 |_=> .f
def C3(c b o sz len n:Nat)(M:Mem)(new:List V)(f:Nat→V):RC:=
 match cC M b (Nat.add o (Nat.mul len sz)) new with
 |some M=>fN (Nat.add len n) fun len=> .k (f len) M c
 |none=> .f
def gR(M:Mem)(b ty o e:Nat):Option (Nat×Bool):=
 match M.get b with
 |some (.cells ty' n false fz str _ _)=>bif Nat.beq ty' ty&&Nat.beq n e&&Nat.ble fz o&&Nat.ble o e then some (fz,str)else none
 |_=>none
def ym(F:RO)(M:Mem)(c ty sz bytes b o len cap n:Nat)(new:List V):RC:=
 bif Nat.ble (Nat.add len n) cap then C3 c b o sz len n M new fun len=> .l b o len cap
 else vA M c ty bytes (Nat.add len n) 0 false new (readB F M sz len b o)
def oG(F:RO)(M:Mem)(c ty sz bytes b o len el kn n:Nat)(new:List V):RC:=
 bif Nat.ble (Nat.add (Nat.add el len) n) kn then C3 c b o sz len n M new fun len=> .u b o len el kn
 else match gR M b ty (Nat.add o (Nat.mul len sz)) (Nat.add o (Nat.mul (Nat.sub kn el) sz))with
  |some (fz,str)=>bif Nat.beq o 0&&Nat.beq (Nat.sub kn el) len then F5 (M.del b) c ty bytes (Nat.add len n) fz str new (M.get b)
   else vA (M.del b) c ty bytes (Nat.add len n) fz str new (readB F M sz len b o)
  |none=> .f
def yU:V→Bool
 | .l _ _ n c=>Nat.ble n c
 | .u _ _ n el kn=>Nat.ble n (Nat.sub kn el)
 | .ue _ _ _| .l0=>true
 |_=>false
def app(F:RO)(M:Mem)(c ty sz bytes:Nat)(x:V)(n:Nat)(new:List V):RC:=
 bif Nat.beq n 0 then(bif yU x then .k x M c else .f)else
 match x with
 | .l0=>kC M c ty bytes n 0 false new
 | .l b o len cap=>ym F M c ty sz bytes b o len cap n new
 | .u b o len el kn=>oG F M c ty sz bytes b o len el kn n new
 | .ue b _ o=>match gR M b ty o o with
   |some (fz,str)=>kC (M.del b) c ty bytes n fz str new
   |none=> .f
 |_=> .f
def pp(F:RO)(M:Mem)(c ty sz bytes:Nat)(x:V):Option (Nat×List V)→RC
 |some (n,new)=>bif bv new&&Nat.beq new.length (Nat.mul n sz)then app F M c ty sz bytes x n new else .f
 |none=> .f
def jV(k v:V):List (V×V×Nat)→Nat→List (V×V×Nat)
 |[],_=>[]
 |(k',v',b)::r,i=>match i with
  |0=>(k,v,b)::r
  |i+1=>(k',v',b)::jV k v r i
def jL:List (V×V×Nat)→Nat→List (V×V×Nat)
 |[],_=>[]
 |h::r,i=>match i with
  |0=>r
  |i+1=>h::jL r i
def D7(x:V×V×Nat):List (V×V×Nat)→List (V×V×Nat)
 |[]=>[x]
 |h::r=>h::D7 x r
def wD(M:Mem)(c b:Nat)(blk:bq)(v:V):RC:=(M.set b blk).force fun M=> .k v M c
def jp(M:Mem)(b o n:Nat):Option Mem:=
 match M.get b with
 |some (.cells ty m ex fz str d c)=>bif str then none else fN (bif Nat.ble fz (Nat.add o n)then Nat.add o n else fz) fun fz=>some (M.set b (.cells ty m ex fz str d c))
 |_=>none
def yz(n b o:Nat)(vs:List V)(M:Mem)(c:Nat):RC:=Bool.rec (motive:=fun _=>RC) .f (er c (cC M b o vs)) (Nat.beq vs.length n)
def bQ0(n:Nat)(x v:X)(_:RO)(M:Mem)(c:Nat)(tm:T):RC:=
 rX (x.ev tm) .f fun b o=>yz n b o (flatten (v.ev tm)) M c
def aY6(ty sz bytes:Nat)(x y:X)(F:RO)(M:Mem)(c:Nat)(tm:T):RC:=
 pp F M c ty sz bytes (x.ev tm) (gd F M sz (y.ev tm))
def ba6(M:Mem)(c n:Nat)(x:V):Option (List V)→RC
 |some vs=>match x with
  | .l b o _ _| .u b o _ _ _=>match cC M b o vs with
    |some M=> .k (.i .i64 (.ofNat n)) M c
    |none=> .f
  |_=> .f
 |none=> .f
def pm(F:RO)(M:Mem)(sz n:Nat)(y:V):Option (List V):=
 match y with
 | .s m s=>bif Nat.beq sz 1 then some (bM n (Nat.mod s (j8 m)))else none
 |y=>(readL F M sz n y).map (·.1)
def XO(F:RO)(M:Mem)(c sz:Nat)(x y:V):Option Nat→Option Nat→RC
 |some dn,some sn=>fN (bif Nat.ble sn dn then sn else dn) fun n=>
  bif Nat.beq n 0 then .k (.i .i64 0) M c else ba6 M c n x (pm F M sz n y)
 |_,_=> .f
def Cg(sz:Nat)(x y:X)(F:RO)(M:Mem)(c:Nat)(tm:T):RC:=
 match x.ev tm with
 | .s _ _=> .f
 |v=>XO F M c sz v (y.ev tm) (qE v) (qE (y.ev tm))
def wy(zero:List V):Nat→List V
 |0=>[]
 |n+1=>zero++wy zero n
def ag7(M:Mem)(c b o n:Nat)(zero:List V):RC:=bif Nat.beq n 0 then .k undef M c else er c (cC M b o (wy zero n))
def L5(zero:List V)(x:X)(_:RO)(M:Mem)(c:Nat)(tm:T):RC:=
 match x.ev tm with
 | .l0=> .k undef M c
 | .ue _ _ _=> .k undef M c
 | .l b o n _=>ag7 M c b o n zero
 | .u b o n _ _=>ag7 M c b o n zero
 |_=> .f
def L6(M:Mem)(c b:Nat)(es:List (V×V×Nat))(clock:Nat)(k v:V):Option (Option (Nat×V))→RC
 |some (some (i,_))=>wD M c b (.map (jV k v es i) clock) undef
 |some none=>fN (Nat.succ clock) fun ck=>wD M c b (.map (D7 (k,v,clock) es) ck) undef
 |none=> .f
def bP8(sh:Sh)(m k v:X)(_:RO)(M:Mem)(c:Nat)(tm:T):RC:=
 onM (m.ev tm) .f fun b=>oH (M.get b) .f fun es clock=>L6 M c b es clock (k.ev tm) (v.ev tm) (oK sh (k.ev tm) es 0)
def ES(M:Mem)(c b:Nat)(es:List (V×V×Nat))(clock:Nat):Option (Option (Nat×V))→RC
 |some (some (i,_))=>wD M c b (.map (jL es i) clock) undef
 |some none=> .k undef M c
 |none=> .f
def aY7(sh:Sh)(m k:X)(_:RO)(M:Mem)(c:Nat)(tm:T):RC:=
 onM (m.ev tm) .f fun b=>oH (M.get b) .f fun es clock=>ES M c b es clock (oK sh (k.ev tm) es 0)
def yB(M:Mem)(c b o:Nat):Option (Nat×Nat)→RC
 |some (n,s)=>match jp M b o n with
  |some M=>fN n fun n=>fN s fun s=> .k (.s n s) M c
  |none=> .f
 |none=> .f
def FX(M:Mem)(b ty:Nat):Bool:=
 match M.get b with
 |some (.cells ty' _ _ _ _ _ _)=>Nat.beq ty' ty
 |_=>false
def yA(F:RO)(M:Mem)(c ty b o n:Nat):RC:=
 bif Nat.beq n 0 then .k (.s 0 0) M c else bif FX M b ty&&Nat.ble n 1099511627776 then match loadN F M b o n with
  |some vs=>yB M c b o (gm vs)
  |none=> .f
  else .f
def XR(ty:Nat)(x n:X)(F:RO)(M:Mem)(c:Nat)(tm:T):RC:=
 match oA (n.ev tm)with
 |some n=>match x.ev tm with
  | .p0=>bif Nat.beq n 0 then .k (.s 0 0) M c else .f
  | .p b o=>yA F M c ty b o n
  |_=> .f
 |none=> .f
def bW7(M:Mem)(c b:Nat)(v:V):Option bq→RC
 |some (.cells ty n true 0 false d t)=>wD M c b (.cells ty n true 0 true d t) v
 |_=> .f
def ah9(x:X)(_:RO)(M:Mem)(c:Nat)(tm:T):RC:=
 match x.ev tm with
 | .l b o n cp=>bW7 M c b (.l b o n cp) (M.get b)
 |_=> .f
def am2(M:Mem)(c b n s pos:Nat)(r:Nat×Nat):RC:=
 fN r.1 fun ch=>fN (Nat.add pos r.2) fun pos'=>wD M c b (.siter n s pos') (.t [.b true,.i .i64 (.ofNat pos),.i .i32 (.ofNat ch)])
def yZ(M:Mem)(c b:Nat):Option bq→RC
 |some (.siter n s pos)=>bif Nat.blt pos n then
  fN (Nat.mod (Nat.div s (j8 pos)) 256) fun ch=>bif Nat.blt ch 128 then
   fN (Nat.succ pos) fun pos'=>wD M c b (.siter n s pos') (.t [.b true,.i .i64 (.ofNat pos),.i .i32 (.ofNat ch)])else am2 M c b n s pos (Utf8.decode (ba n s) pos)
  else .k (.t [.b false]) M c
 |_=> .f
def L8(x:X)(_:RO)(M:Mem)(c:Nat)(tm:T):RC:=
 match x.ev tm with
 | .p b 0=>yZ M c b (M.get b)
 |_=> .f
def L9(x:X)(F:RO)(M:Mem)(c:Nat)(tm:T):RC:=
 match x.ev tm with
 | .m0=>fN (Nat.succ c) fun c'=>wD M c' c (.miter none 0 [] 0) (.p c 0)
 | .m b=>oH (look F M b) .f fun _ clock=>fN (Nat.succ c) fun c'=>wD M c' c (.miter (some b) clock [] clock) (.p c 0)
 |_=> .f
def qD(seen:List Nat):List (V×V×Nat)→List (V×V×Nat)
 |[]=>[]
 |h::r=>bif rT h.2.2 seen then qD seen r else h::qD seen r
def uN(since:Nat):List (V×V×Nat)→Bool
 |[]=>true
 |h::r=>Nat.blt h.2.2 since&&uN since r
def b04(F:RO)(M:Mem)(c b:Nat):Option bq→RC
 |some (.miter none _ _ _)=> .k (.t [.b false]) M c
 |some (.miter (some m) since seen st)=>oH (look F M m) .f fun es clock=>
  bif uN since es&&Nat.ble since st then match qD seen es with
   |[]=> .k (.t [.b false]) M c
   |[(k,v,born)]=>wD M c b (.miter (some m) since (seen++[born]) clock) (.t [.b true,k,v])
   |_=> .f
  else .f
 |_=> .f
def L7(x:X)(F:RO)(M:Mem)(c:Nat)(tm:T):RC:=
 match x.ev tm with
 | .p b 0=>b04 F M c b (M.get b)
 |_=> .f
inductive Ex where
 |nrm|ret|ext (id:Nat)|gto (l:Nat)
inductive St where
 |mk (t:T) (d:List Nat) (M:Mem) (c:Nat)
inductive Rs where
 |f
 |k (e:Ex) (s:St)
def Cd{α:Type}(x:α):α:=x
abbrev xz:=Option Nat→Nat→RO→CC→St→Rs
inductive Kn where
 |mk (Φ:Nat→Option CF) (ex:xz) (rd:Option Nat) (fn:Nat) (F:RO)
def Kn.F(k:Kn):RO:=Kn.rec (motive:=fun _=>RO) (fun _ _ _ _ F=>F) k
def setT(t:T)(d:Option aH)(v:V):T:=Option.rec (motive:=fun _=>T) t (fun d=>t.setP d v) d
def iN(want:Bool)(v:V):Bool:=LX v false fun x=>Bool.rec (motive:=fun _=>Bool) (rV want) want x
def wanted(t:T)(g:Option (aH×Bool)):Bool:=
 Option.rec (motive:=fun _=>Bool) true (fun p=>Prod.rec (motive:=fun _=>Bool) (fun j want=>iN want (cq t j)) p) g
def testBit(m i:Nat):Bool:=Nat.beq (Nat.mod (Nat.div m (Nat.pow 2 i)) 2) 1
def jf(mask:Nat):List (Nat×Nat×bq)→Mem→Mem×List (Nat×Nat×bq)
 |[],M=>(M,[])
 |(i,b,blk)::r,M=>bif testBit mask i then(M.set b blk).force fun M=>jf mask r M
  else match jf mask r M with|(M,p)=>(M,(i,b,blk)::p)
inductive Pr where
 |mk (F:RO) (M:Mem) (s:List (Nat×bq))
def bB(mask:Nat):List (Nat×Nat)→RO→Mem→List (Nat×bq)→Pr
 |[],F,M,s=> .mk F M s
 |(i,b)::r,F,M,s=>bif testBit mask i then bB mask r F M s else
  match M.get b with
  |none=>bB mask r F M s
  |some blk=>(M.del b).force fun M=>bB mask r ((b,blk)::F) M ((b,blk)::s)
def b7:List (Nat×bq)→Mem→Mem
 |[],M=>M
 |(b,blk)::r,M=>(M.set b blk).force fun M=>b7 r M
def lS:Nat→Nat→aH
 |0,_=> .h
 |f+1,k=>bif Nat.beq k 0 then .h else bif Nat.beq (Nat.mod k 2) 0 then .r (lS f (Nat.sub (Nat.div k 2) 1))else .l (lS f (Nat.div k 2))
def bk(k:Nat):aH:=lS (Nat.succ (Nat.log2 k)) k
def Pm(n:Nat):T:=Nat.rec (motive:=fun _=>T) .e (fun _ ih=> .n ih none ih) n
def bh(n:Nat)(vs:List V):T:=aW vs 0 (Pm n)
def zk(F:RO)(M:Mem)(t:T)(r:RV):Option V:=
 RV.rec (motive:=fun _=>Option V) (fun n=>some (cq t n)) (fun n=>rX (cq t n) none fun b o=>load1 F M b o) (fun n sz=>rX (cq t n) none fun b o=>Option.rec (motive:=fun _=>Option V) none (fun l=>some (.g l)) (loadN F M b o sz)) r
def u7(v:V)(o:Option (List V)):Option (List V):=Option.rec (motive:=fun _=>Option (List V)) none (fun vs=>some (v::vs)) o
def eR(F:RO)(M:Mem)(t:T)(l:List RV):Option (List V):=
 List.rec (motive:=fun _=>Option (List V)) (some []) (fun r _ ih=>Option.rec (motive:=fun _=>Option (List V)) none (fun v=>u7 v ih) (zk F M t r)) l
def tY(l:List V):V:=
 List.rec (motive:=fun _=>V) (.t []) (fun v r _=>List.rec (motive:=fun _=>V) v (fun _ _ _=> .t l) r) l
def Zy(f:Mem→Option Mem)(M:Mem)(d:Nat)(blk:bq):Option Mem:=
 bq.casesOn (motive:=fun _=>Option Mem) blk (fun _ _ _ _ _ _ _=>none) (fun _ _=>none) (fun _ _ _ _ _ _ _ _=>none) (fun b=>Bool.rec (motive:=fun _=>Option Mem) ((M.set d (.defs true)).force f) none b) (fun _ _ _=>none) (fun _ _ _ _=>none)
def eu(ds:List Nat):Mem→Option Mem:=
 List.rec (motive:=fun _=>Mem→Option Mem) some (fun d _ ih M=>Option.rec (motive:=fun _=>Option Mem) none (fun blk=>Zy ih M d blk) (M.get d)) ds
def dM:List aH→List V→T→Option T
 |[],[],t=>some t
 |p::ps,v::vs,t=>(t.setP p v).force fun t=>dM ps vs t
 |_,_,_=>none
def Aa(c:Nat)(M:Mem)(o:Option (List V)):RC:=Option.rec (motive:=fun _=>RC) .f (fun vs=> .k (tY vs) M c) o
def A9(res:List RV)(F:RO)(t:T)(c:Nat)(o:Option Mem):RC:=
 Option.rec (motive:=fun _=>RC) .f (fun M=>Aa c M (eR F M t res)) o
def Lz(e:Ex):Bool:=Ex.rec (motive:=fun _=>Bool) true true (fun _=>false) (fun _=>false) e
def aj6(res:List RV)(F:RO)(e:Ex)(t:T)(d:List Nat)(M:Mem)(c:Nat):RC:=
 Bool.rec (motive:=fun _=>RC) .f (A9 res F t c (eu d M)) (Lz e)
def n8(res:List RV)(F:RO)(r:Rs):RC:=
 Rs.rec (motive:=fun _=>RC) .f (fun e s=>St.rec (motive:=fun _=>RC) (fun t d M c=>aj6 res F e t d M c) s) r
def ba0(ex:xz)(F:RO)(f:Nat)(args:List V)(M:Mem)(c:Nat)(n:Nat)(res:List RV)(body:CC):RC:=
 n8 res F (Cd (ex none f F body (.mk (bh n args) [] M c)))
def cu(ex:xz)(F:RO)(f:Nat)(args:List V)(M:Mem)(c:Nat)(o:Option CF):RC:=
 Option.rec (motive:=fun _=>RC) .f (fun cf=>CF.rec (motive:=fun _=>RC) (fun n res body=>ba0 ex F f args M c n res body) (fun g=>g F args M c) cf) o
def mo(k:Kn)(f:Nat)(args:List V)(M:Mem)(c:Nat):RC:=
 Kn.rec (motive:=fun _=>RC) (fun Φ ex _ _ F=>cu ex F f args M c (Φ f)) k
inductive Lp where
 |f
 |k (s:LS) (pe:zH) (fn:Nat) (tm:T) (params:List aH) (assign body:CC) (defers:Nat)
def f5:Option bq→Lp
 |some (.loop s pe fn tm ps a b d)=> .k s pe fn tm ps a b d
 |_=> .f
def Dq(M:Mem)(l c:Nat)(s:LS)(pe:zH)(r:Bool):Lp→RC
 | .k _ _ fn tm ps a b d=>wD M c l (.loop s pe fn tm ps a b d) (.b r)
 | .f=> .f
def nM(l:Nat):Rs→RC
 | .f=> .f
 | .k e (.mk _ d M c)=>match d with
   |[]=>match e with
    | .nrm=>Dq M l c .ready .none true (f5 (M.get l))
    | .ret=>Dq M l c .done .ret false (f5 (M.get l))
    | .ext id=>Dq M l c .done (.ext id) false (f5 (M.get l))
    | .gto _=> .f
   |_=> .f
def sF(k:Kn)(l fn:Nat)(body:CC)(t:T)(M:Mem)(c:Nat):Lp→RC
 | .k .ready pe fn' tm' ps' a' b' d'=>
   (M.set l (.loop .busy pe fn' tm' ps' a' b' d')).force fun M=>match k with
    | .mk _ ex _ _ F=>nM l (Cd (ex (some l) fn F body (.mk t [] M c)))
 |_=> .f
def nL(k:Kn)(l fn:Nat)(body:CC):Rs→RC
 | .k .nrm (.mk t [] M c)=>sF k l fn body t M c (f5 (M.get l))
 |_=> .f
def GA(k:Kn)(l fn:Nat)(asg body:CC)(M:Mem)(c:Nat):Option T→RC
 |none=> .f
 |some t=>match k with
  | .mk _ ex _ _ F=>nL k l fn body (Cd (ex (some l) fn F asg (.mk t [] M c)))
def sR(k:Kn)(l:Nat)(args:List V)(M:Mem)(c:Nat):Lp→RC
 | .k .ready _ fn tm ps asg body _=>GA k l fn asg body M c (dM ps args tm)
 |_=> .f
def sQ(k:Kn)(v:V)(args:List V)(M:Mem)(c:Nat):RC:=
 match v with
 | .f f first caps=>mo k f (first++(args++caps)) M c
 | .y l=>sR k l args M c (f5 (M.get l))
 |_=> .f
def mU(k:Kn)(v:V)(args:List V)(M:Mem)(c:Nat):RC:=
 match v with
 | .f f first caps=>mo k f (first++(args++caps)) M c
 |_=> .f
def Bv(f:Nat)(args:List X)(k:Kn)(M:Mem)(c:Nat)(tm:T):RC:=mo k f (evs args tm) M c
def av1(f:X)(args:List X)(k:Kn)(M:Mem)(c:Nat)(tm:T):RC:=sQ k (f.ev tm) (evs args tm) M c
def av4(n:Nat)(x v:X)(k:Kn)(M:Mem)(c:Nat)(tm:T):RC:=bQ0 n x v k.F M c tm
def Nq(ty sz bytes:Nat)(x y:X)(k:Kn)(M:Mem)(c:Nat)(tm:T):RC:=aY6 ty sz bytes x y k.F M c tm
def Ns(sz:Nat)(x y:X)(k:Kn)(M:Mem)(c:Nat)(tm:T):RC:=Cg sz x y k.F M c tm
def Nr(zero:List V)(x:X)(k:Kn)(M:Mem)(c:Nat)(tm:T):RC:=L5 zero x k.F M c tm
def av3(sh:Sh)(m k' v:X)(k:Kn)(M:Mem)(c:Nat)(tm:T):RC:=bP8 sh m k' v k.F M c tm
def Nt(sh:Sh)(m k':X)(k:Kn)(M:Mem)(c:Nat)(tm:T):RC:=aY7 sh m k' k.F M c tm
def av5(ty:Nat)(x n:X)(k:Kn)(M:Mem)(c:Nat)(tm:T):RC:=XR ty x n k.F M c tm
def av2(x:X)(k:Kn)(M:Mem)(c:Nat)(tm:T):RC:=ah9 x k.F M c tm
def Nv(x:X)(k:Kn)(M:Mem)(c:Nat)(tm:T):RC:=L8 x k.F M c tm
def Nw(x:X)(k:Kn)(M:Mem)(c:Nat)(tm:T):RC:=L9 x k.F M c tm
def Nu(x:X)(k:Kn)(M:Mem)(c:Nat)(tm:T):RC:=L7 x k.F M c tm
def gG(o:EO):Kn→Mem→Nat→T→RC:=
 EO.rec (motive:=fun _=>Kn→Mem→Nat→T→RC) Bv av1 av4 Nq Ns Nr av3 Nt av5 av2 Nv Nw Nu o
def wl(dst:Option aH)(d:List Nat)(M:Mem)(c:Nat)(t:T)(v:V):Option St:=(setT t dst v).force fun t=>some (.mk t d M c)
def ap4(dst:Option aH)(t:T)(d:List Nat)(M:Mem)(c:Nat)(r:QR):Option St:=
 QR.rec (motive:=fun _=>Option St) none (fun x=>wl dst d M c t x) (fun x _=>wl dst d M c t x) r
def Z6(dst:Option aH)(t:T)(d:List Nat)(M:Mem)(c:Nat)(v:V)(blk:bq):Option St:=
 (M.set c blk).force fun M=>fN (Nat.succ c) fun c=>wl dst d M c t v
def ap3(dst:Option aH)(t:T)(d:List Nat)(M:Mem)(c:Nat)(r:Option (V×bq)):Option St:=
 Option.rec (motive:=fun _=>Option St) none (fun p=>Prod.rec (motive:=fun _=>Option St) (fun v blk=>Z6 dst t d M c v blk) p) r
def xZ(dst:Option aH)(t:T)(d:List Nat)(r:RC):Option St:=
 RC.rec (motive:=fun _=>Option St) none (fun v M c=>wl dst d M c t v) r
def s_q(o:QO)(k:Kn)(dst:Option aH)(t:T)(d:List Nat)(M:Mem)(c:Nat):Option St:=ap4 dst t d M c (cS o k.F M t)
def s_a(o:AO)(_:Kn)(dst:Option aH)(t:T)(d:List Nat)(M:Mem)(c:Nat):Option St:=ap3 dst t d M c (kl o c t)
def s_e(o:EO)(k:Kn)(dst:Option aH)(t:T)(d:List Nat)(M:Mem)(c:Nat):Option St:=xZ dst t d (gG o k M c t)
def sop(o:OK):Kn→Option aH→T→List Nat→Mem→Nat→Option St:=
 OK.rec (motive:=fun _=>Kn→Option aH→T→List Nat→Mem→Nat→Option St) s_q s_a s_e o
def s_w(op:OK)(k:Kn)(dst:Option aH)(t:T)(d:List Nat)(M:Mem)(c:Nat)(w:Bool):Option St:=
 Bool.rec (motive:=fun _=>Option St) (wl dst d M c t undef) (sop op k dst t d M c) w
def cf2(dst:Option aH)(op:OK)(guard:Option (aH×Bool))(k:Kn)(t:T)(d:List Nat)(M:Mem)(c:Nat):Option St:=
 Option.rec (motive:=fun _=>Option St) (sop op k dst t d M c) (fun g=>s_w op k dst t d M c (wanted t (some g))) guard
def cJ6(dst:Option aH)(op:OK)(guard:Option (aH×Bool))(k:Kn)(s:St):Option St:=
 St.rec (motive:=fun _=>Option St) (fun t d M c=>cf2 dst op guard k t d M c) s
def eD(o:CO):Kn→St→Option St:=CO.rec (motive:=fun _=>Kn→St→Option St) cJ6 o
def lZ(f:Kn→St→Option St)(k:Kn)(r:Option St):Option St:=Option.rec none (fun s=>f k s) r
def aq3(o:CO)(_:List CO)(ih:Kn→St→Option St)(k:Kn)(s:St):Option St:=lZ ih k (eD o k s)
def bj1(_:Kn)(s:St):Option St:=some s
def du(ops:List CO):Kn→St→Option St:=List.rec (motive:=fun _=>Kn→St→Option St) bj1 aq3 ops
inductive DS where
 |mk (t:T) (M:Mem) (c:Nat) (pend:List (Nat×Nat×bq)) (reads:List (Nat×Nat))
def tP(i:Nat)(dst:Option aH)(t:T)(M:Mem)(c:Nat)(pend:List (Nat×Nat×bq))(reads:List (Nat×Nat)):QR→Option DS
 | .f=>none
 | .v x=>(setT t dst x).force fun t=>some (.mk t M c pend reads)
 | .r x b=>(setT t dst x).force fun t=>some (.mk t M c pend ((i,b)::reads))
def EK(i b:Nat)(dst:Option aH)(t:T)(M:Mem)(c:Nat)(pend:List (Nat×Nat×bq))(reads:List (Nat×Nat)):Option (V×bq)→Option DS
 |none=>none
 |some (v,blk)=>(setT t dst v).force fun t=>some (.mk t M c ((i,b,blk)::pend) reads)
def cV(b:Nat):List (Nat×Nat)→Bool
 |[]=>true
 |(_,b')::r=>bif Nat.beq b' b then false else cV b r
def cz(F:RO)(M:Mem):List (Nat×Nat×bq)→Bool
 |[]=>true
 |(_,b,_)::r=>bif (look F M b).isNone then cz F M r else false
def bF(M:Mem):RO→Bool
 |[]=>true
 |(b,_)::r=>bif (M.get b).isNone then bF M r else false
def lM(F:RO)(dst:Option aH)(t:T)(pend:List (Nat×Nat×bq))(reads:List (Nat×Nat))(saved:List (Nat×bq)):RC→Option DS
 | .f=>none
 | .k v M c=>bif bF M F&&cz F M pend then(b7 saved M).force fun M=>(setT t dst v).force fun t=>some (.mk t M c pend reads)else none
def rR(k:Kn)(F:RO):Kn:=match k with
 | .mk Φ ex rd fn _=> .mk Φ ex rd fn F
def rK(e:EO)(k:Kn)(dst:Option aH)(t:T)(c:Nat)(pend:List (Nat×Nat×bq))(reads:List (Nat×Nat)):Pr→Option DS
 | .mk F M saved=>bif cz F M pend then lM F dst t pend reads saved (gG e (rR k F) M c t)else none
def Cc(e:EO)(k:Kn)(mask:Nat)(dst:Option aH)(t:T)(c:Nat)(reads:List (Nat×Nat)):Mem×List (Nat×Nat×bq)→Option DS
 |(M,pend)=>rK e k dst t c pend reads (bB mask reads k.F M [])
def Mw(b:Nat):QR→QR
 | .f=> .f
 | .v x=> .r x b
 | .r x _=> .r x b
def ah2(o:QO)(t:T)(b:Nat):Option bq→QR
 |none=> .f
 |some blk=>Mw b (cS o [(b,blk)] .e t)
def O6(o:QO)(F:RO)(M:Mem)(t:T):QR→QR
 | .f=> .f
 | .v _=>cS o [] .e t
 | .r _ b=>ah2 o t b (look F M b)
def XG(k:Kn)(base i mask:Nat)(dst:Option aH)(op:OK)(t:T)(M:Mem)(c:Nat)(pend:List (Nat×Nat×bq))(reads:List (Nat×Nat)):Option DS:=
 match op with
 | .q o=>tP i dst t M c pend reads (O6 o k.F M t (cS o k.F M t))
 | .a o=>fN (Nat.add base i) fun b=>bif (look k.F M b).isNone&&cV b reads then EK i b dst t M c pend reads (kl o b t)else none
 | .e o=>Cc o k mask dst t c reads (jf mask pend M)
def ui(k:Kn)(base:Nat)(h:Nat×Nat×CO)(s:DS):Option DS:=
 match h with
 |(i,mask,.mk dst op guard)=>match s with
  | .mk t M c pend reads=>bif wanted t guard then XG k base i mask dst op t M c pend reads
    else(setT t dst undef).force fun t=>some (.mk t M c pend reads)
def jo(k:Kn)(base:Nat):List (Nat×Nat×CO)→DS→Option DS
 |[],s=>some s
 |h::r,s=>match ui k base h s with
  |some s=>jo k base r s
  |none=>none
def dP:List (Nat×Nat×bq)→Mem→Mem
 |[],M=>M
 |(_,b,blk)::r,M=>(M.set b blk).force fun M=>dP r M
def vm(d:List Nat):Option DS→Rs
 |none=> .f
 |some (.mk t M c pend _)=>(dP pend M).force fun M=> .k .nrm (.mk t d M c)
def kB(l:Nat):CC→Option CC
 | .tab k c r=>bif Nat.beq k l then some c else kB l r
 |_=>none
def b99(_:Kn)(s:St):Rs:= .k .nrm s
def qP(o:Option St):Rs:=Option.rec (motive:=fun _=>Rs) .f (fun s=> .k .nrm s) o
def bO1(ops:List CO)(k:Kn)(s:St):Rs:=qP (du ops k s)
def Xv(n:Nat)(ops:List (Nat×Nat×CO))(k:Kn)(s:St):Rs:=
 match s with
 | .mk t d M c=>fN (Nat.add c n) fun c'=>vm d (jo k c ops (.mk t M c' [] []))
def bi1(f:Kn→St→Rs)(k:Kn)(s:St)(e:Ex):Rs:=
 Ex.rec (motive:=fun _=>Rs) (Cd (f k s)) (.k .ret s) (fun id=> .k (.ext id) s) (fun l=> .k (.gto l) s) e
def lf(f:Kn→St→Rs)(k:Kn)(r:Rs):Rs:=Rs.rec (motive:=fun _=>Rs) .f (fun e s=>bi1 f k s e) r
def bO3(_ _:CC)(f g:Kn→St→Rs)(k:Kn)(s:St):Rs:=lf g k (f k s)
def stT(s:St):T:=St.rec (motive:=fun _=>T) (fun t _ _ _=>t) s
def jI(x:X)(_ _:CC)(f g:Kn→St→Rs)(k:Kn)(s:St):Rs:=
 LX (x.ev (stT s)) .f fun b=>Bool.rec (motive:=fun _=>Rs) (g k s) (f k s) b
def YU(id:Nat)(s:St)(e:Ex):Rs:=
 Ex.rec (motive:=fun _=>Rs) (.k .nrm s) (.k .ret s) (fun id'=>Bool.rec (motive:=fun _=>Rs) (.k (.ext id') s) (.k .nrm s) (Nat.beq id' id)) (fun l=> .k (.gto l) s) e
def fL(id:Nat)(r:Rs):Rs:=Rs.rec (motive:=fun _=>Rs) .f (fun e s=>YU id s e) r
def ag0(id:Nat)(_:CC)(f:Kn→St→Rs)(k:Kn)(s:St):Rs:=fL id (f k s)
def mS(k:Kn)(c:CC)(s:St):Rs:=Kn.rec (motive:=fun _=>Rs) (fun _ ex rd fn F=>Cd (ex rd fn F c s)) k
def ao6(b:CC)(k:Kn)(s:St)(e:Ex):Rs:=
 Ex.rec (motive:=fun _=>Rs) (mS k (.loop b) s) (.k .ret s) (fun id=> .k (.ext id) s) (fun l=> .k (.gto l) s) e
def gV(b:CC)(k:Kn)(r:Rs):Rs:=Rs.rec (motive:=fun _=>Rs) .f (fun e s=>ao6 b k s e) r
def b98(b:CC)(f:Kn→St→Rs)(k:Kn)(s:St):Rs:=gV b k (f k s)
def b96(id:Nat)(_:Kn)(s:St):Rs:= .k (.ext id) s
def sg(tbl:CC)(k:Kn)(s:St):Option CC→Rs
 |none=> .f
 |some c=>mS k (.scope c tbl) s
def js(tbl:CC)(k:Kn):Rs→Rs
 | .f=> .f
 | .k e s=>match e with
   | .gto l=>sg tbl k s (kB l tbl)
   |e=> .k e s
def ag1(_ tbl:CC)(f _:Kn→St→Rs)(k:Kn)(s:St):Rs:=js tbl k (f k s)
def bO4(_:Nat)(_ _:CC)(_ _:Kn→St→Rs)(_:Kn)(_:St):Rs:= .f
def b97(l:Nat)(_:Kn)(s:St):Rs:= .k (.gto l) s
def bO2(_:Kn)(s:St):Rs:= .k .ret s
def bO0(_:Kn)(_:St):Rs:= .f
def AB(s:St):zH→Rs
 | .none=> .k .nrm s
 | .ret=> .k .ret s
 | .ext id=> .k (.ext id) s
def YZ(t:T)(d:List Nat)(M:Mem)(c l:Nat):Lp→Rs
 | .f=> .f
 | .k s pe fn tm ps a b dn=>match s with
   | .busy=> .f
   |_=>(M.set l (.loop .exhausted pe fn tm ps a b dn)).force fun M=>AB (.mk t d M c) pe
def nv(t:T)(d:List Nat)(l:Nat):RC→Rs
 | .f=> .f
 | .k _ M c=>YZ t d M c l (f5 (M.get l))
def pK(f:X)(ps:List aH)(asg body:CC)(k:Kn)(t:T)(d:List Nat)(M:Mem)(l dn:Nat):Rs:=
 match k with
 | .mk _ _ _ fn _=>(M.set l (.loop .ready .none fn t ps asg body dn)).force fun M=>fN (Nat.succ l) fun c=>nv t d l (mU k (f.ev t) [.y l] M c)
def P8(f:X)(ps:List aH)(asg body:CC)(k:Kn)(t:T)(d:List Nat)(M:Mem)(c:Nat):Lp→Rs
 | .f=> .f
 | .k _ _ _ _ _ _ _ dn=>pK f ps asg body k t d M c dn
def cx0(f:X)(ps:List aH)(asg body:CC)(_ _:Kn→St→Rs)(k:Kn)(s:St):Rs:=
 match s with
 | .mk t d M c=>match k with
   | .mk _ _ rd _ _=>match rd with
     |some l=>P8 f ps asg body k t d M c (f5 (M.get l))
     |none=>(M.set c (.defs false)).force fun M=>fN (Nat.succ c) fun c'=>pK f ps asg body k t (c::d) M c' c
def b5(c:CC):Kn→St→Rs:=
 CC.rec (motive:=fun _=>Kn→St→Rs) b99 bO1 Xv bO3 jI ag0 b98 cx0 b96 ag1 bO4 b97 bO2 bO0 c
def bQ5(_:Option Nat)(_:Nat)(_:RO)(_:CC)(_:St):Rs:= .f
def bQ6(Φ:Nat→Option CF)(_:Nat)(ih:xz)(rd:Option Nat)(fn:Nat)(F:RO)(c:CC)(s:St):Rs:=b5 c (.mk Φ ih rd fn F) s
def exec(Φ:Nat→Option CF)(n:Nat):xz:=Nat.rec (motive:=fun _=>xz) bQ5 (bQ6 Φ) n
def run(Φ:Nat→Option CF)(fuel:Nat)(f:Nat)(args:List V)(M:Mem)(c:Nat):RC:=
 cu (exec Φ fuel) [] f args M c (Φ f)
end
def bH:List UInt8→Nat
 |[]=>0
 |c::l=>c.toNat+256*bH l
mutual
def toV:Nat→Value→Option V
 |0,_=>none
 |n+1,v=>match v with
  | .bool b=>some (.b b)
  | .int k x=>some (.i k x)
  | .string s=>some (.s s.data.toList.length (bH s.data.toList))
  | .pointer none=>some .p0
  | .slice none 0 0=>some .l0
  | .map none=>some .m0
  | .nilFunc=>some .f0
  | .nilIface=>some .a0
  | .iface t v=>(toV n v).map (.a t)
  | .agg cs=>(FV n cs.toList).map .g
  | .tuple cs=>(FV n cs.toList).map .t
  | .func (.func f) first caps=>if first.isEmpty&&caps.isEmpty then some (.f f [] [])else none
  |_=>none
def FV:Nat→List Value→Option (List V)
 |0,_=>none
 |_+1,[]=>some []
 |n+1,v::l=>match toV n v,FV n l with
  |some x,some r=>some (x::r)
  |_,_=>none
end
def aY9:Nat:=100000
def aY:Operand→Option X
 | .tmp t=>some (.t (bk t))
 | .const v=>(toV aY9 v).map .c
 | .global g=>if g<1000 then some (.c (.p g 0))else none
 | .func f=>some (.c (.f f [] []))
def jK:List Operand→Option (List X)
 |[]=>some []
 |x::l=>match aY x,jK l with
  |some x,some r=>some (x::r)
  |_,_=>none
def OO:Option Operand→Option (Option X)
 |none=>some none
 |some x=>(aY x).map some
def dR(P:Program)(t:TypeId):Option Nat:=(P.info? t).map (·.size)
def Xp(P:Program)(t:TypeId):Option Nat:=(P.info? t).map (·.bytes)
def my(P:Program)(t:TypeId):Option V:=((P.info? t).bind (·.zero)).bind (toV aY9)
def tW(P:Program)(t:TypeId):Option Bool:=
 match P.underlying t with
 |some (.struct _)|some (.array _ _)=>some true
 |some _=>some false
 |none=>none
def MF(P:Program)(t:TypeId):Option Sh:=
 match P.underlying t with
 |some .bool=>some .bool
 |some (.int _)=>some .int
 |some .string=>some .str
 |some (.pointer e)=>if dR P e==some 0||(dR P e).isNone then none else some .ptr
 |some (.slice _)=>some .slice
 |some (.map _ _)=>some .map
 |some (.func _ _ _)=>some .func
 |some (.interface _)=>some .iface
 |_=>none
def qX(P:Program):List Field→Option (List (Nat×Sh))
 |[]=>some []
 |f::r=>match MF P f.type,qX P r with
  |some sh,some l=>if f.name≠ "_" then some ((f.offset,sh)::l)else none
  |_,_=>none
def Zd(P:Program)(t:TypeId):Option Sh:=
 match P.underlying t with
 |some (.struct fs)=>
  if P.stoodInHeld t||P.eqGuardType P.depth t then none
  else(qX P fs.toList).map .agg
 |_=>MF P t
def isConstO:Operand→Bool
 | .const _=>true
 |_=>false
def b01(P:Program)(t:Nat):Bool:=
 match P.info? t,P.underlying t with
 |some i,some (.int _)=>i.comparable
 |_,_=>false
def pA(P:Program):List Nat:=(List.range P.types.size).filter (b01 P)
def Ad(P:Program)(lit:Bool)(sh:Sh):Sh:=
 match sh,lit with
 | .iface,false=> .ifs (pA P)
 |sh,_=>sh
def tf(P:Program)(t:TypeId):Option Sh:=
 match P.underlying t with
 |some .bool=>some .bool
 |some (.int _)=>some .int
 |some .string=>some .str
 |_=>none
def kY(f:Nat→Option (Nat×Nat)):List (Nat×Operand)→Option (List (Nat×Nat×X))
 |[]=>some []
 |(i,x)::r=>match f i,aY x,kY f r with
  |some (o,s),some x,some l=>some ((o,s,x)::l)
  |_,_,_=>none
def lN(P:Program):List Field→Option (List (Nat×Nat))
 |[]=>some []
 |f::r=>match dR P f.type,lN P r with
  |some s,some l=>some ((f.offset,s)::l)
  |_,_=>none
def lJ(sz:Nat):List (Nat×Operand)→Option (List (Nat×X))
 |[]=>some []
 |(i,x)::r=>match aY x,lJ sz r with
  |some x,some l=>some ((i*sz,x)::l)
  |_,_=>none
def aT:V→List V
 | .g cs=>cs
 |v=>[v]
def Cy(P:Program)(t:TypeId):Bool:=match P.underlying t with|some (.int .u8)=>true|_=>false
def q(o:QO):Option OK:=some (.q o)
def zOk(P:Program)(t:TypeId)(sz:Nat):Bool:=match my P t with
 |some z=>(aT z).length==sz
 |none=>false
def eB(P:Program)(b:Builtin)(args:List Operand)(ats:List TypeId):Option OK:=
 match b,args,ats with
 | .len,[x],[t]=>match P.underlying t,aY x with
   |some .string,some x=>q (.ln .str x)
   |some (.slice _),some x=>q (.ln .slice x)
   |some (.map _ _),some x=>q (.ln .map x)
   |some (.array n _),some _=>q (.lnc n)
   |some (.pointer a),some _=>match P.underlying a with
    |some (.array n _)=>q (.lnc n)
    |_=>none
   |_,_=>none
 | .cap,[x],[t]=>match P.underlying t,aY x with
   |some (.slice _),some x=>q (.cp x)
   |_,_=>none
 | .append,[x,y],t::t2::_=>match P.underlying t,aY x,aY y with
   |some (.slice e),some x,some y=>match dR P e,Xp P e,P.underlying t2 with
    |some sz,some by_,some d=>match d with
     | .int _=>none
     |_=>if sz=0|| !zOk P e sz then none else some (.e (.app e sz by_ x y))
    |_,_,_=>none
   |_,_,_=>none
 | .append,[x,y],[t]=>match P.underlying t,aY x,aY y with
   |some (.slice e),some x,some y=>match dR P e,Xp P e with
    |some sz,some by_=>if sz=0|| !zOk P e sz then none else some (.e (.app e sz by_ x y))
    |_,_=>none
   |_,_,_=>none
 | .copy,[x,y],t::_=>match P.underlying t,aY x,aY y with
   |some (.slice e),some x,some y=>match dR P e with
    |some sz=>if sz=0 then none else some (.e (.cpy sz x y))
    |_=>none
   |_,_,_=>none
 | .min,x::xs,_=>match aY x,jK xs with
   |some x,some xs=>q (.mn false x xs)
   |_,_=>none
 | .max,x::xs,_=>match aY x,jK xs with
   |some x,some xs=>q (.mn true x xs)
   |_,_=>none
 | .delete,[m,k],t::_=>match P.underlying t,aY m,aY k with
   |some (.map kt _),some m,some k=>(tf P kt).map fun sh=> .e (.del sh m k)
   |_,_,_=>none
 | .unsafeString,[x,n],t::_=>match P.underlying t,aY x,aY n with
   |some (.pointer e),some x,some n=>if Cy P e&&dR P e==some 1 then some (.e (.us e x n))else none
   |_,_,_=>none
 | .unsafeSliceData,[x],_=>(aY x).bind fun x=>q (.sd x)
 | .clear,[x],t::_=>match P.underlying t,aY x with
   |some (.slice e),some x=>(my P e).map fun z=> .e (.clr (aT z) x)
   |_,_=>none
 |_,_,_=>none
def gn(P:Program)(fn:Func)(args:List Operand):Option OK:=
 if fn.origin≠ "" then none else
 match args with
 |[x,c]=>
  if fn.name== "internal/bytealg.IndexByteString" then match aY x,aY c with
   |some x,some c=>q (.xib x c)
   |_,_=>none
  else if fn.name== "internal/bytealg.CountString" then match aY x,aY c with
   |some x,some c=>q (.xcn x c)
   |_,_=>none
  else if fn.name== "internal/bytealg.abigen_runtime_cmpstring" then match aY x,aY c with
   |some x,some c=>q (.xcmp x c)
   |_,_=>none
  else none
 |[x]=>
  if fn.name== "internal/abi.NoEscape" then(aY x).bind fun x=>q (.mv x)
  else if fn.name== "internal/bytealg.MakeNoZero" then match aY x,fn.resultTypes.toList with
   |some x,[t]=>match P.underlying t with
    |some (.slice e)=>if Cy P e&&dR P e==some 1 then some (.a (.nz e x))else none
    |_=>none
   |_,_=>none
  else none
 |_=>none
def aB(P:Program)(o:Op):Option OK:=
 match o with
 | .move x| .assign x=>(aY x).bind fun x=>q (.mv x)
 | .pick c a b=>match aY c,aY a,aY b with
   |some c,some a,some b=>q (.pk c a b)
   |_,_,_=>none
 | .alloc t=>(my P t).map fun z=> .a (.al t (aT z))
 | .box t x=>match dR P t,aY x with
   |some s,some x=>some (.a (.bx t s x))
   |_,_=>none
 | .build t parts=>match my P t,P.underlying t with
   |some z,some (.struct fs)=>match lN P fs.toList with
    |some ps=>(kY (fun i=>ps[i]?) parts.toList).bind fun ps=>q (.bld (aT z) ps)
    |none=>none
   |some z,some (.array _ e)=>match dR P e with
    |some s=>(kY (fun i=>some (i*s,s)) parts.toList).bind fun ps=>q (.bld (aT z) ps)
    |none=>none
   |_,_=>none
 | .buildSlice t n parts=>match P.underlying t with
   |some (.slice e)=>match dR P e,my P e with
    |some s,some z=>if s=0||n*s>2^24||(aT z).isEmpty then none else(lJ s parts.toList).map fun ps=> .a (.bsl e n s (aT z) ps)
    |_,_=>none
   |_=>none
 | .load t x=>match tW P t,dR P t,aY x with
   |some true,some n,some x=>q (.ldn n x)
   |some false,some _,some x=>q (.ld1 x)
   |_,_,_=>none
 | .store t x v=>match dR P t,aY x,aY v with
   |some n,some x,some v=>some (.e (.st n x v))
   |_,_,_=>none
 | .nilCheck x=>(aY x).bind fun x=>q (.nck x)
 | .sliceToArrayPointer d x=>match P.underlying d,aY x with
   |some (.array n _),some x=>q (.sap n x)
   |_,_=>none
 | .binOp op t x y _=>match P.underlying t,aY x,aY y with
   |some (.int _),some x,some y|some .string,some x,some y=>q (.bi op x y)
   |some _,some x',some y'=>match op with
    | .eql=>(Zd P t).bind fun sh=>q (.eq false (Ad P (isConstO x||isConstO y) sh) (isConstO x||isConstO y) x' y')
    | .neq=>(Zd P t).bind fun sh=>q (.eq true (Ad P (isConstO x||isConstO y) sh) (isConstO x||isConstO y) x' y')
    |_=>none
   |_,_,_=>none
 | .unOp op _ x=>(aY x).bind fun x=>q (.un op x)
 | .convert s d x=>match P.underlying s,P.underlying d,aY x with
   |some (.int _),some (.int k),some x=>q (.ci k x)
   |some .string,some .string,some x=>q (.slS x none none)
   |some (.slice e),some .string,some x=>if Cy P e then q (.bs x)else none
   |some .string,some (.slice e),some x=>if Cy P e&&dR P e==some 1 then some (.a (.sb e x))else none
   |some (.slice _),some (.slice e),some x=>if s==d&&Cy P e then some (.e (.ms x))else none
   |some (.pointer e),some .unsafePointer,some x=>if dR P e==some 0||(dR P e).isNone then none else q (.up x)
   |some .unsafePointer,some (.pointer e),some x=>match dR P e with
    |some (s+1)=>q (.dn e (s+1) x)
    |_=>none
   |_,_,_=>none
 | .makeInterface t x=>match P.underlying t,aY x with
   |some (.interface _),_=>none
   |some _,some x=>q (.mki t x)
   |_,_=>none
 | .makeFunc (.func f) first caps=>match jK first.toList,jK caps.toList with
   |some a,some b=>q (.mkf f a b)
   |_,_=>none
 | .makeMap _ none=>some (.a .mkm)
 | .makeSlice t l c=>match P.underlying t,aY l,aY c with
   |some (.slice e),some l,some c=>match dR P e,Xp P e,my P e with
    |some s,some by_,some z=>if s=0||(aT z).isEmpty then none else some (.a (.mks e s by_ (aT z) l c))
    |_,_,_=>none
   |_,_,_=>none
 | .slice t x lo hi mx=>match aY x,OO lo,OO hi,OO mx with
   |some x,some lo,some hi,some mx=>match P.underlying t with
    |some .string=>if mx.isSome then none else q (.slS x lo hi)
    |some (.slice e)=>(dR P e).bind fun s=>if s=0 then none else q (.slL s x lo hi mx)
    |some (.array n e)=>(dR P e).bind fun s=>if s=0 then none else q (.slA n s x lo hi mx)
    |some (.pointer a)=>match P.underlying a with
     |some (.array n e)=>(dR P e).bind fun s=>if s=0 then none else q (.slA n s x lo hi mx)
     |_=>none
    |_=>none
   |_,_,_,_=>none
 | .fieldAddr t x f=>match P.underlying t,aY x with
   |some (.struct fs),some x=>match fs.toList[f]? with
    |some f=>match dR P f.type with
     |some (_+1)=>q (.fa f.offset x)
     |_=>none
    |none=>none
   |_,_=>none
 | .field t x f=>match P.underlying t,aY x with
   |some (.struct fs),some x=>match fs.toList[f]? with
    |some f=>match tW P f.type,dR P f.type with
     |some true,some n=>q (.fln f.offset n x)
     |some false,_=>q (.fl1 f.offset x)
     |_,_=>none
    |none=>none
   |_,_=>none
 | .indexAddr t x i=>match P.underlying t,aY x,aY i with
   |some (.array n e),some x,some i=>(dR P e).bind fun s=>q (.iaA n s x i)
   |some (.slice e),some x,some i=>(dR P e).bind fun s=>q (.iaS s x i)
   |_,_,_=>none
 | .index t x i=>match P.underlying t,aY x,aY i with
   |some (.array n e),some x,some i=>match tW P e,dR P e with
    |some true,some s=>q (.ixAn n s x i)
    |some false,some s=>q (.ixA1 n s x i)
    |_,_=>none
   |some .string,some x,some i=>q (.ixS x i)
   |_,_,_=>none
 | .lookup t x k ok=>match P.underlying t,aY x,aY k with
   |some (.map kt e),some x,some k=>match tf P kt,my P e with
    |some sh,some z=>q (.lk sh z ok x k)
    |_,_=>none
   |_,_,_=>none
 | .mapUpdate t m k v| .insert t m k v=>match P.underlying t,aY m,aY k,aY v with
   |some (.map kt _),some m,some k,some v=>(tf P kt).map fun sh=> .e (.mu sh m k v)
   |_,_,_,_=>none
 | .typeAssert x _ t ok=>match P.underlying t,aY x,my P t with
   |some (.interface _),_,_=>none
   |some _,some x,some z=>q (.ta t z ok x)
   |_,_,_=>none
 | .range t x=>match P.underlying t,aY x with
   |some .string,some x=>some (.a (.rgs x))
   |some (.map _ _),some x=>some (.e (.rgm x))
   |_,_=>none
 | .next x true=>(aY x).map fun x=> .e (.nxs x)
 | .next x false=>(aY x).map fun x=> .e (.nxm x)
 | .extract x i=>(aY x).bind fun x=>q (.ex i x)
 | .call c=>match c.callee with
   | .builtin b=>eB P b c.args.toList c.argTypes.toList
   | .value (.func f)=>match P.funcs[f]? with
     |some fn=>if fn.body.isNone then gn P fn c.args.toList else(jK c.args.toList).map fun xs=> .e (.call f xs)
     |none=>none
   | .value x=>match aY x,jK c.args.toList with
     |some x,some xs=>some (.e (.cv x xs))
     |_,_=>none
   | .invoke _ _=>none
 |_=>none
def sW(nt:Nat):Option Nat→Bool
 |none=>true
 |some d=>d<nt
def yu(P:Program)(nt:Nat)(ops:Array Oper)(o:Oper):Option CO:=
 if !sW nt o.dst then none else
 match (match o.guard with
  |none=>some none
  |some (j,want)=>match (ops[j]?).bind (·.dst)with
   |some d=>some (some (bk d,want))
   |none=>none)with
 |none=>none
 |some g=>match aB P o.op with
  |some op=>some (.mk (o.dst.map bk) op g)
  |none=>some (.mk (o.dst.map bk) (.q .bad) g)
def mV(P:Program)(nt:Nat)(ops:Array Oper):List Oper→Option (List CO)
 |[]=>some []
 |o::r=>match yu P nt ops o,mV P nt ops r with
  |some o,some r=>some (o::r)
  |_,_=>none
def isE:CO→Bool
 | .mk _ (.e _) _=>true
 |_=>false
def oJ(ms:List Nat)(cos:List CO):Nat→Nat→List (Nat×Nat×CO)
 |0,_=>[]
 |fuel+1,done=>
  let ready:=(cos.zip ms).zipIdx.filter fun((_,m),i)=> !done.testBit i&&(m&&&done)==m
  let pick:=match ready.find? fun((o,_),_)=> !isE o with
   |some r=>some r
   |none=>ready.head?
  match pick with
  |some ((o,m),i)=>(i,m,o)::oJ ms cos fuel (done|||2^i)
  |none=>[]
def X.ps:X→List aH
 | .t p=>[p]
 | .c _=>[]
def psL:List X→List aH
 |[]=>[]
 |x::r=>x.ps++psL r
def psO:Option X→List aH
 |none=>[]
 |some x=>x.ps
def psP:List (Nat×Nat×X)→List aH
 |[]=>[]
 |(_,_,x)::r=>x.ps++psP r
def am9:List (Nat×X)→List aH
 |[]=>[]
 |(_,x)::r=>x.ps++am9 r
def QO.ps:QO→List aH
 | .mv x=>x.ps
 | .pk c a b=>c.ps++(a.ps++b.ps)
 | .ld1 x=>x.ps
 | .ldn _ x=>x.ps
 | .nck x=>x.ps
 | .bi _ x y=>x.ps++y.ps
 | .eq _ _ _ x y=>x.ps++y.ps
 | .un _ x=>x.ps
 | .ci _ x=>x.ps
 | .bs x=>x.ps
 | .mki _ x=>x.ps
 | .mkf _ a b=>psL a++psL b
 | .fa _ x=>x.ps
 | .fl1 _ x=>x.ps
 | .fln _ _ x=>x.ps
 | .iaA _ _ x i=>x.ps++i.ps
 | .iaS _ x i=>x.ps++i.ps
 | .ixA1 _ _ x i=>x.ps++i.ps
 | .ixAn _ _ x i=>x.ps++i.ps
 | .ixS x i=>x.ps++i.ps
 | .slS x lo hi=>x.ps++(psO lo++psO hi)
 | .slL _ x lo hi mx=>x.ps++(psO lo++(psO hi++psO mx))
 | .slA _ _ x lo hi mx=>x.ps++(psO lo++(psO hi++psO mx))
 | .lk _ _ _ x k=>x.ps++k.ps
 | .ex _ x=>x.ps
 | .ln _ x=>x.ps
 | .lnc _=>[]
 | .cp x=>x.ps
 | .mn _ x xs=>x.ps++psL xs
 | .bld _ ps=>psP ps
 | .ta _ _ _ x=>x.ps
 | .up x=>x.ps
 | .dn _ _ x=>x.ps
 | .sd x=>x.ps
 | .xib x c=>x.ps++c.ps
 | .xcn x c=>x.ps++c.ps
 | .xcmp x y=>x.ps++y.ps
 | .sap _ x=>x.ps
 | .bad=>[]
def AO.ps:AO→List aH
 | .al _ _=>[]
 | .bx _ _ x=>x.ps
 | .bsl _ _ _ _ ps=>am9 ps
 | .mks _ _ _ _ l c=>l.ps++c.ps
 | .mkm=>[]
 | .sb _ x=>x.ps
 | .nz _ x=>x.ps
 | .rgs x=>x.ps
def EO.ps:EO→List aH
 | .call _ as0=>psL as0
 | .cv f as0=>f.ps++psL as0
 | .st _ x v=>x.ps++v.ps
 | .app _ _ _ x y=>x.ps++y.ps
 | .cpy _ x y=>x.ps++y.ps
 | .clr _ x=>x.ps
 | .mu _ m k v=>m.ps++(k.ps++v.ps)
 | .del _ m k=>m.ps++k.ps
 | .us _ x n=>x.ps++n.ps
 | .ms x=>x.ps
 | .nxs x=>x.ps
 | .rgm x=>x.ps
 | .nxm x=>x.ps
def OK.ps:OK→List aH
 | .q o=>o.ps
 | .a o=>o.ps
 | .e o=>o.ps
def gps:Option (aH×Bool)→List aH
 |none=>[]
 |some (p,_)=>[p]
def CO.ps:CO→List aH
 | .mk _ op g=>gps g++op.ps
def CO.dst:CO→Option aH
 | .mk d _ _=>d
def jg:aH→aH→Bool
 | .h,.h=>true
 | .l p,.l q=>jg p q
 | .r p,.r q=>jg p q
 |_,_=>false
def wj(p:aH):List aH→Bool
 |[]=>false
 |q::r=>bif jg p q then true else wj p r
def sU(l:List aH):Option aH→Bool
 |none=>false
 |some p=>wj p l
def qo:Option aH→Option aH→Bool
 |some p,some q=>jg p q
 |_,_=>false
def Ly(x y:CO):Bool:= !isE x&&(!sU y.ps x.dst&&(!sU x.ps y.dst&& !qo x.dst y.dst))
def s7(x y:Nat×Nat×CO):Bool:=
 !testBit x.2.1 y.1&&(!Nat.beq x.1 y.1&&(bif testBit y.2.1 x.1 then Nat.beq (Nat.lor x.2.1 y.2.1) y.2.1 else Ly x.2.2 y.2.2))
def qJ(x:Nat×Nat×CO):List (Nat×Nat×CO)→Bool
 |[]=>true
 |y::r=>s7 x y&&qJ x r
def ur:List (Nat×Nat×CO)→Bool
 |[]=>true
 |x::r=>qJ x r&&ur r
def mask1(ms:List Nat):List Edge→Nat
 |[]=>0
 |e::r=>bif Region.binds .any e then Nat.lor (Nat.lor (Nat.pow 2 e.on) ((ms[e.on]?).getD 0)) (mask1 ms r)else mask1 ms r
def A5(ms:List Nat)(n:Nat)(ops:List Oper)(x:Nat×Nat×CO):Bool:=
 match ops[x.1]? with
 |none=>false
 |some o=>Nat.beq x.2.1 (mask1 ms o.after.toList)&&(!testBit x.2.1 x.1&&Nat.blt x.2.1 (Nat.pow 2 n))
def uj(ms:List Nat)(n:Nat)(ops:List Oper):List (Nat×Nat×CO)→Bool
 |[]=>true
 |x::r=>A5 ms n ops x&&uj ms n ops r
def vH(i:Nat):List (Nat×Nat×CO)→Bool
 |[]=>false
 |x::r=>bif Nat.beq x.1 i then true else vH i r
def qk(l:List (Nat×Nat×CO)):Nat→Bool
 |0=>true
 |n+1=>vH n l&&qk l n
def CV(ops:List Oper)(ms:List Nat)(n:Nat)(l:List (Nat×Nat×CO)):Bool:=
 uj ms n ops l&&(qk l n&&ur l)
def XM(ops:List Oper)(ms:List Nat)(n:Nat)(l:List (Nat×Nat×CO)):CC:=
 bif CV ops ms n l then .dreg n l else .bad
def yy(ops:Array Oper)(cos:List CO):CC:=
 XM ops.toList (Region.before ops).toList ops.size (oJ (Region.before ops).toList cos ops.size 0)
def Fd:Code→List Nat
 | .seq a b=>Fd a++Fd b
 | .label l=>[l]
 |_=>[]
def MO(f:Nat→Option CC):List Nat→Option CC
 |[]=>some .skip
 |l::r=>match f l,MO f r with
  |some c,some t=>some (.tab l c t)
  |_,_=>none
def kv(P:Program)(nt:Nat):Nat→Code→Option CC
 |0,_=>none
 |n+1,c=>match c with
  | .skip| .label _=>some .skip
  | .region _ ops false=>(mV P nt ops ops.toList).map .reg
  | .region _ ops true=>match mV P nt ops ops.toList with
    |some cos=>some (yy ops cos)
    |none=>none
  | .seq a b=>match kv P nt n a,kv P nt n b with
    |some a,some b=>some (.seq a b)
    |_,_=>none
  | .cond x a b=>match aY x,kv P nt n a,kv P nt n b with
    |some x,some a,some b=>some (.cond x a b)
    |_,_,_=>none
  | .block id b=>(kv P nt n b).map (.block id)
  | .loop b=>(kv P nt n b).map .loop
  | .rangeFunc f ps a b=>if !(ps.toList.all fun p=>p<nt)then none else match aY f,kv P nt n a,kv P nt n b with
    |some f,some a,some b=>some (.rf f (ps.toList.map bk) a b)
    |_,_,_=>none
  | .exit id=>some (.exit id)
  | .scope b=>match kv P nt n b,MO (fun l=>(findLabel b l).bind fun c=>kv P nt n c) (Fd b)with
    |some c,some t=>some (.scope c t)
    |_,_=>none
  | .goto l=>some (.goto l)
  | .ret=>some .ret
  | .refuse _=>some .bad
def aY2(P:Program):ResultVar→Option RV
 | .tmp t=>some (.t (bk t))
 | .cell a t=>match tW P t,dR P t with
   |some true,some n=>some (.cn (bk a) n)
   |some false,some _=>some (.c1 (bk a))
   |_,_=>none
def rJ(P:Program):List ResultVar→Option (List RV)
 |[]=>some []
 |x::l=>match aY2 P x,rJ P l with
  |some x,some r=>some (x::r)
  |_,_=>none
def ag8(P:Program)(fn:Func):Option CF:=
 if fn.name== "runtime.NumGoroutine" then none else
 match fn.body with
 |none=>none
 |some b=>match kv P fn.ntmps 10000 b,rJ P fn.results.toList with
  |some body,some res=>some (.mk (Nat.log2 fn.ntmps+1) res body)
  |_,_=>none
theorem Tr.force_eq{α β:Type}(t:Tr α)(f:Tr α→β):t.force f=f t:=by cases t<;>rfl
theorem aN{β:Type}(n:Nat)(f:Nat→β):fN n f=f n:=by cases n<;>rfl
theorem Le{β:Type}(n:Int)(f:Int→β):fI n f=f n:=by
 cases n with
 |ofNat m=>exact aN m (fun m=>f (.ofNat m))
 |negSucc m=>exact aN m (fun m=>f (.negSucc m))
theorem bQ7{β:Type}(b:Bool)(f:Bool→β):fB b f=f b:=by cases b<;>rfl
theorem bb{β:Type}(b:Bool)(x y:β):(Bool.rec (motive:=fun _=>β) y x b)=if b then x else y:=by cases b<;>rfl
theorem bp(a b:Nat):Nat.beq a b=decide (a=b):=by
 rw[Bool.eq_iff_iff];simp
theorem bL(a b:Nat):Nat.ble a b=decide (a≤b):=by
 by_cases h:a≤b
 ·rw[ae h];exact Nat.ble_eq_true_of_le h
 ·rw[ag h];exact Bool.eq_false_iff.2 fun h'=>h (Nat.le_of_ble_eq_true h')
theorem dY(a b:Nat):Nat.blt a b=decide (a<b):=by
 rw[Nat.blt,bL];rfl
theorem Tr.get_e{α:Type}(k:Nat):(Tr.e:Tr α).get k=none:=rfl
theorem Tr.get_n{α:Type}(l r:Tr α)(v:Option α)(k:Nat):
 (Tr.n l v r).get k=if k=0 then v else if k%2=0 then r.get (k/2-1)else l.get (k/2):=by
 show(Bool.rec (motive:=fun _=>Option α) (Bool.rec (motive:=fun _=>Option α) (l.get (Nat.div k 2)) (r.get (Nat.sub (Nat.div k 2) 1)) (Nat.beq (Nat.mod k 2) 0)) v (Nat.beq k 0))=_
 rw[bb,bb,bp,bp]
 simp only[decide_eq_true_eq]
 rfl
theorem Tr.single_zero{α:Type}(v:Option α)(k:Nat):Tr.single v 0 k= .n .e v .e:=rfl
theorem Tr.single_succ{α:Type}(v:Option α)(f k:Nat):
 Tr.single v (f+1) k=if k=0 then .n .e v .e else if k%2=0 then .n .e none (Tr.single v f (k/2-1))else .n (Tr.single v f (k/2)) none .e:=by
 show(Bool.rec (motive:=fun _=>Tr α) (Bool.rec (motive:=fun _=>Tr α) ((Tr.single v f (Nat.div k 2)).force fun t=> .n t none .e) ((Tr.single v f (Nat.sub (Nat.div k 2) 1)).force fun t=> .n .e none t) (Nat.beq (Nat.mod k 2) 0)) (.n .e v .e) (Nat.beq k 0))=_
 rw[bb,bb,bp,bp,Tr.force_eq,Tr.force_eq]
 simp only[decide_eq_true_eq]
 rfl
theorem Tr.get_single{α:Type}(v:Option α)(f:Nat):∀(k j:Nat),k+1<2^(f+1)→(Tr.single v f k).get j=if j=k then v else none:=by
 induction f with
 |zero=>
  intro k j h;have:k=0:=by simp at h;omega
  subst this;rw[Tr.single_zero,Tr.get_n];simp only[Tr.get_e];split<;>simp
 |succ f ih=>
  intro k j h;rw[Tr.single_succ];have hp:(2:Nat)^(f+1+1)=2*2^(f+1):=by rw[Nat.pow_succ];omega
  by_cases h0:k=0
  ·subst h0;simp only[ac,Tr.get_n,Tr.get_e];split<;>simp
  ·rw[ab h0];by_cases h2:k%2=0
   ·rw[ac h2,Tr.get_n];by_cases hj:j=0
    ·subst hj;rw[ac rfl,ab (by omega)]
    ·rw[ab hj];by_cases hj2:j%2=0
     ·rw[ac hj2,ih _ _ (by omega)];by_cases hjk:j=k
      ·subst hjk;simp
      ·rw[ab hjk,ab (by omega)]
     ·rw[ab hj2,Tr.get_e,ab (by intro e;subst e;omega)]
   ·rw[ab h2,Tr.get_n];by_cases hj:j=0
    ·subst hj;rw[ac rfl,ab (by omega)]
    ·rw[ab hj];by_cases hj2:j%2=0
     ·rw[ac hj2,Tr.get_e,ab (by intro e;subst e;omega)]
     ·rw[ab hj2,ih _ _ (by omega)];by_cases hjk:j=k
      ·subst hjk;simp
      ·rw[ab hjk,ab (by omega)]
theorem Tr.put_e{α:Type}(v:Option α)(k:Nat):(Tr.e:Tr α).put v k=Tr.single v (Nat.log2 k+1) k:=rfl
theorem Tr.put_n{α:Type}(v:Option α)(l r:Tr α)(x:Option α)(k:Nat):
 (Tr.n l x r).put v k=if k=0 then .n l v r else if k%2=0 then .n l x (r.put v (k/2-1))else .n (l.put v (k/2)) x r:=by
 show(Bool.rec (motive:=fun _=>Tr α) (Bool.rec (motive:=fun _=>Tr α) ((Tr.put v l (Nat.div k 2)).force fun t=> .n t x r) ((Tr.put v r (Nat.sub (Nat.div k 2) 1)).force fun t=> .n l x t) (Nat.beq (Nat.mod k 2) 0)) (.n l v r) (Nat.beq k 0))=_
 rw[bb,bb,bp,bp,Tr.force_eq,Tr.force_eq]
 simp only[decide_eq_true_eq]
 rfl
theorem Tr.get_put{α:Type}(v:Option α)(t:Tr α):∀(k j:Nat),(t.put v k).get j=if j=k then v else t.get j:=by
 induction t with
 |e=>
  intro k j;rw[Tr.put_e,Tr.get_single]
  ·rfl
  ·have:=Nat.lt_log2_self (n:=k);have hp:(2:Nat)^(k.log2+1+1)=2*2^(k.log2+1):=by rw[Nat.pow_succ];omega
   omega
 |n l x r ihl ihr=>
  intro k j;rw[Tr.put_n,Tr.get_n l r x j];by_cases h0:k=0
  ·subst h0;rw[ac rfl,Tr.get_n];by_cases hj:j=0<;>simp[hj]
  ·rw[ab h0];by_cases h2:k%2=0
   ·rw[ac h2,Tr.get_n];by_cases hj:j=0
    ·subst hj;simp only[ac];rw[ab (by omega)]
    ·rw[ab hj,ab hj];by_cases hj2:j%2=0
     ·rw[ac hj2,ac hj2,ihr];by_cases hjk:j=k
      ·subst hjk;simp
      ·rw[ab hjk,ab (by omega)]
     ·rw[ab hj2,ab hj2,ab (by intro e;subst e;omega)]
   ·rw[ab h2,Tr.get_n];by_cases hj:j=0
    ·subst hj;simp only[ac];rw[ab (by omega)]
    ·rw[ab hj,ab hj];by_cases hj2:j%2=0
     ·rw[ac hj2,ac hj2,ab (by intro e;subst e;omega)]
     ·rw[ab hj2,ab hj2,ihl];by_cases hjk:j=k
      ·subst hjk;simp
      ·rw[ab hjk,ab (by omega)]
theorem Tr.get_set{α:Type}(t:Tr α)(k j:Nat)(v:α):(t.set k v).get j=if j=k then some v else t.get j:=Tr.get_put _ t k j
theorem Tr.get_del{α:Type}(t:Tr α)(k j:Nat):(t.del k).get j=if j=k then none else t.get j:=Tr.get_put _ t k j
theorem Tr.getP_e{α:Type}(p:aH):(Tr.e:Tr α).getP p=none:=by cases p<;>rfl
theorem Tr.getP_l{α:Type}(l r:Tr α)(v:Option α)(p:aH):(Tr.n l v r).getP (.l p)=l.getP p:=rfl
theorem Tr.getP_r{α:Type}(l r:Tr α)(v:Option α)(p:aH):(Tr.n l v r).getP (.r p)=r.getP p:=rfl
theorem Tr.setP_eh{α:Type}(v:α):(Tr.e:Tr α).setP .h v= .n .e (some v) .e:=rfl
theorem Tr.setP_el{α:Type}(v:α)(p:aH):(Tr.e:Tr α).setP (.l p) v= .n (Tr.e.setP p v) none .e:=Tr.force_eq _ (fun a=>Tr.n a none .e)
theorem Tr.setP_er{α:Type}(v:α)(p:aH):(Tr.e:Tr α).setP (.r p) v= .n .e none (Tr.e.setP p v):=Tr.force_eq _ (fun a=>Tr.n .e none a)
theorem Tr.setP_h{α:Type}(l r:Tr α)(x:Option α)(v:α):(Tr.n l x r).setP .h v= .n l (some v) r:=rfl
theorem Tr.setP_l{α:Type}(l r:Tr α)(x:Option α)(v:α)(p:aH):(Tr.n l x r).setP (.l p) v= .n (l.setP p v) x r:=Tr.force_eq _ (fun a=>Tr.n a x r)
theorem Tr.setP_r{α:Type}(l r:Tr α)(x:Option α)(v:α)(p:aH):(Tr.n l x r).setP (.r p) v= .n l x (r.setP p v):=Tr.force_eq _ (fun a=>Tr.n l x a)
theorem Tr.getP_setP_same{α:Type}(p:aH)(v:α):∀t:Tr α,(t.setP p v).getP p=some v:=by
 induction p with
 |h=>intro t;cases t<;>rfl
 |l p ih=>intro t;cases t with
  |e=>rw[Tr.setP_el,Tr.getP_l,ih]
  |n l x r=>rw[Tr.setP_l,Tr.getP_l,ih]
 |r p ih=>intro t;cases t with
  |e=>rw[Tr.setP_er,Tr.getP_r,ih]
  |n l x r=>rw[Tr.setP_r,Tr.getP_r,ih]
theorem Tr.getP_setP_ne{α:Type}(p:aH)(v:α):∀(q:aH) (t:Tr α),q≠p→(t.setP p v).getP q=t.getP q:=by
 induction p with
 |h=>intro q t hq;cases t<;>cases q<;>first|exact absurd rfl hq|(simp[Tr.setP_eh,Tr.setP_h,Tr.getP_l,Tr.getP_r,Tr.getP_e])
 |l p ih=>
  intro q t hq;cases t with
  |e=>
   rw[Tr.setP_el,Tr.getP_e];cases q with
   |h=>rfl
   |l q=>rw[Tr.getP_l,ih q _ (fun e=>hq (by rw[e])),Tr.getP_e]
   |r q=>rw[Tr.getP_r,Tr.getP_e]
  |n l x r=>
   rw[Tr.setP_l];cases q with
   |h=>rfl
   |l q=>rw[Tr.getP_l,Tr.getP_l,ih q _ (fun e=>hq (by rw[e]))]
   |r q=>rfl
 |r p ih=>
  intro q t hq;cases t with
  |e=>
   rw[Tr.setP_er,Tr.getP_e];cases q with
   |h=>rfl
   |r q=>rw[Tr.getP_r,ih q _ (fun e=>hq (by rw[e])),Tr.getP_e]
   |l q=>rw[Tr.getP_l,Tr.getP_e]
  |n l x r=>
   rw[Tr.setP_r];cases q with
   |h=>rfl
   |r q=>rw[Tr.getP_r,Tr.getP_r,ih q _ (fun e=>hq (by rw[e]))]
   |l q=>rfl
theorem Tr.setP_comm{α:Type}(p:aH)(v:α):∀(q:aH) (w:α) (t:Tr α),q≠p→(t.setP p v).setP q w=(t.setP q w).setP p v:=by
 induction p with
 |h=>
  intro q w t hq;cases t<;>cases q<;>first|exact absurd rfl hq|(simp[Tr.setP_eh,Tr.setP_h,Tr.setP_l,Tr.setP_r,Tr.setP_el,Tr.setP_er])
 |l p ih=>
  intro q w t hq;cases t with
  |e=>cases q with
   |h=>simp[Tr.setP_el,Tr.setP_h,Tr.setP_eh,Tr.setP_l]
   |l q=>rw[Tr.setP_el,Tr.setP_el,Tr.setP_l,Tr.setP_l,ih q w _ (fun e=>hq (by rw[e]))]
   |r q=>simp[Tr.setP_el,Tr.setP_er,Tr.setP_l,Tr.setP_r]
  |n l x r=>cases q with
   |h=>simp[Tr.setP_h,Tr.setP_l]
   |l q=>rw[Tr.setP_l,Tr.setP_l,Tr.setP_l,Tr.setP_l,ih q w _ (fun e=>hq (by rw[e]))]
   |r q=>simp[Tr.setP_l,Tr.setP_r]
 |r p ih=>
  intro q w t hq;cases t with
  |e=>cases q with
   |h=>simp[Tr.setP_er,Tr.setP_h,Tr.setP_eh,Tr.setP_r]
   |r q=>rw[Tr.setP_er,Tr.setP_er,Tr.setP_r,Tr.setP_r,ih q w _ (fun e=>hq (by rw[e]))]
   |l q=>simp[Tr.setP_el,Tr.setP_er,Tr.setP_l,Tr.setP_r]
  |n l x r=>cases q with
   |h=>simp[Tr.setP_h,Tr.setP_r]
   |r q=>rw[Tr.setP_r,Tr.setP_r,Tr.setP_r,Tr.setP_r,ih q w _ (fun e=>hq (by rw[e]))]
   |l q=>simp[Tr.setP_l,Tr.setP_r]
theorem tg(f k:Nat):lS (f+1) k=if k=0 then .h else if k%2=0 then .r (lS f (k/2-1))else .l (lS f (k/2)):=by
 rw[lS]
 rw[bp,bp]
 simp only[cond_eq_ite,decide_eq_true_eq]
 rfl
theorem Cr{α:Type}(f:Nat):∀(k:Nat) (t:Tr α),k+1<2^(f+1)→t.getP (lS f k)=t.get k:=by
 induction f with
 |zero=>
  intro k t h;have:k=0:=by simp at h;omega
  subst this;cases t with
  |e=>rfl
  |n l v r=>rw[Tr.get_n];rfl
 |succ f ih=>
  intro k t h;have hp:(2:Nat)^(f+1+1)=2*2^(f+1):=by rw[Nat.pow_succ];omega
  rw[tg];cases t with
  |e=>rw[Tr.getP_e,Tr.get_e]
  |n l v r=>
   rw[Tr.get_n];by_cases h0:k=0
   ·subst h0;rfl
   ·rw[ab h0,ab h0];by_cases h2:k%2=0
    ·rw[ac h2,ac h2,Tr.getP_r,ih _ _ (by omega)]
    ·rw[ab h2,ab h2,Tr.getP_l,ih _ _ (by omega)]
theorem dU{α:Type}(k:Nat)(t:Tr α):t.getP (bk k)=t.get k:=by
 refine Cr _ k t ?_
 have:=Nat.lt_log2_self (n:=k)
 have hp:(2:Nat)^(Nat.succ k.log2+1)=2*2^(k.log2+1):=by rw[Nat.pow_succ];omega
 omega
theorem ze{j k:Nat}(h:bk j=bk k):j=k:=by
 have h1:((Tr.e:Tr Nat).set k 0).getP (bk j)=some 0:=by rw[h,dU,Tr.get_set];simp
 rw[dU,Tr.get_set]at h1
 by_cases e:j=k
 ·exact e
 ·rw[ab e,Tr.get_e]at h1;cases h1
theorem tQ{α:Type}(t:Tr α)(k j:Nat)(v:α):(t.setP (bk k) v).getP (bk j)=if j=k then some v else t.getP (bk j):=by
 by_cases e:j=k
 ·subst e;rw[ac rfl,Tr.getP_setP_same]
 ·rw[ab e,Tr.getP_setP_ne _ _ _ _ (fun h=>e (ze h))]
theorem vR(k:Nat)(t:T):aW [] k t=t:=rfl
theorem cH(v:V)(l:List V)(k:Nat)(t:T):aW (v::l) k t=aW l (k+1) (t.set k v):=Tr.force_eq _ _
theorem dq(vs:List V):∀(k:Nat) (t:T) (j:Nat),(aW vs k t).get j=if k≤j∧j<k+vs.length then vs[j-k]? else t.get j:=by
 induction vs with
 |nil=>intro k t j;rw[vR,ab (by simp)]
 |cons v l ih=>
  intro k t j;rw[cH,ih,Tr.get_set];by_cases h:j=k
  ·subst h;rw[ab (by omega),ac rfl,ac (by simp),Nat.sub_self,List.getElem?_cons_zero]
  ·rw[ab h];by_cases h2:k+1≤j∧j<k+1+l.length
   ·rw[ac h2,ac (by simp;omega)];have:j-k=(j-(k+1))+1:=by omega
    rw[this,List.getElem?_cons_succ]
   ·rw[ab h2,ab (by simp;omega)]
theorem kO{α:Type}(l:List α):∀k,xX l k=l[k]?:=by
 induction l with
 |nil=>intro k;rfl
 |cons h t ih=>
  intro k;show(Bool.rec (motive:=fun _=>Option α) (xX t (Nat.sub k 1)) (some h) (Nat.beq k 0))=_;rw[bb,bp];cases k with
  |zero=>rfl
  |succ k=>simp only[decide_eq_true_eq];rw[ab (by omega)];show xX t (k+1-1)=_;rw[Nat.add_sub_cancel,ih];rfl
theorem eW(n:Nat):∀x,(bl n x).length=n:=by
 induction n with
 |zero=>intro x;rfl
 |succ n ih=>intro x;simp[bl,ih]
theorem d8(n x:Nat):(ba n x).size=n:=by
 show(bl n x).toArray.size=n
 simp[eW]
theorem Er(n:Nat):∀(x i:Nat),i<n→(bl n x)[i]?=some (UInt8.ofNat (x/256^i%256)):=by
 induction n with
 |zero=>intro x i h;omega
 |succ n ih=>
  intro x i h;cases i with
  |zero=>simp[bl]
  |succ i=>
   rw[bl,List.getElem?_cons_succ,ih _ _ (by omega),Nat.div_div_eq_div_mul];rw[show 256*256^i=256^(i+1) by rw[Nat.pow_succ,Nat.mul_comm]]
theorem uX(n:Nat):∀(x:Nat),bl n (x%256^n)=bl n x:=by
 induction n with
 |zero=>intro x;rfl
 |succ n ih=>
  intro x;rw[bl,bl];have hp:(256:Nat)^(n+1)=256*256^n:=by rw[Nat.pow_succ,Nat.mul_comm]
  rw[hp,Nat.mod_mul];have h1:(x%256+256*(x/256%256^n))%256=x%256:=by omega
  have h2:(x%256+256*(x/256%256^n))/256=x/256%256^n:=by
   rw[Nat.add_mul_div_left _ _ (by decide)];omega
  rw[h1,h2,ih]
theorem NY(n:Nat):∀(m x y:Nat),bl (n+m) (x%256^n+256^n*y)=bl n x++bl m y:=by
 induction n with
 |zero=>intro m x y;simp[bl,Nat.mod_one]
 |succ n ih=>
  intro m x y;have hp:(256:Nat)^(n+1)=256*256^n:=by rw[Nat.pow_succ,Nat.mul_comm]
  rw[show n+1+m=(n+m)+1 by omega,bl,bl,List.cons_append,←ih];have e:x%256^(n+1)+256^(n+1)*y=x%256+256*(x/256%256^n+256^n*y):=by
   rw[hp,Nat.mod_mul,Nat.mul_add,Nat.mul_assoc,Nat.add_assoc]
  rw[e];have h1:(x%256+256*(x/256%256^n+256^n*y))%256=x%256:=by omega
  have h2:(x%256+256*(x/256%256^n+256^n*y))/256=x/256%256^n+256^n*y:=by
   rw[Nat.add_mul_div_left _ _ (by decide)];omega
  rw[h1,h2]
theorem ae5(l:Nat):∀(n x:Nat),l≤n→(bl n x).drop l=bl (n-l) (x/256^l):=by
 induction l with
 |zero=>intro n x _;simp
 |succ l ih=>
  intro n x h;obtain⟨m,rfl⟩:∃m,n=m+1:=⟨n-1,by omega⟩
  rw[bl,List.drop_succ_cons,ih _ _ (by omega),Nat.div_div_eq_div_mul,show m+1-(l+1)=m-l by omega];rw[show 256*256^l=256^(l+1) by rw[Nat.pow_succ,Nat.mul_comm]]
theorem A1(n:Nat):∀(m x:Nat),n≤m→(bl m x).take n=bl n x:=by
 induction n with
 |zero=>intro m x _;simp[bl]
 |succ n ih=>
  intro m x h;obtain⟨k,rfl⟩:∃k,m=k+1:=⟨m-1,by omega⟩
  rw[bl,bl,List.take_succ_cons,ih _ _ (by omega)]
theorem Xn(n:Nat):∀(x y:Nat),bl n x=bl n y→x%256^n=y%256^n:=by
 induction n with
 |zero=>intro x y _;simp[Nat.mod_one]
 |succ n ih=>
  intro x y h;rw[bl,bl,List.cons.injEq]at h;have hp:(256:Nat)^(n+1)=256*256^n:=by rw[Nat.pow_succ,Nat.mul_comm]
  rw[hp,Nat.mod_mul,Nat.mod_mul,ih _ _ h.2];have h1:x%256=y%256:=by
   have:=congrArg UInt8.toNat h.1
   simpa [UInt8.toNat_ofNat']using this
  rw[h1]
theorem jy(n x m y:Nat):nE n x m y=decide (bl n x=bl m y):=by
 show(Bool.rec (motive:=fun _=>Bool) false (Nat.beq (Nat.mod x (j8 n)) (Nat.mod y (j8 n))) (Nat.beq n m))=_
 rw[bb,bp,bp]
 by_cases h:n=m
 ·subst h;rw[ac (by simp)];rw[Bool.eq_iff_iff,decide_eq_true_iff,decide_eq_true_iff];constructor
  ·intro e;have e':x%256^n=y%256^n:=e;rw[←uX n x,←uX n y,e']
  ·exact fun e=>Xn n x y e
 ·rw[ab (by simpa using h)]
  symm
  rw[decide_eq_false_iff_not];intro e;have:=congrArg List.length e;rw[eW,eW]at this;exact h this
theorem iM(l:List UInt8):bl l.length (bH l)=l:=by
 induction l with
 |nil=>rfl
 |cons c l ih=>
  have h0:=UInt8.toNat_lt c;rw[aX,bl,bH];have h1:(c.toNat+256*bH l)%256=c.toNat:=by omega
  have h2:(c.toNat+256*bH l)/256=bH l:=by omega
  rw[h1,h2,ih]
  congr 1
  exact UInt8.ofNat_toNat
def pr2(x y:Nat):Nat:=2^x*(2*y+1)
theorem Ar:∀{x y x' y':Nat},pr2 x y=pr2 x' y'→x=x'∧y=y'
 |0,y,0,y',h=>by unfold pr2 at h;simp at h;exact⟨rfl,by omega⟩
 |0,y,x'+1,y',h=>by
  unfold pr2 at h;rw[Nat.pow_succ,Nat.mul_comm (2^x') 2,Nat.mul_assoc]at h;omega
 |x+1,y,0,y',h=>by
  unfold pr2 at h;rw[Nat.pow_succ,Nat.mul_comm (2^x) 2,Nat.mul_assoc]at h;omega
 |x+1,y,x'+1,y',h=>by
  unfold pr2 at h;rw[Nat.pow_succ,Nat.mul_comm (2^x) 2,Nat.mul_assoc,Nat.pow_succ,Nat.mul_comm (2^x') 2,Nat.mul_assoc]at h;obtain⟨h1,h2⟩:=Ar (x:=x) (x':=x') (y:=y) (y':=y') (by unfold pr2;omega);exact⟨by omega,h2⟩
def BZ(a:Addr):Nat:=pr2 a.block (pr2 a.off (match a.spot with|none=>0|some k=>k+1))
theorem ad7{a a':Addr}(h:BZ a=BZ a'):a=a':=by
 obtain⟨b,o,s⟩:=a
 obtain⟨b',o',s'⟩:=a'
 obtain⟨h1,h2⟩:=Ar h
 obtain⟨h3,h4⟩:=Ar h2
 have h1':b=b':=h1
 have h3':o=o':=h3
 subst h1' h3'
 cases s<;>cases s'<;>simp at h4<;>first|rfl|(subst h4;rfl)
open Classical in
def adD(n:Nat):Addr:=if h:∃a,BZ a=n then h.choose else⟨0,0,none⟩
theorem bF3(a:Addr):adD (BZ a)=a:=by
 unfold adD
 rw[dif_pos ⟨a,rfl⟩]
 exact ad7 (Exists.choose_spec (p:=fun x=>BZ x=BZ a) ⟨a,rfl⟩)
structure cE where
 ρ:Nat→Nat
 β:Nat→Nat
 κ:Nat→Nat
mutual
def conc(E:cE):V→Value
 | .b x=> .bool x
 | .i k n=> .int k n
 | .s n x=> .string (ba n x)
 | .p b o=> .pointer (some ⟨E.ρ b,E.β b+o,none⟩)
 | .p0=> .pointer none
 | .l b o n c=> .slice (some ⟨E.ρ b,E.β b+o,none⟩) n c
 | .u b o n el kn=> .slice (some ⟨E.ρ b,E.β b+o,none⟩) n (kn-el+E.κ b)
 | .ue b o0 o=> .slice (some (if E.κ b=0 then(if o<o0 then adD b else⟨E.ρ b,E.β b+o0,none⟩)else⟨E.ρ b,E.β b+o,none⟩)) 0 (E.κ b)
 | .l0=> .slice none 0 0
 | .m b=> .map (some (E.ρ b))
 | .m0=> .map none
 | .f fn a c=> .func (.func fn) (aw E a).toArray (aw E c).toArray
 | .y b=> .func (.yield (E.ρ b)) #[] #[]
 | .f0=> .nilFunc
 | .a t v=> .iface t (conc E v)
 | .a0=> .nilIface
 | .g cs=> .agg (aw E cs).toArray
 | .t cs=> .tuple (aw E cs).toArray
def aw(E:cE):List V→List Value
 |[]=>[]
 |v::l=>conc E v::aw E l
end
theorem aZ(E:cE)(l:List V):aw E l=l.map (conc E):=by
 induction l with
 |nil=>rfl
 |cons v l ih=>simp[aw,ih]
mutual
def bd(c:Nat→Prop):V→Prop
 | .p b _| .l b _ _ _| .u b _ _ _ _| .ue b _ _| .m b| .y b=>c b
 | .f _ a d=>fE c a∧fE c d
 | .a _ v=>bd c v
 | .g cs| .t cs=>fE c cs
 |_=>True
def fE(c:Nat→Prop):List V→Prop
 |[]=>True
 |v::l=>bd c v∧fE c l
end
theorem kq(c:Nat→Prop)(l:List V):fE c l↔ ∀v∈l,bd c v:=by
 induction l with
 |nil=>simp[fE]
 |cons v l ih=>simp[fE,ih]
structure pT(c:Nat→Prop)(E E':cE):Prop where
 ρ:∀b,c b→E'.ρ b=E.ρ b
 β:∀b,c b→E'.β b=E.β b
 κ:∀b,c b→E'.κ b=E.κ b
theorem pT.refl(c:Nat→Prop)(E:cE):pT c E E:=⟨fun _ _=>rfl,fun _ _=>rfl,fun _ _=>rfl⟩
theorem pT.trans{c d:Nat→Prop}{E E' E'':cE}(h:pT c E E')(h':pT d E' E'')(hc:∀b,c b→d b):pT c E E'':=
 ⟨fun b hb=>(h'.ρ b (hc b hb)).trans (h.ρ b hb),fun b hb=>(h'.β b (hc b hb)).trans (h.β b hb),fun b hb=>(h'.κ b (hc b hb)).trans (h.κ b hb)⟩
theorem pT.sub{c d:Nat→Prop}{E E':cE}(h:pT d E E')(hc:∀b,c b→d b):pT c E E':=
 ⟨fun b hb=>h.ρ b (hc b hb),fun b hb=>h.β b (hc b hb),fun b hb=>h.κ b (hc b hb)⟩
mutual
theorem dv{c:Nat→Prop}{E E':cE}(h:pT c E E'):∀v,bd c v→conc E' v=conc E v
 | .b _,_| .i _ _,_| .s _ _,_| .p0,_| .l0,_| .m0,_| .f0,_| .a0,_=>rfl
 | .p b o,hb=>by simp only[conc];rw[h.ρ b hb,h.β b hb]
 | .l b o n k,hb=>by simp only[conc];rw[h.ρ b hb,h.β b hb]
 | .u b o n el kn,hb=>by simp only[conc];rw[h.ρ b hb,h.β b hb,h.κ b hb]
 | .ue b o0 o,hb=>by simp only[conc];rw[h.ρ b hb,h.β b hb,h.κ b hb]
 | .m b,hb=>by simp only[conc];rw[h.ρ b hb]
 | .y b,hb=>by simp only[conc];rw[h.ρ b hb]
 | .f fn a d,hb=>by simp only[conc];rw[kZ h a hb.1,kZ h d hb.2]
 | .a t v,hb=>by simp only[conc];rw[dv h v hb]
 | .g cs,hb=>by simp only[conc];rw[kZ h cs hb]
 | .t cs,hb=>by simp only[conc];rw[kZ h cs hb]
theorem kZ{c:Nat→Prop}{E E':cE}(h:pT c E E'):∀l,fE c l→aw E' l=aw E l
 |[],_=>rfl
 |v::l,hb=>by simp only[aw];rw[dv h v hb.1,kZ h l hb.2]
end
mutual
theorem dp{c d:Nat→Prop}(h:∀b,c b→d b):∀v,bd c v→bd d v
 | .b _,_| .i _ _,_| .s _ _,_| .p0,_| .l0,_| .m0,_| .f0,_| .a0,_=>trivial
 | .p _ _,hb=>h _ hb
 | .l _ _ _ _,hb=>h _ hb
 | .u _ _ _ _ _,hb=>h _ hb
 | .ue _ _ _,hb=>h _ hb
 | .m _,hb=>h _ hb
 | .y _,hb=>h _ hb
 | .f _ a e,hb=>⟨kX h a hb.1,kX h e hb.2⟩
 | .a _ v,hb=>dp h v hb
 | .g cs,hb=>kX h cs hb
 | .t cs,hb=>kX h cs hb
theorem kX{c d:Nat→Prop}(h:∀b,c b→d b):∀l,fE c l→fE d l
 |[],_=>trivial
 |v::l,hb=>⟨dp h v hb.1,kX h l hb.2⟩
end
def Sim(P:Program)(nt:Nat)(c:Code)(cc:CC):Prop:=∃n,kv P nt n c=some cc
def rB(E:cE)(t:T)(tmps:Array Value):Prop:=∀n,tmps.getD n Go.undef=conc E (cq t (bk n))
def Xh(c:Nat→Prop)(t:T):Prop:=∀p,bd c (cq t p)
def bW4:LS→LoopState
 | .ready=> .ready
 | .busy=> .busy
 | .done=> .done
 | .exhausted=> .exhausted
def Fu:zH→Option Code
 | .none=>none
 | .ret=>some .ret
 | .ext id=>some (.exit id)
def entry(E:cE)(e:V×V×Nat):MapEntry:={key:=conc E e.1,val:=conc E e.2.1,born:=e.2.2}
def uD(fr:Nat×Nat)(k size:Nat):Prop:=∀o,k≤o→o<size→ ¬(fr.1≤o∧o<fr.2)
structure jA(P:Program)(E:cE)(b ty n:Nat)(ex:Bool)(fz:Nat)(str:Bool)(d:List V)(c:T)(arr:Array Value)(fr:Nat×Nat):Prop where
 cell:∀k v,cell n d c k=some v→arr[E.β b+k]?=some (conc E v)
 size:if ex then E.β b=0∧arr.size=n else arr.size=E.β b+n+E.κ b*P.cellsOf ty
 free:uD fr (E.β b+fz) arr.size
 plain:str=false→fr.1=fr.2∨(fz≠0∧fr.2≤E.β b+fz)
def eY(P:Program)(E:cE)(b:Nat)(blk:bq)(o:Obj):Prop:=
 match blk with
 | .cells ty n ex fz str d c=>∃arr fr,o= .cells arr ty fr∧jA P E b ty n ex fz str d c arr fr
 | .map es clock=>o= .map (es.map (entry E)).toArray clock
 | .loop s pe fn tm ps asg body dn=>∃(fn':FuncId) (tmps:Array Value) (params:Array Tmp) (ca cb:Code),
   o= .loop {state:=bW4 s,pending:=Fu pe,fn:=fn',tmps,params,assign:=ca,body:=cb,defers:=E.ρ dn}∧
   rB E tm tmps∧params.toList.map bk=ps∧ ∃nt,nt≤tmps.size∧(∀p∈params.toList,p<nt)∧Sim P nt ca asg∧Sim P nt cb body
 | .defs taken=>o= .deferred (if taken then none else some [])
 | .siter n s pos=>E.β b=0∧o= .stringIter (ba n s) pos
 | .miter m since seen stepped=>E.β b=0∧o= .mapIter (m.map E.ρ) since seen.toArray stepped
def f6(c:Nat→Prop)(blk:bq):Prop:=
 match blk with
 | .cells _ n _ _ _ d t=>∀k v,cell n d t k=some v→bd c v
 | .map es _=>∀e∈es,bd c e.1∧bd c e.2.1
 | .loop _ _ _ tm _ _ _ dn=>Xh c tm∧c dn
 | .defs _=>True
 | .siter _ _ _=>True
 | .miter m _ _ _=>∀b,m=some b→c b
structure jl(P:Program)(E:cE)(F:RO)(M:Mem)(c:Nat→Prop)(w:World):Prop where
 has:∀b blk,look F M b=some blk→c b∧f6 c blk∧ ∃o,w.heap[E.ρ b]?=some o∧eY P E b blk o
 inj:∀b b',(look F M b).isSome→(look F M b').isSome→E.ρ b=E.ρ b'→b=b'
 apart:∀b,(aV F b).isSome→M.get b=none
structure lw(P:Program)(F:RO)(E:cE)(M:Mem)(c:Nat→Prop)(w:World)(E':cE)(M':Mem)(c':Nat→Prop)(w':World):Prop where
 ext:pT c E E'
 le:∀b,c b→c' b
 rel:jl P E' F M' c' w'
 own:∀b,(M'.get b).isSome→(∃b0,(M.get b0).isSome∧E.ρ b0=E'.ρ b)∨w.heap.size≤E'.ρ b
 frame:∀r,r<w.heap.size→(∀b,(M.get b).isSome→E.ρ b≠r)→w'.heap[r]?=w.heap[r]?
 size:w.heap.size≤w'.heap.size
 os:w'.os=w.os
 output:w'.output=w.output
 tape:w'.tape=w.tape
theorem lw.refl{P:Program}{F:RO}{E:cE}{M:Mem}{c:Nat→Prop}{w:World}(h:jl P E F M c w):lw P F E M c w E M c w:=
 ⟨.refl c E,fun _ h=>h,h,fun b hb=> .inl ⟨b,hb,rfl⟩,fun _ _ _=>rfl,ah _,rfl,rfl,rfl⟩
theorem lw.trans{P:Program}{F:RO}{E E₁ E₂:cE}{M M₁ M₂:Mem}{c c₁ c₂:Nat→Prop}{w w₁ w₂:World}
 (h:lw P F E M c w E₁ M₁ c₁ w₁) (h':lw P F E₁ M₁ c₁ w₁ E₂ M₂ c₂ w₂):lw P F E M c w E₂ M₂ c₂ w₂ where
 ext:=h.ext.trans h'.ext h.le
 le:=fun b hb=>h'.le b (h.le b hb)
 rel:=h'.rel
 own:=by
  intro b hb;rcases h'.own b hb with⟨b1,h1,e1⟩|h1
  ·rcases h.own b1 h1 with⟨b0,h0,e0⟩|h0
   ·exact .inl ⟨b0,h0,e0.trans e1⟩
   ·exact .inr (e1▸h0)
  ·exact .inr (bn h.size h1)
 frame:=by
  intro r hr hn;rw[h'.frame r (Nat.lt_of_lt_of_le hr h.size),h.frame r hr hn];intro b1 h1 e;rcases h.own b1 h1 with⟨b0,h0,e0⟩|h0
  ·exact hn b0 h0 (e0.trans e)
  ·omega
 size:=bn h.size h'.size
 os:=h'.os.trans h.os
 output:=h'.output.trans h.output
 tape:=h'.tape.trans h.tape
theorem aq{F:RO}{M:Mem}{b:Nat}{blk:bq}(h:M.get b=some blk):look F M b=some blk:=by
 show Option.rec (motive:=fun _=>Option bq) (aV F b) (fun b=>some b) (M.get b)=_
 rw[h]
theorem aC{F:RO}{M:Mem}{b:Nat}(h:M.get b=none):look F M b=aV F b:=by
 show Option.rec (motive:=fun _=>Option bq) (aV F b) (fun b=>some b) (M.get b)=_
 rw[h]
theorem eH{F:RO}{M M':Mem}{b:Nat}(h:M'.get b=M.get b):look F M' b=look F M b:=by
 show Option.rec (motive:=fun _=>Option bq) (aV F b) (fun b=>some b) (M'.get b)=Option.rec (motive:=fun _=>Option bq) (aV F b) (fun b=>some b) (M.get b)
 rw[h]
theorem oP{F:RO}{M:Mem}{b:Nat}(h:(M.get b).isSome):(look F M b).isSome:=by
 obtain⟨x,hx⟩:=bm.1 h
 rw[aq hx];rfl
theorem jA.ext{P:Program}{E E':cE}{b ty n fz:Nat}{ex str:Bool}{d:List V}{c:T}{arr:Array Value}{fr:Nat×Nat}{k:Nat→Prop}
 (h:jA P E b ty n ex fz str d c arr fr) (he:pT k E E') (hb:k b) (hv:∀i v,Ev.cell n d c i=some v→bd k v):
 jA P E' b ty n ex fz str d c arr fr where
 cell:=fun i v hi=>by rw[he.β b hb,dv he v (hv i v hi)];exact h.cell i v hi
 size:=by rw[he.β b hb,he.κ b hb];exact h.size
 free:=by rw[he.β b hb];exact h.free
 plain:=by rw[he.β b hb];exact h.plain
theorem rB.ext{E E':cE}{t:T}{tmps:Array Value}{k:Nat→Prop}(h:rB E t tmps)(he:pT k E E')(hb:Xh k t):rB E' t tmps:=
 fun n=>by rw[h n,dv he _ (hb _)]
theorem O8{E E':cE}{k:Nat→Prop}(he:pT k E E'){e:V×V×Nat}(h:bd k e.1∧bd k e.2.1):entry E' e=entry E e:=by
 simp only[entry];rw[dv he _ h.1,dv he _ h.2]
theorem eY.ext{P:Program}{E E':cE}{b:Nat}{blk:bq}{o:Obj}{k:Nat→Prop}(h:eY P E b blk o)(he:pT k E E')(hb:k b)(hv:f6 k blk):eY P E' b blk o:=by
 cases blk with
 |cells ty n ex fz str d c=>
  obtain⟨arr,fr,rfl,hc⟩:=h;exact⟨arr,fr,rfl,hc.ext he hb hv⟩
 |map es clock=>
  show o=_;rw[show es.map (entry E')=es.map (entry E)from List.map_congr_left fun e he'=>O8 he (hv e he')];exact h
 |loop s pe fn tm ps asg body dn=>
  obtain⟨fn',tmps,params,ca,cb,rfl,ht,hp,hq⟩:=h;refine⟨fn',tmps,params,ca,cb,?_,ht.ext he hv.1,hp,hq⟩;rw[he.ρ dn hv.2]
 |defs taken=>exact h
 |siter n s pos=>exact⟨by rw[he.β b hb];exact h.1,h.2⟩
 |miter m since seen stepped=>
  refine⟨by rw[he.β b hb];exact h.1,?_⟩;rw[show m.map E'.ρ=m.map E.ρ by
   cases m with
   |none=>rfl
   |some b=>simp only[Option.map_some];rw[he.ρ b (hv b rfl)]]
  exact h.2
theorem fq{c d:Nat→Prop}(h:∀b,c b→d b)(blk:bq)(hb:f6 c blk):f6 d blk:=by
 cases blk with
 |cells ty n ex fz str dd t=>exact fun k v hk=>dp h v (hb k v hk)
 |map es clock=>exact fun e he=>⟨dp h _ (hb e he).1,dp h _ (hb e he).2⟩
 |loop s pe fn tm ps asg body dn=>exact⟨fun p=>dp h _ (hb.1 p),h _ hb.2⟩
 |defs taken=>trivial
 |siter n s pos=>trivial
 |miter m since seen stepped=>exact fun b e=>h _ (hb b e)
theorem jl.alloc{P:Program}{E:cE}{F:RO}{M:Mem}{c:Nat→Prop}{w:World}(h:jl P E F M c w)(blk:bq)(o:Obj)(b κ':Nat)(c':Nat→Prop)(hbc:¬c b)(hbc':c' b)(hcc:∀b,c b→c' b)
 (hbd:f6 c' blk) (w':World) (hh:w'.heap=w.heap.push o) (hos:w'.os=w.os) (hout:w'.output=w.output) (htape:w'.tape=w.tape)
 (hr:∀E':cE,pT c E E'→E'.ρ b=w.heap.size→E'.β b=0→E'.κ b=κ'→eY P E' b blk o):
 ∃E',lw P F E M c w E' (M.set b blk) c' w'∧pT (· ≠b) E E'∧E'.ρ b=w.heap.size∧E'.β b=0∧E'.κ b=κ':=by
 let E':cE:=⟨fun x=>if x=b then w.heap.size else E.ρ x,fun x=>if x=b then 0 else E.β x,fun x=>if x=b then κ' else E.κ x⟩
 have he:pT (· ≠b) E E':=⟨fun x hx=>ab hx,fun x hx=>ab hx,fun x hx=>ab hx⟩
 have hec:pT c E E':=he.sub fun x hx e=>hbc (e▸hx)
 have hρ:E'.ρ b=w.heap.size:=ac rfl
 have hold:∀x y,look F (M.set b blk) x=some y→x≠b→look F M x=some y:=by
  intro x y hx hne;rw[eH (M:=M) (by rw[Tr.get_set,ab hne])]at hx;exact hx
 have hlt:∀x y,look F M x=some y→E.ρ x<w.heap.size:=by
  intro x y hx;obtain⟨_,_,o',ho',_⟩:=h.has x y hx;exact(Array.getElem?_eq_some_iff.1 ho').1
 have hnew:look F M b=none:=by
  cases hl:look F M b with
  |none=>rfl
  |some y=>exact absurd (h.has b y hl).1 hbc
 refine⟨E',⟨hec,hcc,⟨?_,?_,?_⟩,?_,?_,?_,hos,hout,htape⟩,he,hρ,ac rfl,ac rfl⟩
 ·intro x y hx;by_cases hxb:x=b
  ·subst hxb;rw[aq (by rw[Tr.get_set,ac rfl])]at hx;obtain rfl:blk=y:=by simpa using hx
   exact⟨hbc',hbd,o,by rw[hρ,hh,Array.getElem?_push_size],hr E' hec hρ (ac rfl) (ac rfl)⟩
  ·have hx':=hold x y hx hxb;obtain⟨h1,h2,o',h3,h4⟩:=h.has x y hx';refine⟨hcc x h1,fq hcc y h2,o',?_,h4.ext hec h1 h2⟩;rw[hec.ρ x h1,hh,Array.getElem?_push_lt (hlt x y hx'),←Array.getElem?_eq_getElem (hlt x y hx')];exact h3
 ·intro x x' hx hx' e;by_cases h1:x=b
  ·by_cases h2:x'=b
   ·rw[h1,h2]
   ·exfalso;obtain⟨y,hy⟩:=bm.1 hx';have hy':=hold x' y hy h2;rw[h1,hρ,hec.ρ x' (h.has x' y hy').1]at e;have:=hlt x' y hy';omega
  ·obtain⟨y,hy⟩:=bm.1 hx;have hy1:=hold x y hy h1;by_cases h2:x'=b
   ·exfalso;rw[h2,hρ,hec.ρ x (h.has x y hy1).1]at e;have:=hlt x y hy1;omega
   ·obtain⟨y',hy'⟩:=bm.1 hx';have hy2:=hold x' y' hy' h2;rw[hec.ρ x (h.has x y hy1).1,hec.ρ x' (h.has x' y' hy2).1]at e;exact h.inj x x' (by rw[hy1];rfl) (by rw[hy2];rfl) e
 ·intro x hx;rw[Tr.get_set];have hne:x≠b:=by
   intro e;rw[e]at hx;obtain⟨y,hy⟩:=bm.1 hx;have hM:M.get b=none:=h.apart b hx;rw[aC hM,hy]at hnew;cases hnew
  rw[ab hne];exact h.apart x hx
 ·intro x hx;rw[Tr.get_set]at hx;by_cases hxb:x=b
  ·exact .inr (by rw[hxb,hρ];exact ah _)
  ·rw[ab hxb]at hx;obtain⟨y,hy⟩:=bm.1 hx;exact .inl ⟨x,hx,(hec.ρ x (h.has x y (aq hy)).1).symm⟩
 ·intro r hr' _;rw[hh,Array.getElem?_push_lt hr',←Array.getElem?_eq_getElem hr']
 ·rw[hh];simp
theorem jl.write{P:Program}{E:cE}{F:RO}{M:Mem}{c:Nat→Prop}{w:World}(h:jl P E F M c w)(b:Nat)(blk blk':bq)(hb:M.get b=some blk)(o':Obj)
 (hbd:f6 c blk') (w':World) (hh:w'.heap=w.heap.setIfInBounds (E.ρ b) o') (hos:w'.os=w.os) (hout:w'.output=w.output) (htape:w'.tape=w.tape)
 (hr:eY P E b blk' o'):lw P F E M c w E (M.set b blk') c w':=by
 have hlt:E.ρ b<w.heap.size:=by
  obtain⟨_,_,o,ho,_⟩:=h.has b blk (aq hb);exact(Array.getElem?_eq_some_iff.1 ho).1
 have hsome:∀x,(look F (M.set b blk') x).isSome→(look F M x).isSome:=by
  intro x hx;by_cases e:x=b
  ·rw[e,aq hb];rfl
  ·rwa [eH (M:=M) (by rw[Tr.get_set,ab e])]at hx
 refine⟨.refl c E,fun _ h=>h,⟨?_,?_,?_⟩,?_,?_,?_,hos,hout,htape⟩
 ·intro x y hx;by_cases e:x=b
  ·subst e;rw[aq (by rw[Tr.get_set,ac rfl])]at hx;obtain rfl:blk'=y:=by simpa using hx
   exact⟨(h.has x blk (aq hb)).1,hbd,o',by rw[hh];simp[hlt],hr⟩
  ·have hx':look F M x=some y:=by rwa [eH (M:=M) (by rw[Tr.get_set,ab e])]at hx
   obtain⟨h1,h2,o,h3,h4⟩:=h.has x y hx';refine⟨h1,h2,o,?_,h4⟩;have hne:E.ρ b≠E.ρ x:=fun e'=>e (h.inj b x (by rw[aq hb];rfl) (by rw[hx'];rfl) e').symm;rw[hh,Array.getElem?_setIfInBounds_ne hne];exact h3
 ·exact fun x x' hx hx' e=>h.inj x x' (hsome x hx) (hsome x' hx') e
 ·intro x hx;have hM:=h.apart x hx;have hne:x≠b:=by intro e;rw[e,hb]at hM;cases hM
  rw[Tr.get_set,ab hne];exact hM
 ·intro x hx;rw[Tr.get_set]at hx;by_cases e:x=b
  ·exact .inl ⟨b,by rw[hb];rfl,by rw[e]⟩
  ·rw[ab e]at hx;exact .inl ⟨x,hx,rfl⟩
 ·intro r _ hn;have hne:E.ρ b≠r:=hn b (by rw[hb];rfl);rw[hh,Array.getElem?_setIfInBounds_ne hne]
 ·rw[hh];simp
theorem jl.world{P:Program}{E:cE}{F:RO}{M:Mem}{c:Nat→Prop}{w w':World}(h:jl P E F M c w)(hh:w'.heap=w.heap):jl P E F M c w':=
 ⟨fun b blk hb=>let⟨h1,h2,o,h3,h4⟩:=h.has b blk hb;⟨h1,h2,o,by rw[hh];exact h3,h4⟩,h.inj,h.apart⟩
theorem jl.more{P:Program}{E:cE}{F:RO}{M:Mem}{c c':Nat→Prop}{w:World}(h:jl P E F M c w)(hc:∀b,c b→c' b):jl P E F M c' w:=
 ⟨fun b blk hb=>let⟨h1,h2,h3⟩:=h.has b blk hb;⟨hc _ h1,fq hc blk h2,h3⟩,h.inj,h.apart⟩
theorem lw.world{P:Program}{F:RO}{E E':cE}{M M':Mem}{c c':Nat→Prop}{w w' w'':World}(h:lw P F E M c w E' M' c' w')(hh:w''.heap=w'.heap)
 (hos:w''.os=w'.os) (hout:w''.output=w'.output) (htape:w''.tape=w'.tape):lw P F E M c w E' M' c' w'':=
 ⟨h.ext,h.le,h.rel.world hh,h.own,fun r hr hn=>by rw[hh];exact h.frame r hr hn,by rw[hh];exact h.size,hos.trans h.os,hout.trans h.output,htape.trans h.tape⟩
mutual
theorem nF(E:cE)(c:Nat→Prop):∀(n:Nat) (v:Value) (x:V),toV n v=some x→conc E x=v∧bd c x:=by
 intro n
 cases n with
 |zero=>intro v x h;simp[toV]at h
 |succ n=>
  intro v x h;rw[toV.eq_def]at h;dsimp only at h;split at h
  ·obtain rfl:=af h;exact⟨rfl,trivial⟩
  ·obtain rfl:=af h;exact⟨rfl,trivial⟩
  ·rename_i s;obtain rfl:=af h;refine⟨?_,trivial⟩;simp only[conc,ba];rw[iM]
  ·obtain rfl:=af h;exact⟨rfl,trivial⟩
  ·obtain rfl:=af h;exact⟨rfl,trivial⟩
  ·obtain rfl:=af h;exact⟨rfl,trivial⟩
  ·obtain rfl:=af h;exact⟨rfl,trivial⟩
  ·obtain rfl:=af h;exact⟨rfl,trivial⟩
  ·rename_i t v;obtain⟨y,hy,rfl⟩:=b9.1 h;have:=nF E c n v y hy;exact⟨by simp only[conc];rw[this.1],this.2⟩
  ·rename_i cs;obtain⟨y,hy,rfl⟩:=b9.1 h;have:=ss E c n cs.toList y hy;exact⟨by simp only[conc];rw[this.1],this.2⟩
  ·rename_i cs;obtain⟨y,hy,rfl⟩:=b9.1 h;have:=ss E c n cs.toList y hy;exact⟨by simp only[conc];rw[this.1],this.2⟩
  ·rename_i f first caps
   split at h
   ·rename_i hh;obtain rfl:=af h;simp only[aD,Array.isEmpty_iff]at hh;refine⟨?_,trivial,trivial⟩;rw[hh.1,hh.2];rfl
   ·cases h
  ·cases h
theorem ss(E:cE)(c:Nat→Prop):∀(n:Nat) (l:List Value) (x:List V),FV n l=some x→aw E x=l∧fE c x:=by
 intro n
 cases n with
 |zero=>intro v x h;simp[FV]at h
 |succ n=>
  intro l x h;cases l with
  |nil=>
   rw[FV.eq_def]at h;obtain rfl:=af h;exact⟨rfl,trivial⟩
  |cons v l=>
   rw[FV.eq_def]at h;dsimp only at h;split at h
   ·rename_i y r hy hr;obtain rfl:=af h;have h1:=nF E c n v y hy;have h2:=ss E c n l r hr;exact⟨by simp only[aw];rw[h1.1,h2.1],h1.2,h2.2⟩
   ·cases h
end
structure Cx(P:Program)(E:cE)(F:RO)(M:Mem)(c:Nat→Prop)(w:World)(t:T)(a:Act):Prop where
 rel:jl P E F M c w
 glob:∀g,g<1000→E.ρ g=g∧E.β g=0
 big:∀g,g<1000→c g
 tr:rB E t a.tmps
 bt:Xh c t
section
variable{P:Program}{E:cE}{F:RO}{M:Mem}{c:Nat→Prop}{w:World}{t:T}{a:Act}
theorem X.ev_t(p:aH):(X.t p).ev t=cq t p:=rfl
theorem X.ev_c(v:V):(X.c v).ev t=v:=rfl
theorem Cx.ev(h:Cx P E F M c w t a){o:Operand}{x:X}(hx:aY o=some x):a.eval o=conc E (x.ev t)∧bd c (x.ev t):=by
 cases o with
 |tmp n=>
  obtain rfl:=af hx;exact⟨h.tr n,h.bt _⟩
 |const v=>
  obtain⟨y,hy,rfl⟩:=b9.1 hx;have:=nF E c _ v y hy;exact⟨this.1.symm,this.2⟩
 |global g=>
  rw[aY]at hx;split at hx
  ·rename_i hg;obtain rfl:=af hx;have:=h.glob g hg;refine⟨?_,h.big g hg⟩;show Value.pointer (some ⟨g,0,none⟩)= .pointer (some ⟨E.ρ g,E.β g+0,none⟩);rw[this.1,this.2]
  ·cases hx
 |func f=>
  obtain rfl:=af hx;exact⟨rfl,trivial,trivial⟩
theorem Cx.evs(h:Cx P E F M c w t a):∀{os:List Operand} {xs:List X},jK os=some xs→os.map a.eval=aw E (evs xs t)∧fE c (evs xs t)
 |[],xs,hx=>by obtain rfl:=af hx;exact⟨rfl,trivial⟩
 |o::os,xs,hx=>by
  rw[jK]at hx;split at hx
  ·rename_i x r h1 h2;obtain rfl:=af hx;have e1:=h.ev h1;have e2:=h.evs h2;exact⟨by rw[List.map_cons,e1.1,e2.1];rfl,e1.2,e2.2⟩
  ·cases hx
theorem Cx.cells(h:Cx P E F M c w t a){b ty n fz:Nat}{ex str:Bool}{d:List V}{cs:T}(hb:look F M b=some (.cells ty n ex fz str d cs)):
 ∃arr fr,w.heap[E.ρ b]?=some (.cells arr ty fr)∧jA P E b ty n ex fz str d cs arr fr:=by
 obtain⟨_,_,o,ho,arr,fr,rfl,hr⟩:=h.rel.has _ _ hb
 exact⟨arr,fr,ho,hr⟩
theorem gK{β:Type}{o:Option bq}{f:β}{g:Nat→List V→T→β}{r:β}(h:qc o f g=r)(hf:f≠r):
 ∃ty n ex fz str d cs,o=some (.cells ty n ex fz str d cs)∧g n d cs=r:=by
 cases o with
 |none=>exact absurd h hf
 |some b=>cases b with
  |cells ty n ex fz str d cs=>exact⟨ty,n,ex,fz,str,d,cs,rfl,h⟩
  |_=>exact absurd h hf
theorem Cx.load1(h:Cx P E F M c w t a){b o:Nat}{v:V}(hl:Ev.load1 F M b o=some v):
 w.cell? ⟨E.ρ b,E.β b+o,none⟩=some (conc E v)∧bd c v:=by
 obtain⟨ty,n,ex,fz,str,d,cs,hb,hg⟩:=gK (f:=none) hl (by simp)
 obtain⟨arr,fr,ho,hr⟩:=h.cells hb
 refine⟨?_,(h.rel.has _ _ hb).2.1 o v hg⟩
 simp only[World.cell?,ho,Option.isSome_none,aS,if_false]
 exact hr.cell o v hg
theorem qi(n:Nat)(d:List V)(cs:T)(k:Nat):fe n d cs 0 k=some []:=rfl
theorem jn(n:Nat)(d:List V)(cs:T)(m k:Nat):fe n d cs (m+1) k=match cell n d cs k with
 |none=>none
 |some v=>match fe n d cs m (k+1)with
  |none=>none
  |some l=>some (v::l):=by
 show Option.rec (motive:=fun _=>Option (List V)) none (fun v=>XA v (fe n d cs m (Nat.succ k))) (cell n d cs k)=_
 cases cell n d cs k with
 |none=>rfl
 |some v=>
  show XA v (fe n d cs m (k+1))=_;cases fe n d cs m (k+1)<;>rfl
theorem ku{n:Nat}{d:List V}{cs:T}:∀(m k:Nat) (l:List V),fe n d cs m k=some l→l.length=m∧ ∀j v,l[j]?=some v→cell n d cs (k+j)=some v
 |0,k,l,h=>by obtain rfl:=af h;exact⟨rfl,fun j v hj=>by simp at hj⟩
 |m+1,k,l,h=>by
  rw[jn]at h;split at h
  ·cases h
  ·rename_i v hv;split at h
   ·cases h
   ·rename_i l' hl';obtain rfl:=af h;have ih:=ku m (k+1) l' hl';refine⟨by simp[ih.1],fun j x hj=>?_⟩;cases j with
    |zero=>simp at hj;subst hj;exact hv
    |succ j=>simp at hj;rw[show k+(j+1)=k+1+j by omega];exact ih.2 j x hj
theorem Addr.add_eq(r o n:Nat):(⟨r,o,none⟩:Addr).add n=⟨r,o+n,none⟩:=by
 unfold Addr.add
 split
 ·rename_i h;subst h;rfl
 ·rfl
theorem Cx.loadN(h:Cx P E F M c w t a){b o n:Nat}{l:List V}(hl:Ev.loadN F M b o n=some l):
 (loadCells ⟨E.ρ b,E.β b+o,none⟩ n).run P w= .ok (aw E l).toArray w∧fE c l∧l.length=n:=by
 obtain⟨ty,m,ex,fz,str,d,cs,hb,hg⟩:=gK (f:=none) hl (by simp)
 obtain⟨arr,fr,ho,hr⟩:=h.cells hb
 have hc:=ku n o l hg
 refine⟨?_,(kq c l).2 fun v hv=>?_,hc.1⟩
 ·have:=run_loadCells_list (P:=P) w ⟨E.ρ b,E.β b+o,none⟩ (aw E l) (fun j v hj=>?_)
  ·rwa [show(aw E l).length=n by rw[aZ];simp[hc.1]]at this
  ·rw[Addr.add_eq];rw[aZ,List.getElem?_map,b9]at hj;obtain⟨x,hx,rfl⟩:=hj;simp only[World.cell?,ho,Option.isSome_none,aS,if_false];rw[Nat.add_assoc];exact hr.cell _ _ (hc.2 j x hx)
 ·obtain⟨j,hj⟩:=List.mem_iff_getElem?.1 hv;exact(h.rel.has _ _ hb).2.1 _ v (hc.2 j v hj)
theorem ay{d:TypeDesc}{ty:TypeId}(h:P.underlying ty=some d):(underlying ty).run P w= .ok d w:=by
 simp[underlying,h]
theorem zw{ty n:Nat}(h:dR P ty=some n):∃i,P.info? ty=some i∧i.size=n:=by
 obtain⟨i,hi,rfl⟩:=b9.1 h
 exact⟨i,hi,rfl⟩
theorem dF{ty n:Nat}(h:dR P ty=some n):(Go.sizeOf ty).run P w= .ok n w:=by
 obtain⟨i,hi,rfl⟩:=zw h
 simp[Go.sizeOf,typeInfo,hi]
theorem l5{ty:Nat}{r:Bool}(h:tW P ty=some r):(isAgg ty).run P w= .ok r w:=by
 unfold tW at h
 split at h
 ·rename_i hu;obtain rfl:=af h;simp[isAgg,ay hu]
 ·rename_i hu;obtain rfl:=af h;simp[isAgg,ay hu]
 ·rename_i d hd1 hd2 hu;obtain rfl:=af h;have hw:=ay (w:=w) hu
  cases d<;>first
   |exact(hd1 _ rfl).elim
   |exact(hd2 _ _ rfl).elim
   |simp[isAgg,hw]
 ·cases h
end
def QR.val:QR→Option V
 | .f=>none
 | .v x=>some x
 | .r x _=>some x
theorem dW(k:IntKind)(n:Int):vI k n= .v (.i k n):=Le n _
theorem nH(b:Bool):vB b= .v (.b b):=bQ7 b _
theorem b25(n x:Nat):vS n x= .v (.s n x):=by rw[vS,aN,aN]
theorem cB(a b:Int):Ob a b=decide (a=b):=by
 cases a with
 |ofNat x=>cases b with
  |ofNat y=>show Nat.beq x y=_;rw[bp];simp only[Int.ofNat_eq_natCast,Int.natCast_inj]
  |negSucc y=>show false=_;symm;rw[decide_eq_false_iff_not];intro h;cases h
 |negSucc x=>cases b with
  |ofNat y=>show false=_;symm;rw[decide_eq_false_iff_not];intro h;cases h
  |negSucc y=>show Nat.beq x y=_;rw[bp];simp only[Int.negSucc_inj]
theorem gg(a b:Int):OH a b=decide (a<b):=by
 cases a with
 |ofNat x=>cases b with
  |ofNat y=>show Nat.blt x y=_;rw[dY];simp only[Int.ofNat_eq_natCast,Int.ofNat_lt]
  |negSucc y=>show false=_;symm;rw[decide_eq_false_iff_not];intro h;simp only[Int.ofNat_eq_natCast]at h;have:=Int.negSucc_lt_zero y;omega
 |negSucc x=>cases b with
  |ofNat y=>show true=_;symm;rw[decide_eq_true_iff];have:=Int.negSucc_lt_zero x;simp only[Int.ofNat_eq_natCast];omega
  |negSucc y=>show Nat.blt y x=_;rw[dY];congr 1;apply propext;omega
theorem nK(k:IntKind)(n W H:Int)(hs:k.signed=true)(hW:(2:Int)^k.bits=W)(hH:(2:Int)^(k.bits-1)=H):
 k.wrap n=if H≤n%W then n%W-W else n%W:=by
 subst hW hH
 unfold IntKind.wrap
 rw[hs]
 by_cases h:(2:Int)^(k.bits-1)≤n%2^k.bits
 ·simp[h]
 ·simp[h]
theorem pS(k:IntKind)(n W:Int)(hs:k.signed=false)(hW:(2:Int)^k.bits=W):k.wrap n=n%W:=by
 subst hW
 unfold IntKind.wrap
 rw[hs]
 simp
theorem ux(n:Int):Do n=IntKind.i64.wrap n:=by
 rw[nK .i64 n 18446744073709551616 9223372036854775808 rfl (by decide) (by decide)]
 unfold Do
 simp only[dY,cond_eq_ite,decide_eq_true_eq]
 have:Int.emod n 18446744073709551616=n%18446744073709551616:=rfl
 rw[this]
 have h0:=Int.emod_nonneg n (show(18446744073709551616:Int)≠0 by decide)
 by_cases h:(n%18446744073709551616).toNat<9223372036854775808
 ·rw[ac h,ab (by omega)]
 ·rw[ab h,ac (by omega)];rfl
theorem a07(n:Int):b51 n=IntKind.i64.wrap n:=by
 cases n with
 |ofNat m=>
  show(Bool.rec (motive:=fun _=>Int) (Do (.ofNat m)) (.ofNat m) (Nat.blt m 9223372036854775808))=_;rw[bb,dY];by_cases h:m<9223372036854775808
  ·rw[ac (by simpa using h),←ux];unfold Do;have:Int.emod (Int.ofNat m) 18446744073709551616=(m:Int):=by
    show((m:Int)%18446744073709551616)=m;omega
   simp only[this,dY,cond_eq_ite,decide_eq_true_eq];rw[ac (by omega)];rfl
  ·rw[ab (by simpa using h),ux]
 |negSucc m=>
  show(Bool.rec (motive:=fun _=>Int) (Do (.negSucc m)) (.negSucc m) (Nat.blt m 9223372036854775808))=_;rw[bb,dY];by_cases h:m<9223372036854775808
  ·rw[ac (by simpa using h),←ux];unfold Do;have:Int.emod (Int.negSucc m) 18446744073709551616=18446744073709551616-1-(m:Int):=by
    show(Int.negSucc m%18446744073709551616)=_;omega
   simp only[this,dY,cond_eq_ite,decide_eq_true_eq];rw[ab (by omega)];show Int.negSucc m=18446744073709551616-1-(m:Int)-18446744073709551616;omega
  ·rw[ab (by simpa using h),ux]
theorem Gz(n:Int)(w h:Nat)(hw:0<w):wrS n w h=if n%(w:Int)≥(h:Int)then n%(w:Int)-w else n%(w:Int):=by
 unfold wrS
 simp only[dY,cond_eq_ite,decide_eq_true_eq]
 have e:Int.emod n (Int.ofNat w)=n%(w:Int):=rfl
 rw[e]
 have h0:=Int.emod_nonneg n (show(w:Int)≠0 by omega)
 by_cases hh:(n%(w:Int)).toNat<h
 ·rw[ac hh,ab (by omega)]
 ·rw[ab hh,ac (by omega)];rfl
theorem iZ(k:IntKind)(n:Int):wr k n=k.wrap n:=by
 cases k with
 |i64=>exact a07 n
 |i8=>
  rw[nK .i8 n 256 128 rfl (by decide) (by decide)];show wrS n 256 128=_;rw[Gz _ _ _ (by decide)];rfl
 |i16=>
  rw[nK .i16 n 65536 32768 rfl (by decide) (by decide)];show wrS n 65536 32768=_;rw[Gz _ _ _ (by decide)];rfl
 |i32=>
  rw[nK .i32 n 4294967296 2147483648 rfl (by decide) (by decide)];show wrS n 4294967296 2147483648=_;rw[Gz _ _ _ (by decide)];rfl
 |u8=>rw[pS .u8 n 256 rfl (by decide)];rfl
 |u16=>rw[pS .u16 n 65536 rfl (by decide)];rfl
 |u32=>rw[pS .u32 n 4294967296 rfl (by decide)];rfl
 |u64=>rw[pS .u64 n 18446744073709551616 rfl (by decide)];rfl
theorem vO(k:IntKind):kF k=k.bits:=by cases k<;>rfl
theorem md(k:IntKind)(x:Int):toU k x=(BitVec.ofInt k.bits x).toNat:=by
 unfold toU
 rw[BitVec.toNat_ofInt,vO]
 rfl
theorem eX(a b:IntKind):ii a b=decide (a=b):=by cases a<;>cases b<;>rfl
theorem iL(b:Bool):rV b= !b:=by cases b<;>rfl
theorem jD(k:IntKind)(n:Nat):km k n= .v (.i k (k.wrap (n:Int))):=by
 unfold km;rw[dW,iZ];rfl
theorem LI(k:IntKind):Nat.sub (Nat.pow 2 (kF k)) 1=(BitVec.allOnes k.bits).toNat:=by
 rw[BitVec.toNat_allOnes,vO];rfl
theorem Ha(a b:Int):ad8 a b=a+b:=by
 cases a<;>cases b<;>rfl
theorem qH{v:V}{g:Nat→Nat→QR}{x:V}(h:(rX v .f g).val=some x):∃b o,v= .p b o∧(g b o).val=some x:=by
 cases v with
 |p b o=>exact⟨b,o,rfl,h⟩
 |_=>cases(show(none:Option V)=some x from h)
theorem LY{v:V}{g:Bool→QR}{x:V}(h:(LX v .f g).val=some x):∃b,v= .b b∧(g b).val=some x:=by
 cases v with
 |b y=>exact⟨y,rfl,h⟩
 |_=>cases(show(none:Option V)=some x from h)
theorem o7{v:V}{g:IntKind→Int→QR}{x:V}(h:(wg v .f g).val=some x):∃k n,v= .i k n∧(g k n).val=some x:=by
 cases v with
 |i k n=>exact⟨k,n,rfl,h⟩
 |_=>cases(show(none:Option V)=some x from h)
theorem jq{v:V}{g:Nat→Nat→QR}{x:V}(h:(oT v .f g).val=some x):∃n y,v= .s n y∧(g n y).val=some x:=by
 cases v with
 |s n y=>exact⟨n,y,rfl,h⟩
 |_=>cases(show(none:Option V)=some x from h)
theorem uq{v:V}{g:List V→QR}{x:V}(h:(Fr v .f g).val=some x):∃l,v= .g l∧(g l).val=some x:=by
 cases v with
 |g l=>exact⟨l,rfl,h⟩
 |_=>cases(show(none:Option V)=some x from h)
theorem wv{o:Option V}{x:V}(h:(qr o).val=some x):o=some x:=by
 cases o with
 |none=>cases(show(none:Option V)=some x from h)
 |some y=>exact h
theorem ao5{b:Nat}{o:Option V}{x:V}(h:(qrb b o).val=some x):o=some x:=by
 cases o with
 |none=>cases(show(none:Option V)=some x from h)
 |some y=>exact h
theorem Az{o:Option (List V)}{x:V}(h:(qg o).val=some x):∃l,o=some l∧x= .g l:=by
 cases o with
 |none=>cases(show(none:Option V)=some x from h)
 |some y=>exact⟨y,rfl,(af h).symm⟩
theorem ao4{b:Nat}{o:Option (List V)}{x:V}(h:(qgb b o).val=some x):∃l,o=some l∧x= .g l:=by
 cases o with
 |none=>cases(show(none:Option V)=some x from h)
 |some y=>exact⟨y,rfl,(af h).symm⟩
theorem iQ{v:V}{n:Nat}(h:oA v=some n):∃k,v= .i k (n:Int):=by
 cases v with
 |i k m=>cases m with
  |ofNat m=>obtain rfl:m=n:=af h;exact⟨k,rfl⟩
  |negSucc m=>cases(show(none:Option Nat)=some n from h)
 |_=>cases(show(none:Option Nat)=some n from h)
section
variable{P:Program}{E:cE}{F:RO}{M:Mem}{c:Nat→Prop}{w:World}{t:T}{a:Act}
theorem aG{s:Sem Value}{v:Value}{w':World}(hs:s.run P w= .ok v w'):(s>>=fun v=>pure (Next.value v)).run P w= .ok (.value v) w':=by simp[hs]
abbrev sJ(P:Program)(E:cE)(c:Nat→Prop)(w:World)(a:Act)(o:Oper)(x:V):Prop:=(execOp a.eval o).run P w= .ok (.value (conc E x)) w∧bd c x
theorem YQ(h:Cx P E F M c w t a){o:Oper}{y:Operand}(hop:o.op= .move y∨o.op= .assign y){q:QO}(hc:aB P o.op=some (.q q)){x:V}(hx:(cS q F M t).val=some x):sJ P E c w a o x:=by
 have hc':(aY y).bind (fun x=>some (OK.q (.mv x)))=some (.q q):=by rcases hop with hop|hop<;>(rw[hop]at hc;exact hc)
 obtain⟨z,hz,e⟩:=aR.1 hc'
 obtain rfl:QO.mv z=q:=by simpa using e
 obtain rfl:z.ev t=x:=af hx
 have:=h.ev hz
 refine⟨?_,this.2⟩
 rcases hop with hop|hop<;>simp only[execOp,hop,this.1]<;>rfl
theorem bh5(h:Cx P E F M c w t a){o:Oper}{c' p r:Operand}(hop:o.op= .pick c' p r){q:QO}(hc:aB P o.op=some (.q q)){x:V}(hx:(cS q F M t).val=some x):sJ P E c w a o x:=by
 rw[hop]at hc
 simp only[aB]at hc
 split at hc
 ·rename_i xc xa xb h1 h2 h3;obtain rfl:QO.pk xc xa xb=q:=by simpa [Ev.q]using hc
  obtain⟨b,hb,hg⟩:=LY (show(LX (xc.ev t) .f fun x=>Bool.rec (motive:=fun _=>QR) (.v (xb.ev t)) (.v (xa.ev t)) x).val=some x from hx);have e1:=h.ev h1;have e2:=h.ev h2;have e3:=h.ev h3;rw[hb]at e1;cases b with
  |true=>
   obtain rfl:xa.ev t=x:=af hg;exact⟨by simp[execOp,hop,e1.1,e2.1,conc,asBool],e2.2⟩
  |false=>
   obtain rfl:xb.ev t=x:=af hg;exact⟨by simp[execOp,hop,e1.1,e3.1,conc,asBool],e3.2⟩
 ·cases hc
theorem bh4(h:Cx P E F M c w t a){o:Oper}{ty:TypeId}{ad:Operand}(hop:o.op= .load ty ad){q:QO}(hc:aB P o.op=some (.q q)){x:V}(hx:(cS q F M t).val=some x):sJ P E c w a o x:=by
 rw[hop]at hc
 simp only[aB]at hc
 split at hc
 ·rename_i n xa h1 h2 h3;obtain rfl:QO.ldn n xa=q:=by simpa [Ev.q]using hc
  obtain⟨b,off,hb,hg⟩:=qH (show(rX (xa.ev t) .f fun b o=>qgb b (loadN F M b o n)).val=some x from hx);obtain⟨l,hl,rfl⟩:=ao4 hg;have e:=h.ev h3;rw[hb]at e;have hL:=h.loadN hl;refine⟨?_,hL.2.1⟩;simp only[execOp,hop];refine aG ?_;rw[e.1];simp only[Instr.loadAt,conc,Instr.sureAddr,loadVar,aE,aA,aI,l5 h1,Sem.run_ite,if_true,dF h2,hL.1]
 ·rename_i n xa h1 h2 h3;obtain rfl:QO.ld1 xa=q:=by simpa [Ev.q]using hc
  obtain⟨b,off,hb,hg⟩:=qH (show(rX (xa.ev t) .f fun b o=>qrb b (load1 F M b o)).val=some x from hx);have hl:=ao5 hg;have e:=h.ev h3;rw[hb]at e;have hL:=h.load1 hl;refine⟨?_,hL.2⟩;simp only[execOp,hop];refine aG ?_;rw[e.1];simp only[Instr.loadAt,conc,Instr.sureAddr,loadVar,aE,aA,aI,l5 h1,Sem.run_ite,aS,if_false,run_load,hL.1]
 ·cases hc
theorem FB(h:Cx P E F M c w t a){o:Oper}{y:Operand}(hop:o.op= .nilCheck y){q:QO}(hc:aB P o.op=some (.q q)){x:V}(hx:(cS q F M t).val=some x):sJ P E c w a o x:=by
 rw[hop]at hc
 obtain⟨z,hz,e⟩:=aR.1 hc
 obtain rfl:QO.nck z=q:=by simpa [Ev.q]using e
 have e:=h.ev hz
 have hx':(nq z F M t).val=some x:=hx
 unfold nq at hx'
 split at hx'
 ·rename_i b off hv;obtain rfl:=af hx';rw[hv]at e;exact⟨by simp only[execOp,hop,e.1,conc];rfl,e.2⟩
 ·rename_i g l1 l2 hv;obtain rfl:=af hx';rw[hv]at e;exact⟨by simp only[execOp,hop,e.1,conc];rfl,e.2⟩
 ·rename_i l hv;obtain rfl:=af hx';rw[hv]at e;exact⟨by simp only[execOp,hop,e.1,conc];rfl,e.2⟩
 ·rename_i ty v hv;obtain rfl:=af hx';rw[hv]at e;exact⟨by simp only[execOp,hop,e.1,conc];rfl,e.2⟩
 ·cases hx'
theorem Cj(op:BinOp)(ty:TypeId)(x y:Operand)(k k':IntKind)(m n:Int):(eqGuard op ty x y (.int k m) (.int k' n)).run P w= .ok () w:=by
 unfold eqGuard;split<;>rfl
theorem Cl(op:BinOp)(ty:TypeId)(x y:Operand)(m n:ByteArray):(eqGuard op ty x y (.string m) (.string n)).run P w= .ok () w:=by
 unfold eqGuard;split<;>rfl
theorem tO{b:Bool}{x:V}(hx:(vB b).val=some x):x= .b b:=by
 rw[nH]at hx;exact(af hx).symm
theorem Xj(op:BinOp)(k:IntKind)(m n:Int)(h1:op≠ .shl)(h2:op≠ .shr)(ty:TypeId){x:V}(hx:(pj op k m n).val=some x):
 (binOp op ty (.int k m) (.int k n)).run P w= .ok (conc E x) w∧bd c x:=by
 cases op<;>first|exact absurd rfl h1|exact absurd rfl h2|skip
 case add=>
  obtain rfl:V.i k (wr k (ad8 m n))=x:=by
   have:(vI k (wr k (ad8 m n))).val=some x:=hx;rw[dW]at this;exact af this
  exact⟨by rw[iZ,Ha];simp[binOp,Op.intArith,conc],trivial⟩
 case sub=>
  obtain rfl:V.i k (wr k (Int.sub m n))=x:=by
   have:(vI k (wr k (Int.sub m n))).val=some x:=hx;rw[dW]at this;exact af this
  exact⟨by rw[iZ];simp[binOp,Op.intArith,conc];rfl,trivial⟩
 case mul=>
  obtain rfl:V.i k (wr k (Int.mul m n))=x:=by
   have:(vI k (wr k (Int.mul m n))).val=some x:=hx;rw[dW]at this;exact af this
  exact⟨by rw[iZ];simp[binOp,Op.intArith,conc],trivial⟩
 case quo=>
  have hx':(ml k m n).val=some x:=hx;unfold ml at hx';rw[cB]at hx';by_cases h0:n=0
  ·rw[ae h0]at hx';cases(show(none:Option V)=some x from hx')
  ·rw[ag h0]at hx';obtain rfl:V.i k (wr k (Int.tdiv m n))=x:=by
    have:(vI k (wr k (Int.tdiv m n))).val=some x:=hx';rw[dW]at this;exact af this
   exact⟨by rw[iZ];simp[binOp,Op.intDiv,conc,h0],trivial⟩
 case rem=>
  have hx':(mm k m n).val=some x:=hx;unfold mm at hx';rw[cB]at hx';by_cases h0:n=0
  ·rw[ae h0]at hx';cases(show(none:Option V)=some x from hx')
  ·rw[ag h0]at hx';obtain rfl:V.i k (Int.tmod m n)=x:=by
    have:(vI k (Int.tmod m n)).val=some x:=hx';rw[dW]at this;exact af this
   exact⟨by simp[binOp,Op.intDiv,conc,h0],trivial⟩
 case and=>
  obtain rfl:V.i k (k.wrap (Nat.land (toU k m) (toU k n):Nat))=x:=by
   have:(km k (Nat.land (toU k m) (toU k n))).val=some x:=hx;rw[jD]at this;exact af this
  refine⟨?_,trivial⟩;rw[md,md];simp[binOp,Op.intBits,conc,BitVec.toNat_and]
 case or=>
  obtain rfl:V.i k (k.wrap (Nat.lor (toU k m) (toU k n):Nat))=x:=by
   have:(km k (Nat.lor (toU k m) (toU k n))).val=some x:=hx;rw[jD]at this;exact af this
  refine⟨?_,trivial⟩;rw[md,md];simp[binOp,Op.intBits,conc,BitVec.toNat_or]
 case xor=>
  obtain rfl:V.i k (k.wrap (Nat.xor (toU k m) (toU k n):Nat))=x:=by
   have:(km k (Nat.xor (toU k m) (toU k n))).val=some x:=hx;rw[jD]at this;exact af this
  refine⟨?_,trivial⟩;rw[md,md];simp[binOp,Op.intBits,conc,BitVec.toNat_xor]
 case andNot=>
  obtain rfl:V.i k (k.wrap (Nat.land (toU k m) (Nat.xor (Nat.sub (Nat.pow 2 (kF k)) 1) (toU k n)):Nat))=x:=by
   have:(km k (Nat.land (toU k m) (Nat.xor (Nat.sub (Nat.pow 2 (kF k)) 1) (toU k n)))).val=some x:=hx;rw[jD]at this;exact af this
  refine⟨?_,trivial⟩;rw[md,md,LI];have hn:∀b:BitVec k.bits,(~~~b)=BitVec.allOnes k.bits^^^b:=fun b=>BitVec.not_def;simp only[binOp,Op.intBits,ne_eq,not_true_eq_false,if_false,conc,hn,BitVec.toNat_and,BitVec.toNat_xor];rfl
 case eql=>
  obtain rfl:=tO (b:=Ob m n) hx;refine⟨?_,trivial⟩;simp only[binOp,Op.intCmp,ne_eq,not_true_eq_false,if_false,conc,cB,gg,iL,aA]
  all_goals (congr 2;try (rw[Bool.eq_iff_iff];simp))
 case neq=>
  obtain rfl:=tO (b:=rV (Ob m n)) hx;refine⟨?_,trivial⟩;simp only[binOp,Op.intCmp,ne_eq,not_true_eq_false,if_false,conc,cB,gg,iL,aA]
  all_goals (congr 2;try (rw[Bool.eq_iff_iff];simp))
 case lss=>
  obtain rfl:=tO (b:=OH m n) hx;refine⟨?_,trivial⟩;simp only[binOp,Op.intCmp,ne_eq,not_true_eq_false,if_false,conc,cB,gg,iL,aA]
  all_goals (congr 2;try (rw[Bool.eq_iff_iff];simp))
 case leq=>
  obtain rfl:=tO (b:=rV (OH n m)) hx;refine⟨?_,trivial⟩;simp only[binOp,Op.intCmp,ne_eq,not_true_eq_false,if_false,conc,cB,gg,iL,aA]
  all_goals (congr 2;try (rw[Bool.eq_iff_iff];simp))
 case gtr=>
  obtain rfl:=tO (b:=OH n m) hx;refine⟨?_,trivial⟩;simp only[binOp,Op.intCmp,ne_eq,not_true_eq_false,if_false,conc,cB,gg,iL,aA]
  all_goals (congr 2;try (rw[Bool.eq_iff_iff];simp))
 case geq=>
  obtain rfl:=tO (b:=rV (OH m n)) hx;refine⟨?_,trivial⟩;simp only[binOp,Op.intCmp,ne_eq,not_true_eq_false,if_false,conc,cB,gg,iL,aA]
  all_goals (congr 2;try (rw[Bool.eq_iff_iff];simp))
end
theorem eV(n x:Nat):(ba n x).data.toList=bl n x:=by simp[ba]
theorem lF(n x:Nat):(ba n x).toList=bl n x:=by rw[ByteArray.toList_eq,eV]
theorem uW{s:ByteArray}{n x:Nat}(h:s.data.toList=bl n x):s=ba n x:=by
 have h2:s.data=(ba n x).data:=by rw[ba,←h]
 cases s;cases h2;rfl
theorem NU(n x m y:Nat):ba n x++ba m y=ba (n+m) (x%256^n+256^n*y):=by
 apply uW
 rw[NY]
 simp[ba]
theorem Ek(n x l h:Nat)(h1:l≤h)(h2:h≤n):(ba n x).extract l h=ba (h-l) (x/256^l%256^(h-l)):=by
 apply uW
 rw[uX]
 have:((ba n x).extract l h).data.toList=((bl n x).drop l).take (h-l):=by
  simp[ba,ByteArray.data_extract,List.extract_eq_take_drop]
 rw[this,ae5 _ _ _ (by omega),A1 _ _ _ (by omega)]
theorem Db(f:Nat):∀n x m y,n<f→qY f n x m y=Op.bytesLess (bl n x) (bl m y):=by
 induction f with
 |zero=>intro n x m y h;omega
 |succ f ih=>
  intro n x m y h;cases m with
  |zero=>cases n<;>simp[qY,bl,Op.bytesLess]
  |succ m=>cases n with
   |zero=>simp[qY,bl,Op.bytesLess]
   |succ n=>
    simp only[qY,bl,Op.bytesLess];rw[ih n _ m _ (by omega),dY,bp];have e1:decide (UInt8.ofNat (x%256)<UInt8.ofNat (y%256))=decide (x%256<y%256):=by
     congr 1;rw[UInt8.lt_iff_toNat_lt];simp[UInt8.toNat_ofNat']
    have e2:(UInt8.ofNat (x%256)==UInt8.ofNat (y%256))=decide (x%256=y%256):=by
     rw[Bool.eq_iff_iff,beq_iff_eq,decide_eq_true_iff];constructor
     ·intro e;have:=congrArg UInt8.toNat e;simpa [UInt8.toNat_ofNat']using this
     ·intro e;rw[e]
    rw[e1,e2];rfl
section
variable{P:Program}{E:cE}{F:RO}{M:Mem}{c:Nat→Prop}{w:World}{t:T}{a:Act}
theorem Xl(op:BinOp)(n x m y:Nat)(ty:TypeId){v:V}(hx:(Xk op n x m y).val=some v):
 (binOp op ty (.string (ba n x)) (.string (ba m y))).run P w= .ok (conc E v) w∧bd c v:=by
 cases op
 case add=>
  have hx':(m4 n x m y).val=some v:=hx;unfold m4 at hx';rw[bL]at hx';by_cases hs:n+m≤1099511627776
  ·rw[show Nat.add n m=n+m from rfl,ae hs,cond_true,b25]at hx';obtain rfl:=af hx';refine⟨?_,trivial⟩;have hlt:¬(((ba n x).size+(ba m y).size:Nat):Int)>IntKind.i64.max:=by
    rw[d8,d8,show IntKind.i64.max=9223372036854775807 by decide];omega
   simp only[binOp,Op.stringOp,hlt,if_false,Sem.run_ite,aA,conc,NU];rfl
  ·rw[show Nat.add n m=n+m from rfl,ag hs]at hx';cases(show(none:Option V)=some v from hx')
 case eql=>
  obtain rfl:=tO (b:=nE n x m y) hx;refine⟨?_,trivial⟩;simp only[binOp,Op.stringOp,lF,aA,conc,jy]
  congr 2
  rw[Bool.eq_iff_iff];simp
 case neq=>
  obtain rfl:=tO (b:= !nE n x m y) hx;refine⟨?_,trivial⟩;simp only[binOp,Op.stringOp,lF,aA,conc,jy]
  congr 2
  rw[Bool.eq_iff_iff];simp
 case lss=>
  obtain rfl:=tO (b:=qY (Nat.succ (Nat.add n m)) n x m y) hx;refine⟨?_,trivial⟩;rw[Db (Nat.succ (Nat.add n m)) _ _ _ _ (show n<n+m+1 by omega)];simp only[binOp,Op.stringOp,lF,aA,conc]
 case geq=>
  obtain rfl:=tO (b:= !qY (Nat.succ (Nat.add n m)) n x m y) hx;refine⟨?_,trivial⟩;rw[Db (Nat.succ (Nat.add n m)) _ _ _ _ (show n<n+m+1 by omega)];simp only[binOp,Op.stringOp,lF,aA,conc]
 all_goals cases(show(none:Option V)=some v from hx)
theorem Pl(op:BinOp)(hop:op= .shl∨op= .shr)(k k':IntKind)(m n:Int)(ty:TypeId){v:V}(hx:(fS op k m k' n).val=some v):
 (binOp op ty (.int k m) (.int k' n)).run P w= .ok (conc E v) w∧bd c v:=by
 have hcnt:∀j:Nat,eJ k j=min j k.bits:=by
  intro j;unfold eJ;rw[bL,vO];by_cases hj:j≤k.bits
  ·rw[ae hj];show j=_;omega
  ·rw[ag hj];show k.bits=_;omega
 cases n with
 |negSucc j=>rcases hop with rfl|rfl<;>cases(show(none:Option V)=some v from hx)
 |ofNat j=>
  rcases hop with rfl|rfl
  ·have hx':(vI k (wr k (Int.mul m (.ofNat (Nat.pow 2 (eJ k j)))))).val=some v:=hx;rw[dW]at hx';obtain rfl:=af hx';refine⟨?_,trivial⟩;rw[iZ,hcnt];have hnn:¬(Int.ofNat j<0):=by simp
   simp only[binOp,Op.shift,hnn,if_false,Sem.run_ite,aA,conc,Int.ofNat_eq_natCast,Int.toNat_natCast]
   all_goals (congr 3)
  ·have hx':(vI k (Int.fdiv m (.ofNat (Nat.pow 2 (eJ k j))))).val=some v:=hx;rw[dW]at hx';obtain rfl:=af hx';refine⟨?_,trivial⟩;rw[hcnt];have hnn:¬(Int.ofNat j<0):=by simp
   simp only[binOp,Op.shift,hnn,if_false,Sem.run_ite,aA,conc,Int.ofNat_eq_natCast,Int.toNat_natCast]
   all_goals (congr 2)
theorem CQ{op:BinOp}{k k':IntKind}{m n:Int}(h1:op≠ .shl)(h2:op≠ .shr):fS op k m k' n=if k=k' then pj op k m n else .f:=by
 have e:fS op k m k' n=Bool.rec (motive:=fun _=>QR) .f (pj op k m n) (ii k k'):=by
  cases op<;>first|rfl|exact absurd rfl h1|exact absurd rfl h2
 rw[e,bb,eX]
 by_cases hk:k=k'<;>simp[hk]
theorem b92(op:BinOp)(ty:TypeId){xv yv v:V}(hx:(V.casesOn (motive_1:=fun _=>QR) xv (fun _=> .f) (fun k a=>b07 op k a yv) (fun n a=>b08 op n a yv) (fun _ _=> .f) .f (fun _ _ _ _=> .f) (fun _ _ _ _ _=> .f) (fun _ _ _=> .f) .f (fun _=> .f) .f (fun _ _ _=> .f) (fun _=> .f) .f (fun _ _=> .f) .f (fun _=> .f) (fun _=> .f)).val=some v)
 (x y:Operand):(eqGuard op ty x y (conc E xv) (conc E yv)>>=fun _=>binOp op ty (conc E xv) (conc E yv)).run P w= .ok (conc E v) w∧bd c v:=by
 cases xv with
 |i k m=>
  obtain⟨k',n,rfl,hg⟩:=o7 (show(wg yv .f fun k' b=>fS op k m k' b).val=some v from hx);simp only[aE,conc,Cj,aI];by_cases hs:op= .shl∨op= .shr
  ·exact Pl op hs k k' m n ty hg
  ·rw[CQ (fun e=>hs (.inl e)) (fun e=>hs (.inr e))]at hg;split at hg
   ·rename_i hk;subst hk;exact Xj op k m n (fun e=>hs (.inl e)) (fun e=>hs (.inr e)) ty hg
   ·cases(show(none:Option V)=some v from hg)
 |s n y'=>
  obtain⟨m,z,rfl,hg⟩:=jq (show(oT yv .f fun m b=>Xk op n y' m b).val=some v from hx);simp only[aE,conc,Cl,aI];exact Xl op n y' m z ty hg
 |_=>cases(show(none:Option V)=some v from hx)
end
section
variable{P:Program}{E:cE}{F:RO}{M:Mem}{c:Nat→Prop}{w:World}{t:T}{a:Act}
theorem LM{b o:Nat}{x:V}(h:(uo b o).val=some x):x= .p b o:=by
 unfold uo at h;rw[aN]at h;exact(af h).symm
theorem Fy{r x y:Nat}(h:x=y):(Result.ok (Value.pointer (some ⟨r,x,none⟩)) w:Result Value)= .ok (.pointer (some ⟨r,y,none⟩)) w:=by rw[h]
theorem lK{y:Operand}{f:X→QO}{q:QO}(h:(aY y).bind (fun x=>Ev.q (f x))=some (.q q)):∃z,aY y=some z∧f z=q:=by
 obtain⟨z,hz,e⟩:=aR.1 h
 exact⟨z,hz,by simpa [Ev.q]using e⟩
theorem ao3(h:Cx P E F M c w t a){o:Oper}{op:UnOp}{ty:TypeId}{y:Operand}(hop:o.op= .unOp op ty y){q:QO}(hc:aB P o.op=some (.q q)){x:V}(hx:(cS q F M t).val=some x):sJ P E c w a o x:=by
 rw[hop]at hc
 obtain⟨z,hz,rfl⟩:=lK (f:=fun x=> .un op x) hc
 have e:=h.ev hz
 cases op with
 |neg=>
  obtain⟨k,n,hv,hg⟩:=o7 (show(wg (z.ev t) .f fun k n=>vI k (wr k (Int.sub 0 n))).val=some x from hx);rw[dW]at hg;obtain rfl:=af hg;rw[hv]at e;refine⟨?_,trivial⟩;simp only[execOp,hop];refine aG ?_;rw[e.1,iZ];rfl
 |xor=>
  obtain⟨k,n,hv,hg⟩:=o7 (show(wg (z.ev t) .f fun k n=>km k (Nat.xor (Nat.sub (Nat.pow 2 (kF k)) 1) (toU k n))).val=some x from hx);rw[jD]at hg;obtain rfl:=af hg;rw[hv]at e;refine⟨?_,trivial⟩;simp only[execOp,hop];refine aG ?_;rw[e.1,LI,md];simp only[Op.unary,conc,Op.intBits];have ho:BitVec.ofInt k.bits (if k.signed=true then -1 else k.max)=BitVec.allOnes k.bits:=by
   cases k<;>decide
  rw[ho,BitVec.toNat_xor];rfl
 |not=>
  obtain⟨b,hv,hg⟩:=LY (show(LX (z.ev t) .f fun b=>vB (rV b)).val=some x from hx);obtain rfl:=tO hg;rw[hv]at e;refine⟨?_,trivial⟩;simp only[execOp,hop];refine aG ?_;rw[e.1,iL];rfl
 |plus=>cases(show(none:Option V)=some x from hx)
theorem ba1{k:IntKind}{s d:TypeId}{ks:IntKind}(h1:P.underlying s=some (.int ks))(h2:P.underlying d=some (.int k))(k':IntKind)(n:Int):
 (convert s d (.int k' n)).run P w= .ok (.int k (k.wrap n)) w:=by
 simp only[convert,aE,ay h1,ay h2,aI,Conv.intToInt,aA]
theorem u0(h:Cx P E F M c w t a){o:Oper}{ty:TypeId}{y:Operand}(hop:o.op= .makeInterface ty y){q:QO}(hc:aB P o.op=some (.q q)){x:V}(hx:(cS q F M t).val=some x):sJ P E c w a o x:=by
 rw[hop]at hc
 simp only[aB]at hc
 split at hc
 ·cases hc
 ·rename_i d z hd hu hz;obtain rfl:QO.mki ty z=q:=by simpa [Ev.q]using hc
  obtain rfl:V.a ty (z.ev t)=x:=af hx;have e:=h.ev hz;refine⟨?_,e.2⟩;simp only[execOp,hop];refine aG ?_;rw[e.1];have hw:=ay (w:=w) hu
  cases d<;>first
   |exact(hd _ rfl).elim
   |simp[Instr.makeInterface,hw,conc]
 ·cases hc
theorem FA(h:Cx P E F M c w t a){o:Oper}{f:FuncId}{l1 l2:Array Operand}(hop:o.op= .makeFunc (.func f) l1 l2){q:QO}(hc:aB P o.op=some (.q q)){x:V}(hx:(cS q F M t).val=some x):sJ P E c w a o x:=by
 rw[hop]at hc
 simp only[aB]at hc
 split at hc
 ·rename_i x1 x2 h1 h2;obtain rfl:QO.mkf f x1 x2=q:=by simpa [Ev.q]using hc
  obtain rfl:V.f f (evs x1 t) (evs x2 t)=x:=af hx;have e1:=h.evs h1;have e2:=h.evs h2;refine⟨?_,e1.2,e2.2⟩;simp only[execOp,hop];refine aG ?_;have m1:l1.map a.eval=(aw E (evs x1 t)).toArray:=by apply Array.ext';rw[Array.toList_map,e1.1]
  have m2:l2.map a.eval=(aw E (evs x2 t)).toArray:=by apply Array.ext';rw[Array.toList_map,e2.1]
  simp only[Instr.makeFunc,m1,m2,conc];rfl
 ·cases hc
theorem CR(h:Cx P E F M c w t a){o:Oper}{ty:TypeId}{y:Operand}{f:Nat}(hop:o.op= .fieldAddr ty y f){q:QO}(hc:aB P o.op=some (.q q)){x:V}(hx:(cS q F M t).val=some x):sJ P E c w a o x:=by
 rw[hop]at hc
 simp only[aB]at hc
 split at hc
 ·rename_i fs z hu hz;split at hc
  ·rename_i fd hfd;split at hc
   ·rename_i s hs;obtain rfl:QO.fa fd.offset z=q:=by simpa [Ev.q]using hc
    obtain⟨b,off,hv,hg⟩:=qH (show(rX (z.ev t) .f fun b o=>uo b (Nat.add o fd.offset)).val=some x from hx);obtain rfl:=LM hg;have e:=h.ev hz;rw[hv]at e;refine⟨?_,e.2⟩;simp only[execOp,hop];refine aG ?_;rw[e.1];have hfd':fs[f]?=some fd:=by simpa using hfd
    simp only[Instr.fieldAt,aE,ay hu,aI,hfd',Instr.sureAddr,conc,aA,fieldPlace,dF hs,Sem.run_ite,Nat.add_one_ne_zero,if_false,Addr.add_eq];exact Fy (Nat.add_assoc _ _ _)
   ·cases hc
  ·cases hc
 ·cases hc
theorem eg{l:List V}{i:Nat}{v:V}(h:l[i]?=some v):(aw E l)[i]?=some (conc E v):=by
 rw[aZ,List.getElem?_map,h];rfl
theorem ea{l:List V}{i:Nat}{v:V}(hb:fE c l)(h:l[i]?=some v):bd c v:=
 (kq c l).1 hb v (List.mem_of_getElem? h)
theorem re{α:Type}:∀(n:Nat) (l r:List α),mt n l=some r→r=l.take n∧n≤l.length
 |0,l,r,h=>by obtain rfl:=af h;simp
 |n+1,[],r,h=>by cases h
 |n+1,x::l,r,h=>by
  rw[mt]at h;split at h
  ·rename_i r' hr';obtain rfl:=af h;have:=re n l r' hr';exact⟨by rw[this.1];rfl,by simp;exact this.2⟩
  ·cases h
theorem qn{α:Type}:∀(n:Nat) (l:List α),ky n l=l.drop n
 |0,l=>by simp[ky]
 |n+1,[]=>by simp[ky]
 |n+1,x::l=>by rw[ky,qn n l];rfl
theorem qL{ty:TypeId}{l:List V}{i:Nat}{v:V}(hag:tW P ty=some false)(h:l[i]?=some v):(part ty (aw E l).toArray i).run P w= .ok (conc E v) w:=by
 simp[part,l5 hag,eg h]
theorem CM{ty:TypeId}{l r:List V}{i n:Nat}(hag:tW P ty=some true)(hs:dR P ty=some n)(h:mt n (ky i l)=some r):(part ty (aw E l).toArray i).run P w= .ok (conc E (.g r)) w:=by
 obtain⟨rfl,hn⟩:=re _ _ _ h
 rw[qn]at hn⊢
 simp only[part,aE,l5 hag,aI,Sem.run_ite,if_true,dF hs,aA,conc]
 congr 2
 simp[aZ,List.extract_eq_take_drop,List.map_take,List.map_drop]
theorem KZ{l:List V}(hb:fE c l){r:List V}(h:∀v∈r,v∈l):fE c r:=(kq c r).2 fun v hv=>(kq c l).1 hb v (h v hv)
theorem an5(h:Cx P E F M c w t a){o:Oper}{ty:TypeId}{y:Operand}{f:Nat}(hop:o.op= .field ty y f){q:QO}(hc:aB P o.op=some (.q q)){x:V}(hx:(cS q F M t).val=some x):sJ P E c w a o x:=by
 rw[hop]at hc
 simp only[aB]at hc
 split at hc
 ·rename_i fs z hu hz;split at hc
  ·rename_i fd hfd;have hfd':fs[f]?=some fd:=by simpa using hfd
   have e:=h.ev hz;split at hc
   ·rename_i n hag hs;obtain rfl:QO.fln fd.offset n z=q:=by simpa [Ev.q]using hc
    obtain⟨l,hv,hg⟩:=uq (show(Fr (z.ev t) .f fun cs=>qg (mt n (ky fd.offset cs))).val=some x from hx);obtain⟨r,hr,rfl⟩:=Az hg;rw[hv]at e;refine⟨?_,KZ (l:=l) e.2 (fun v hv=>by obtain⟨rfl,_⟩:=re _ _ _ hr;rw[qn]at hv;exact List.mem_of_mem_drop (List.mem_of_mem_take hv))⟩;simp only[execOp,hop];refine aG ?_;rw[e.1];simp only[Instr.field,aE,ay hu,aI,hfd',conc,asAgg,aA];exact CM hag hs hr
   ·rename_i _ hag;obtain rfl:QO.fl1 fd.offset z=q:=by simpa [Ev.q]using hc
    obtain⟨l,hv,hg⟩:=uq (show(Fr (z.ev t) .f fun cs=>qr (xX cs fd.offset)).val=some x from hx);have hr:=wv hg;rw[kO]at hr;rw[hv]at e;refine⟨?_,ea (l:=l) e.2 hr⟩;simp only[execOp,hop];refine aG ?_;rw[e.1];simp only[Instr.field,aE,ay hu,aI,hfd',conc,asAgg,aA];exact qL hag hr
   ·cases hc
  ·cases hc
 ·cases hc
theorem CS{sz b o len:Nat}{i:Int}{x:V}(h:(xY sz b o len i).val=some x):∃j:Nat,i=j∧j<len∧x= .p b (o+j*sz):=by
 cases i with
 |negSucc j=>cases(show(none:Option V)=some x from h)
 |ofNat j=>
  have h':(Bool.rec (motive:=fun _=>QR) .f (uo b (Nat.add o (Nat.mul j sz))) (Nat.blt j len)).val=some x:=h;rw[bb,dY]at h';by_cases hj:j<len
  ·rw[ac (by simpa using hj)]at h';exact⟨j,rfl,hj,LM h'⟩
  ·rw[ab (by simpa using hj)]at h';cases(show(none:Option V)=some x from h')
theorem Ac{len j:Nat}(h:j<len):(0≤(j:Int)∧(j:Int)<(len:Int)):=by omega
theorem CT(h:Cx P E F M c w t a){o:Oper}{ty:TypeId}{y i:Operand}(hop:o.op= .indexAddr ty y i){q:QO}(hc:aB P o.op=some (.q q)){x:V}(hx:(cS q F M t).val=some x):sJ P E c w a o x:=by
 rw[hop]at hc
 simp only[aB]at hc
 split at hc
 ·rename_i n el xa xi hu h1 h2;obtain⟨s,hs,e⟩:=aR.1 hc;obtain rfl:QO.iaA n s xa xi=q:=by simpa [Ev.q]using e
  obtain⟨b,off,hv,hg⟩:=qH (show(rX (xa.ev t) .f fun b o=>wg (xi.ev t) .f fun _ i=>xY s b o n i).val=some x from hx);obtain⟨k,m,hm,hg⟩:=o7 hg;obtain⟨j,rfl,hj,rfl⟩:=CS hg;have e1:=h.ev h1;have e2:=h.ev h2;rw[hv]at e1;rw[hm]at e2;refine⟨?_,e1.2⟩;simp only[execOp,hop];refine aG ?_;rw[e1.1,e2.1];simp only[Instr.indexAt,conc,asIntOf,aE,aA,aI,ay hu,Instr.sureAddr,Sem.run_ite,Ac hj,and_self,if_true,dF hs,Addr.add_eq,Int.toNat_natCast];exact Fy (Nat.add_assoc _ _ _)
 ·rename_i el xa xi hu h1 h2;obtain⟨s,hs,e⟩:=aR.1 hc;obtain rfl:QO.iaS s xa xi=q:=by simpa [Ev.q]using e
  have e1:=h.ev h1;have e2:=h.ev h2;have key:∀b off len cap,conc E (xa.ev t)= .slice (some ⟨E.ρ b,E.β b+off,none⟩) len cap→bd c (.p b 0)→(s9 s b off len (xi.ev t)).val=some x→sJ P E c w a o x:=by
   intro b off len cap hv hbd hg;obtain⟨k,m,hm,hg⟩:=o7 (show(wg (xi.ev t) .f fun _ i=>xY s b off len i).val=some x from hg);obtain⟨j,rfl,hj,rfl⟩:=CS hg;rw[hm]at e2;refine⟨?_,hbd⟩;simp only[execOp,hop];refine aG ?_;rw[e1.1,hv,e2.1];simp only[Instr.indexAt,conc,asIntOf,aE,aA,aI,ay hu,Sem.run_ite,Ac hj,and_self,if_true,dF hs,Addr.add_eq,Int.toNat_natCast];exact Fy (Nat.add_assoc _ _ _)
  have hx':(qO s xa xi F M t).val=some x:=hx;unfold qO at hx';cases hv:xa.ev t with
  |l b off len cap=>
   rw[hv]at hx' e1;exact key b off len cap (by rw[hv];rfl) e1.2 hx'
  |u b off len el kn=>
   rw[hv]at hx' e1;exact key b off len _ (by rw[hv];rfl) e1.2 hx'
  |_=>rw[hv]at hx';cases(show(none:Option V)=some x from hx')
 ·cases hc
theorem an6(h:Cx P E F M c w t a){o:Oper}{ty:TypeId}{y i:Operand}(hop:o.op= .index ty y i){q:QO}(hc:aB P o.op=some (.q q)){x:V}(hx:(cS q F M t).val=some x):sJ P E c w a o x:=by
 rw[hop]at hc
 simp only[aB]at hc
 split at hc
 ·rename_i n el xa xi hu h1 h2;have e1:=h.ev h1;have e2:=h.ev h2;split at hc
  ·rename_i s hag hs;obtain rfl:QO.ixAn n s xa xi=q:=by simpa [Ev.q]using hc
   obtain⟨l,hv,hg⟩:=uq (show(Fr (xa.ev t) .f fun cs=>Yj n s cs (oA (xi.ev t))).val=some x from hx);unfold Yj at hg;split at hg
   ·rename_i j hj;obtain⟨k,hk⟩:=iQ hj;rw[dY]at hg;by_cases hjn:j<n
    ·rw[ae hjn,cond_true]at hg;obtain⟨r,hr,rfl⟩:=Az hg;rw[hv]at e1;rw[hk]at e2;refine⟨?_,KZ (l:=l) e1.2 (fun v hv=>by obtain⟨rfl,_⟩:=re _ _ _ hr;rw[qn]at hv;exact List.mem_of_mem_drop (List.mem_of_mem_take hv))⟩;simp only[execOp,hop];refine aG ?_;rw[e1.1,e2.1];simp only[Instr.index,conc,asIntOf,aE,aA,aI,ay hu,Sem.run_ite,Ac hjn,and_self,if_true,dF hs,Int.toNat_natCast];exact CM hag hs hr
    ·rw[ag hjn]at hg;cases(show(none:Option V)=some x from hg)
   ·cases(show(none:Option V)=some x from hg)
  ·rename_i s hag hs;obtain rfl:QO.ixA1 n s xa xi=q:=by simpa [Ev.q]using hc
   obtain⟨l,hv,hg⟩:=uq (show(Fr (xa.ev t) .f fun cs=>qC n s cs (oA (xi.ev t))).val=some x from hx);unfold qC at hg;split at hg
   ·rename_i j hj;obtain⟨k,hk⟩:=iQ hj;rw[dY]at hg;by_cases hjn:j<n
    ·rw[ae hjn,cond_true]at hg;have hr:=wv hg;rw[kO]at hr;rw[hv]at e1;rw[hk]at e2;refine⟨?_,ea (l:=l) e1.2 hr⟩;simp only[execOp,hop];refine aG ?_;rw[e1.1,e2.1];simp only[Instr.index,conc,asIntOf,aE,aA,aI,ay hu,Sem.run_ite,Ac hjn,and_self,if_true,dF hs,Int.toNat_natCast];exact qL hag hr
    ·rw[ag hjn]at hg;cases(show(none:Option V)=some x from hg)
   ·cases(show(none:Option V)=some x from hg)
  ·cases hc
 ·rename_i xa xi hu h1 h2;have e1:=h.ev h1;have e2:=h.ev h2;obtain rfl:QO.ixS xa xi=q:=by simpa [Ev.q]using hc
  obtain⟨n,s,hv,hg⟩:=jq (show(oT (xa.ev t) .f fun n s=>Option.rec (motive:=fun _=>QR) .f (fun i=>np n s i) (oA (xi.ev t))).val=some x from hx);cases hj:oA (xi.ev t)with
  |none=>rw[hj]at hg;cases(show(none:Option V)=some x from hg)
  |some j=>
   rw[hj]at hg;obtain⟨k,hk⟩:=iQ hj;have hg':(Bool.rec (motive:=fun _=>QR) .f (fN (Nat.mod (Nat.div s (j8 j)) 256) fun c=> .v (.i .u8 (.ofNat c))) (Nat.blt j n)).val=some x:=hg;rw[bb,dY,aN]at hg';by_cases hjn:j<n
   ·rw[ac (by simpa using hjn)]at hg';obtain rfl:=af hg';rw[hv]at e1;rw[hk]at e2;refine⟨?_,trivial⟩;simp only[execOp,hop];refine aG ?_;rw[e1.1,e2.1];have hget:(ba n s)[j]?=some (UInt8.ofNat (s/256^j%256)):=by
     have:=Er n s j hjn;have hsz:j<(ba n s).size:=by rw[d8];exact hjn
     rw[getElem?_pos (ba n s) j hsz];have:(bl n s)[j]?=some ((ba n s)[j]):=by
      rw[List.getElem?_eq_getElem (by rw[eW];exact hjn)];rfl
     rw[←this,Er n s j hjn]
    simp only[Instr.index,conc,asIntOf,aE,aA,aI,ay hu,Int.natCast_nonneg,if_true,Int.toNat_natCast,hget]
    congr 2
    rw[UInt8.toNat_ofNat'];simp[j8];rfl
   ·rw[ab (by simpa using hjn)]at hg';cases(show(none:Option V)=some x from hg')
 ·cases hc
end
theorem rW(c:Nat):UInt8.ofNat (c%256)=UInt8.ofNat c:=by
 apply UInt8.toNat_inj.1;simp[UInt8.toNat_ofNat']
theorem mT:∀(vs:List V) (n s:Nat),gm vs=some (n,s)→ ∃ns:List Nat,vs=ns.map (fun c=>V.i .u8 (.ofNat c))∧n=ns.length∧bl n s=ns.map (fun c=>UInt8.ofNat c)
 |[],n,s,h=>by
  simp only[gm,Option.some.injEq,Prod.mk.injEq]at h;obtain⟨rfl,rfl⟩:=h;exact⟨[],rfl,rfl,rfl⟩
 |v::l,n,s,h=>by
  rw[gm.eq_def]at h;split at h
  ·rename_i e;cases e
  ·rename_i c l' e;obtain⟨rfl,rfl⟩:=List.cons.inj e;split at h
   ·rename_i m x hm;simp only[Option.some.injEq,Prod.mk.injEq]at h;obtain⟨rfl,rfl⟩:=h;obtain⟨ns,rfl,rfl,hb⟩:=mT l m x hm;refine⟨c::ns,rfl,rfl,?_⟩;show bl (ns.length+1) (c%256+256*x)=_;rw[bl];have h1:(c%256+256*x)%256=c%256:=by omega
    have h2:(c%256+256*x)/256=x:=by omega
    rw[h1,h2,hb,rW];rfl
   ·cases h
  ·cases h
theorem jH(n x:Nat):bM (n+1) x= .i .u8 (.ofNat (x%256))::bM n (x/256):=by
 rw[bM,aN];rfl
theorem jG(E:cE)(n:Nat):∀x,aw E (bM n x)=(bl n x).map fun b=>Value.int .u8 (b.toNat:Int):=by
 induction n with
 |zero=>intro x;rfl
 |succ n ih=>
  intro x;rw[jH,aw,ih,bl,List.map_cons]
  congr 1
  simp only[conc,UInt8.toNat_ofNat']
  congr 1
  show((x%256:Nat):Int)=_;simp
section
variable{P:Program}{E:cE}{F:RO}{M:Mem}{c:Nat→Prop}{w:World}{t:T}{a:Act}
theorem lI(n:Nat):∀x,fE c (bM n x):=by
 induction n with
 |zero=>intro x;trivial
 |succ n ih=>intro x;rw[jH];exact⟨trivial,ih _⟩
theorem iq(n:Nat):∀x,(bM n x).length=n:=by
 induction n with
 |zero=>intro x;rfl
 |succ n ih=>intro x;rw[jH,aX,ih]
theorem Cx.readB(h:Cx P E F M c w t a){sz n b o:Nat}{vs:List V}{r:Option Nat}(hr:readB F M sz n b o=some (vs,r)):
 (loadCells ⟨E.ρ b,E.β b+o,none⟩ (n*sz)).run P w= .ok (aw E vs).toArray w∧fE c vs∧vs.length=n*sz:=by
 unfold Ev.readB at hr
 rw[bp]at hr
 by_cases hn:n=0
 ·subst hn;simp at hr;obtain⟨rfl,rfl⟩:=hr;exact⟨by simp[loadCells,loadCellsFrom,aw],trivial,by simp⟩
 ·rw[ag hn,cond_false]at hr;split at hr
  ·rename_i l hl;simp only[Option.some.injEq,Prod.mk.injEq]at hr;obtain⟨rfl,rfl⟩:=hr;exact h.loadN hl
  ·cases hr
theorem iy{v:V}{n:Nat}(h:qE v=some n):(∃ad cap,conc E v= .slice ad n cap)∨ ∃x,v= .s n x:=by
 cases v<;>first
  |(simp only[qE,Option.some.injEq]at h;subst h;exact .inl ⟨_,_,rfl⟩)
  |(simp only[qE,Option.some.injEq]at h;subst h;exact .inr ⟨_,rfl⟩)
  |(simp[qE]at h)
theorem Cx.readL(h:Cx P E F M c w t a){sz n:Nat}{v:V}{vs:List V}{r:Option Nat}(hr:readL F M sz n v=some (vs,r)):
 (∃ad len cap,conc E v= .slice ad len cap∧(match ad with
  |some ad=>(loadCells ad (n*sz)).run P w= .ok (aw E vs).toArray w
  |none=>vs=[]))∧fE c vs∧vs.length=n*sz:=by
 cases v with
 |l b o len cap=>
  have:=h.readB (show Ev.readB F M sz n b o=some (vs,r)from hr);exact⟨⟨_,_,_,rfl,this.1⟩,this.2⟩
 |u b o len el kn=>
  have:=h.readB (show Ev.readB F M sz n b o=some (vs,r)from hr);exact⟨⟨_,_,_,rfl,this.1⟩,this.2⟩
 |ue b o0 o=>
  have hr':(bif Nat.beq n 0 then some (([]:List V),(none:Option Nat))else none)=some (vs,r):=hr;rw[bp]at hr';by_cases hn:n=0
  ·subst hn;simp at hr';obtain⟨rfl,rfl⟩:=hr';exact⟨⟨_,_,_,rfl,by simp[loadCells,loadCellsFrom,aw]⟩,trivial,by simp⟩
  ·rw[ag hn]at hr';cases hr'
 |l0=>
  have hr':(bif Nat.beq n 0 then some (([]:List V),(none:Option Nat))else none)=some (vs,r):=hr;rw[bp]at hr';by_cases hn:n=0
  ·subst hn;simp at hr';obtain⟨rfl,rfl⟩:=hr';exact⟨⟨_,_,_,rfl,rfl⟩,trivial,by simp⟩
  ·rw[ag hn]at hr';cases hr'
 |_=>cases(show(none:Option (List V×Option Nat))=some (vs,r)from hr)
theorem O0{vs:List V}{n s len cap:Nat}{ad:Option Addr}(hs:gm vs=some (n,s)) (hl:match ad with
 |some ad=>(loadCells ad len).run P w= .ok (aw E vs).toArray w
 |none=>vs=[]):(Conv.bytesToString (.slice ad len cap)).run P w= .ok (.string (ba n s)) w:=by
 obtain⟨ns,rfl,rfl,hb⟩:=mT _ _ _ hs
 cases ad with
 |none=>
  cases ns with
  |nil=>simp[Conv.bytesToString,ba,bl];rfl
  |cons x l=>simp at hl
 |some ad=>
  have hl':(loadCells ad len).run P w= .ok ((ns.map Int.ofNat).map (Value.int .u8)).toArray w:=by
   rw[hl,aZ];congr 2;simp[List.map_map,conc,Function.comp_def]
  rw[run_bytesToString w ad len cap _ hl',foldl_push_bytes]
  congr 2
  apply uW;rw[hb];simp[List.map_map,Function.comp_def]
theorem jA.le{b ty n fz:Nat}{ex str:Bool}{d:List V}{cs:T}{arr:Array Value}{fr:Nat×Nat}(h:jA P E b ty n ex fz str d cs arr fr):E.β b+n≤arr.size:=by
 have:=h.size
 cases ex with
 |true=>simp at this;omega
 |false=>simp at this;omega
theorem MI{n s:Nat}{lo hi:Option Nat}{x:V}(h:(jU n s lo hi).val=some x):∃l k,lo=some l∧hi=some k∧l≤k∧k≤n∧x= .s (k-l) (s/256^l%256^(k-l)):=by
 cases lo with
 |none=>cases(show(none:Option V)=some x from h)
 |some l=>cases hi with
  |none=>cases(show(none:Option V)=some x from h)
  |some k=>
   have h':(Bool.rec (motive:=fun _=>QR) .f (Bool.rec (motive:=fun _=>QR) .f (vS (Nat.sub k l) (Nat.mod (Nat.div s (j8 l)) (j8 (Nat.sub k l)))) (Nat.ble k n)) (Nat.ble l k)).val=some x:=h;rw[bb,bb,bL,bL,b25]at h';by_cases h1:l≤k
   ·rw[ac (by simpa using h1)]at h';by_cases h2:k≤n
    ·rw[ac (by simpa using h2)]at h';exact⟨l,k,rfl,rfl,h1,h2,(af h').symm⟩
    ·rw[ab (by simpa using h2)]at h';cases(show(none:Option V)=some x from h')
   ·rw[ab (by simpa using h1)]at h';cases(show(none:Option V)=some x from h')
theorem jJ{ty n:Nat}(h:dR P ty=some n):P.cellsOf ty=n:=by
 unfold dR at h;unfold Program.cellsOf;rw[h];rfl
theorem Z5{ty s k:Nat}(fits:TypeId→Bool)(hf:fits ty=true)(h:dR P ty=some (s+1)):rowAt P fits (k+1) ty 1 0 1=true:=by
 rw[rowAt.eq_def]
 simp[jJ h,hf]
theorem Fh{ty s k:Nat}(h:dR P ty=some (s+1))(hr:rowAt P (sameLayout P P.depth · ty) P.depth ty 1 0 1=true):liesAt P (k+1) ty 1 0 ty 1=true:=by
 rw[liesAt.eq_def]
 simp only[hr,Bool.true_or]
theorem Pd{ty k:Nat}:sameLayout P (k+1) ty ty=true:=by
 rw[sameLayout.eq_def];simp
theorem OB{ty s:Nat}(h:dR P ty=some (s+1)):liesAt P P.depth ty 1 0 ty 1=true:=
 Fh (k:=2*(P.types.size+Made.depth)+1) h (Z5 (k:=2*(P.types.size+Made.depth)+1) _ (Pd (k:=2*(P.types.size+Made.depth)+1)) h)
theorem OZ(h:Cx P E F M c w t a){o:Oper}{s d:TypeId}{y:Operand}(hop:o.op= .convert s d y){q:QO}(hc:aB P o.op=some (.q q)){x:V}(hx:(cS q F M t).val=some x):sJ P E c w a o x:=by
 rw[hop]at hc
 simp only[aB]at hc
 split at hc
 ·
  rename_i ks k z h1 h2 hz;obtain rfl:QO.ci k z=q:=by simpa [Ev.q]using hc
  obtain⟨k',n,hv,hg⟩:=o7 (show(wg (z.ev t) .f fun _ n=>vI k (wr k n)).val=some x from hx);rw[dW]at hg;obtain rfl:=af hg;have e:=h.ev hz;rw[hv]at e;refine⟨?_,trivial⟩;simp only[execOp,hop];refine aG ?_;rw[e.1,iZ];exact ba1 h1 h2 k' n
 ·
  rename_i z h1 h2 hz;obtain rfl:QO.slS z none none=q:=by simpa [Ev.q]using hc
  obtain⟨n,s',hv,hg⟩:=jq (show(oT (z.ev t) .f fun n s=>jU n s (some 0) (some n)).val=some x from hx);obtain⟨l,k,h3,h4,_,_,rfl⟩:=MI hg;obtain rfl:=af h3;obtain rfl:=af h4;have e:=h.ev hz;rw[hv]at e;refine⟨?_,trivial⟩;simp only[execOp,hop];refine aG ?_;rw[e.1];simp only[convert,aE,ay h1,ay h2,aI,conc,aA]
  congr 2
  apply uW;rw[eV,Nat.sub_zero,uX,Nat.pow_zero,Nat.div_one]
 ·
  rename_i el z h1 h2 hz;split at hc
  ·rename_i hu8;obtain rfl:QO.bs z=q:=by simpa [Ev.q]using hc
   have e:=h.ev hz;have hel:P.underlying el=some (.int .u8):=by
    unfold Cy at hu8;split at hu8
    ·assumption
    ·cases hu8
   have hx':(OX z F M t).val=some x:=hx;unfold OX at hx';split at hx'
   ·cases hx'
   ·rename_i v hv;unfold Md at hx';split at hx'
    ·rename_i n hn;split at hx'
     ·rename_i vs b hr;unfold Me at hx';split at hx'
      ·rename_i m sx hb;rw[aN,aN]at hx';have hxx:x= .s m sx:=by
        split at hx'
        ·exact(af hx').symm
        ·exact(af hx').symm
       subst hxx;obtain⟨⟨ad,len,cap,hcv,hld⟩,_,_⟩:=h.readL hr;rcases iy (E:=E) hn with⟨ad',cap',e'⟩|⟨y',e'⟩
       ·rw[hcv]at e';simp only[Value.slice.injEq]at e';obtain⟨_,rfl,_⟩:=e';refine⟨?_,trivial⟩;simp only[execOp,hop];refine aG ?_;rw[e.1,hcv,run_convert_bytes_string w s d el ad len cap h1 hel h2];exact O0 hb (by simpa using hld)
       ·exact absurd e' (hv n y')
      ·cases hx'
     ·cases hx'
    ·cases hx'
  ·cases hc
 ·split at hc<;>cases hc
 ·split at hc<;>cases hc
 ·
  rename_i el z h1 h2 hz;split at hc
  ·cases hc
  ·rename_i hsz;obtain rfl:QO.up z=q:=by simpa [Ev.q]using hc
   have e:=h.ev hz;have hx':(P5 z F M t).val=some x:=hx;unfold P5 at hx';split at hx'
   ·rename_i hv;obtain rfl:=af hx';rw[hv]at e;refine⟨?_,trivial⟩;simp only[execOp,hop];refine aG ?_;rw[e.1];simp only[convert,Conv.unsafePointer,aE,ay h1,ay h2,aI,conc,aA]
   ·rename_i b off hv;cases hl:look F M b with
    |none=>rw[hl]at hx';cases(show(none:Option V)=some x from hx')
    |some blk=>
     cases blk with
     |cells ty n ex fz str dd cs=>
      rw[hl]at hx';have hx2:(bif Nat.blt off n then QR.r (.p b off) b else .f).val=some x:=hx';rw[dY]at hx2;by_cases hlt:off<n
      ·rw[ae hlt]at hx2;obtain rfl:=af hx2;rw[hv]at e;refine⟨?_,e.2⟩;obtain⟨arr,fr,ho,hr⟩:=h.cells hl;have hle:=hr.le;have hshape:w.shape? (E.ρ b)=some (ty,arr.size):=by simp[World.shape?,ho]
       obtain⟨s1,hs1⟩:∃s1,dR P el=some (s1+1):=by
        cases hz':dR P el with
        |none=>rw[hz']at hsz;simp at hsz
        |some k=>cases k with
         |zero=>rw[hz']at hsz;simp at hsz
         |succ k=>exact⟨k,rfl⟩
       have hnot:¬(arr.size≤E.β b+off):=by omega
       simp only[execOp,hop];refine aG ?_;rw[e.1];simp[convert,Conv.unsafePointer,aE,ay h1,ay h2,conc,Conv.seenAt,viewAt,hshape,cellsIn,dF hs1,hnot]
      ·rw[ag hlt]at hx2;cases(show(none:Option V)=some x from hx2)
     |_=>rw[hl]at hx';cases(show(none:Option V)=some x from hx')
   ·cases hx'
 ·
  rename_i el z h1 h2 hz;split at hc
  ·rename_i s1 hs1;obtain rfl:QO.dn el (s1+1) z=q:=by simpa [Ev.q]using hc
   have e:=h.ev hz;have hx':(P0 el (s1+1) z F M t).val=some x:=hx;unfold P0 at hx';split at hx'
   ·rename_i hv;obtain rfl:=af hx';rw[hv]at e;refine⟨?_,trivial⟩;simp only[execOp,hop];refine aG ?_;rw[e.1];simp only[convert,Conv.unsafePointer,aE,ay h1,ay h2,aI,conc,aA]
   ·rename_i b hv;unfold bb7 at hx';split at hx'
    ·rename_i ty n fz str dd cs hl;rw[bp,bp]at hx';by_cases hh:ty=el∧n=s1+1
     ·obtain⟨rfl,rfl⟩:=hh;have hx2:some (V.p b 0)=some x:=by simpa [QR.val]using hx'
      obtain rfl:=af hx2;rw[hv]at e;refine⟨?_,e.2⟩;obtain⟨arr,fr,ho,hr⟩:=h.cells hl;have hsz:=hr.size;simp only[if_true]at hsz;have hshape:w.shape? (E.ρ b)=some (ty,s1+1):=by simp[World.shape?,ho,hsz.2]
      simp only[execOp,hop];refine aG ?_;rw[e.1];have hdiv:(s1+1)/(s1+1)=1:=Nat.div_self (by omega);simp[convert,Conv.unsafePointer,aE,ay h1,ay h2,conc,Conv.seenAt,viewAt,hshape,dF hs1,variablesAt,jJ hs1,hsz.1,hdiv,OB hs1]
     ·exfalso;have:(decide (ty=el)&&decide (n=s1+1))=false:=by
       rw[Bool.and_eq_false_iff];simp only[decide_eq_false_iff_not];omega
      rw[this]at hx';cases(show(none:Option V)=some x from hx')
    ·cases hx'
   ·cases hx'
  ·cases hc
 ·cases hc
end
end
end Go.Proofs.YtdnddpmjnlagfaaGreatDoor.Ev
