/- What is proved here: nothing of the program; it defines an evaluator of compact code over abstract memory, and the compiler into that code. No conditions. -/
import GoSem.Step
import Derived.Calls
import Derived.Laws.Cells
import Derived.Laws.Strings
set_option linter.unusedSimpArgs false
set_option linter.unusedVariables false
set_option linter.defProp false
namespace Go.Proofs.YtcnblipfcihcpaaGreatDoor.Ev
open Go
noncomputable section
noncomputable section
def ah:=@decide_eq_false
def ag:=@Option.some.inj
def af:=@decide_eq_true
def ak:=@Nat.le_refl
def aD:=@Nat.lt_succ_self
def aP:=@List.length_cons
def bk:=@Option.bind_eq_some_iff
def aG:=@List.length_append
def aX:=@Option.map_eq_some_iff
def cB:=@List.append_assoc
def ab:=@if_neg
def ae:=@if_pos
def cT:=@Nat.add_zero
def bo:=@List.length_nil
def aZ:=@Result.andThen_ok
def bM:=@Option.isSome_iff_exists
def qY:=@List.drop_eq_getElem_cons
def aC:=@Bool.and_eq_true
def aE:=@Nat.zero_le
def bN:=@List.mem_cons_of_mem
def bg:=@Bool.false_eq_true
def eL:=@List.length_drop
def aO:=@Sem.run_pure
def aA:=@Nat.le_succ
def aT:=@Sem.run_bind
def cu:=@List.append_nil
def bv:=@List.mem_cons
def ck:=@List.mem_cons_self
def bF:=@Nat.le_trans
def aY:=@of_decide_eq_true
def qZ:=@List.getElem_append_right
def r5:=@List.getElem_append_left
inductive Tr(α:Type) where
 |e:Tr α
 |n (l:Tr α) (v:Option α) (r:Tr α):Tr α
def Tr.get{α:Type}(t:Tr α):Nat→Option α:=
 Tr.rec (motive:=fun _=>Nat→Option α) (fun _=>none)
  (fun _ v _ gl gr k=>Bool.rec (Bool.rec (gl (Nat.div k 2)) (gr (Nat.sub (Nat.div k 2) 1)) (Nat.beq (Nat.mod k 2) 0)) v (Nat.beq k 0)) t
def Tr.force{α β:Type}(t:Tr α)(f:Tr α→β):β:=
 Tr.rec (motive:=fun _=>β) (f .e) (fun l v r _ _=>f (.n l v r)) t
def Tr.single{α:Type}(v:Option α)(fuel:Nat):Nat→Tr α:=
 Nat.rec (motive:=fun _=>Nat→Tr α) (fun _=> .n .e v .e)
  (fun _ ih k=>Bool.rec (Bool.rec ((ih (Nat.div k 2)).force fun t=> .n t none .e) ((ih (Nat.sub (Nat.div k 2) 1)).force fun t=> .n .e none t) (Nat.beq (Nat.mod k 2) 0)) (.n .e v .e) (Nat.beq k 0)) fuel
def Tr.put{α:Type}(v:Option α)(t:Tr α):Nat→Tr α:=
 Tr.rec (motive:=fun _=>Nat→Tr α) (fun k=>Tr.single v (Nat.succ (Nat.log2 k)) k)
  (fun l x r sl sr k=>Bool.rec (Bool.rec ((sl (Nat.div k 2)).force fun t=> .n t x r) ((sr (Nat.sub (Nat.div k 2) 1)).force fun t=> .n l x t) (Nat.beq (Nat.mod k 2) 0)) (.n l v r) (Nat.beq k 0)) t
def Tr.set{α:Type}(t:Tr α)(k:Nat)(v:α):Tr α:=Tr.put (some v) t k
def Tr.del{α:Type}(t:Tr α)(k:Nat):Tr α:=Tr.put none t k
inductive aM where
 |h:aM
 |l (p:aM):aM
 |r (p:aM):aM
def Tr.left{α:Type}(t:Tr α):Tr α:=Tr.rec (motive:=fun _=>Tr α) .e (fun l _ _ _ _=>l) t
def Tr.right{α:Type}(t:Tr α):Tr α:=Tr.rec (motive:=fun _=>Tr α) .e (fun _ _ r _ _=>r) t
def Tr.val{α:Type}(t:Tr α):Option α:=Tr.rec (motive:=fun _=>Option α) none (fun _ v _ _ _=>v) t
def Tr.getP{α:Type}(t:Tr α)(p:aM):Option α:=
 aM.rec (motive:=fun _=>Tr α→Option α) (fun t=>t.val)
  (fun _ ih t=>Tr.rec (motive:=fun _=>Option α) none (fun l _ _ _ _=>ih l) t)
  (fun _ ih t=>Tr.rec (motive:=fun _=>Option α) none (fun _ _ r _ _=>ih r) t) p t
def Tr.setP{α:Type}(t:Tr α)(p:aM)(v:α):Tr α:=
 aM.rec (motive:=fun _=>Tr α→Tr α)
  (fun t=>Tr.rec (motive:=fun _=>Tr α) (.n .e (some v) .e) (fun l _ r _ _=> .n l (some v) r) t)
  (fun _ ih t=>Tr.rec (motive:=fun _=>Tr α) ((ih .e).force fun a=> .n a none .e) (fun l x r _ _=>(ih l).force fun a=> .n a x r) t)
  (fun _ ih t=>Tr.rec (motive:=fun _=>Tr α) ((ih .e).force fun a=> .n .e none a) (fun l x r _ _=>(ih r).force fun a=> .n l x a) t) p t
inductive V where
 |b (x:Bool)
 |i (k:IntKind) (n:Int)
 |s (len x:Nat)
 |p (blk off:Nat)
 |p0
 |l (blk off len cap:Nat)
 |u (blk off len el kn:Nat)
 |ue (blk off0 off:Nat)
 |l0
 |m (blk:Nat)
 |m0
 |f (fn:Nat) (first caps:List V)
 |y (blk:Nat)
 |f0
 |a (t:Nat) (v:V)
 |a0
 |g (cs:List V)
 |t (cs:List V)
 deriving Inhabited
def undef:V:= .t []
inductive X where
 |t (n:aM)
 |c (v:V)
abbrev T:=Tr V
def cS(tm:T)(p:aM):V:=Option.rec undef (fun v=>v) (tm.getP p)
def X.ev(x:X)(tm:T):V:=X.rec (motive:=fun _=>T→V) (fun n tm=>cS tm n) (fun v _=>v) x tm
def Fa{β:Type}(v:V)(f:β)(g:Bool→β):β:=V.casesOn (motive_1:=fun _=>β) v g (fun _ _=>f) (fun _ _=>f) (fun _ _=>f) f (fun _ _ _ _=>f) (fun _ _ _ _ _=>f) (fun _ _ _=>f) f (fun _=>f) f (fun _ _ _=>f) (fun _=>f) f (fun _ _=>f) f (fun _=>f) (fun _=>f)
def wO{β:Type}(v:V)(f:β)(g:IntKind→Int→β):β:=V.casesOn (motive_1:=fun _=>β) v (fun _=>f) g (fun _ _=>f) (fun _ _=>f) f (fun _ _ _ _=>f) (fun _ _ _ _ _=>f) (fun _ _ _=>f) f (fun _=>f) f (fun _ _ _=>f) (fun _=>f) f (fun _ _=>f) f (fun _=>f) (fun _=>f)
def t8{β:Type}(v:V)(f:β)(g:Nat→Nat→β):β:=V.casesOn (motive_1:=fun _=>β) v (fun _=>f) (fun _ _=>f) (fun _ _=>f) g f (fun _ _ _ _=>f) (fun _ _ _ _ _=>f) (fun _ _ _=>f) f (fun _=>f) f (fun _ _ _=>f) (fun _=>f) f (fun _ _=>f) f (fun _=>f) (fun _=>f)
def tY{β:Type}(v:V)(f:β)(g:Nat→Nat→β):β:=V.casesOn (motive_1:=fun _=>β) v (fun _=>f) (fun _ _=>f) g (fun _ _=>f) f (fun _ _ _ _=>f) (fun _ _ _ _ _=>f) (fun _ _ _=>f) f (fun _=>f) f (fun _ _ _=>f) (fun _=>f) f (fun _ _=>f) f (fun _=>f) (fun _=>f)
def Fb{β:Type}(v:V)(f:β)(g:List V→β):β:=V.casesOn (motive_1:=fun _=>β) v (fun _=>f) (fun _ _=>f) (fun _ _=>f) (fun _ _=>f) f (fun _ _ _ _=>f) (fun _ _ _ _ _=>f) (fun _ _ _=>f) f (fun _=>f) f (fun _ _ _=>f) (fun _=>f) f (fun _ _=>f) f g (fun _=>f)
inductive Sh where
 |bool|int|str|ptr|slice|map|func|iface|ifs (ints:List Nat)|agg (ks:List (Nat×Sh))
inductive QO where
 |mv (x:X)
 |pk (c a b:X)
 |ld1 (x:X)
 |ldn (n:Nat) (x:X)
 |nck (x:X)
 |bi (op:BinOp) (x y:X)
 |eq (neg:Bool) (sh:Sh) (lit:Bool) (x y:X)
 |un (op:UnOp) (x:X)
 |ci (k:IntKind) (x:X)
 |bs (x:X)
 |mki (t:Nat) (x:X)
 |mkf (f:Nat) (first caps:List X)
 |fa (off:Nat) (x:X)
 |fl1 (off:Nat) (x:X)
 |fln (off n:Nat) (x:X)
 |iaA (len sz:Nat) (x i:X)
 |iaS (sz:Nat) (x i:X)
 |ixA1 (len sz:Nat) (x i:X)
 |ixAn (len sz:Nat) (x i:X)
 |ixS (x i:X)
 |slS (x:X) (lo hi:Option X)
 |slL (sz:Nat) (x:X) (lo hi mx:Option X)
 |slA (n sz:Nat) (x:X) (lo hi mx:Option X)
 |lk (sh:Sh) (zero:V) (ok:Bool) (x k:X)
 |ex (i:Nat) (x:X)
 |ln (sh:Sh) (x:X)
 |lnc (n:Nat)
 |cp (x:X)
 |mn (mx:Bool) (x:X) (xs:List X)
 |bld (zero:List V) (parts:List (Nat×Nat×X))
 |ta (want:Nat) (zero:V) (ok:Bool) (x:X)
 |up (x:X)
 |dn (ty sz:Nat) (x:X)
 |sd (x:X)
 |xib (x c:X)
 |xcn (x c:X)
 |xcmp (x y:X)
 |xibB (x c:X)
 |sap (n:Nat) (x:X)
 |bad
inductive AO where
 |al (ty:Nat) (cells:List V)
 |bx (ty sz:Nat) (x:X)
 |bsl (ty n sz:Nat) (zero:List V) (parts:List (Nat×X))
 |mks (ty sz bytes:Nat) (zero:List V) (l c:X)
 |mkm
 |sb (ty:Nat) (x:X)
 |nz (ty:Nat) (x:X)
 |rgs (x:X)
inductive EO where
 |call (f:Nat) (args:List X)
 |cv (f:X) (args:List X)
 |st (n:Nat) (x v:X)
 |app (ty sz bytes:Nat) (x y:X)
 |cpy (sz:Nat) (x y:X)
 |clr (zero:List V) (x:X)
 |mu (sh:Sh) (m k v:X)
 |del (sh:Sh) (m k:X)
 |us (ty:Nat) (x n:X)
 |ms (x:X)
 |nxs (x:X)
 |rgm (x:X)
 |nxm (x:X)
 |apz (ty bytes:Nat) (x n:X)
 |ent (x:X)
 |mcl (x:X)
 |inv (tbl:List (Nat×Nat)) (x:X) (args:List X)
inductive OK where
 |q (o:QO)
 |a (o:AO)
 |e (o:EO)
inductive CO where
 |mk (dst:Option aM) (op:OK) (guard:Option (aM×Bool))
inductive CC where
 |skip
 |reg (ops:List CO)
 |dreg (n:Nat) (ops:List (Nat×Nat×CO))
 |seq (a b:CC)
 |cond (x:X) (a b:CC)
 |block (id:Nat) (b:CC)
 |loop (b:CC)
 |rf (f:X) (params:List aM) (assign body:CC)
 |exit (id:Nat)
 |scope (b tbl:CC)
 |tab (l:Nat) (c r:CC)
 |goto (l:Nat)
 |ret
 |bad
 deriving Inhabited
inductive RV where
 |t (n:aM)
 |c1 (n:aM)
 |cn (n:aM) (sz:Nat)
inductive pW where
 |none|ret|ext (id:Nat)
inductive LS where
 |ready|busy|done|exhausted
inductive bL where
 |cells (ty n:Nat) (ex:Bool) (fz:Nat) (str:Bool) (d:List V) (c:T)
 |map (es:List (V×V×Nat)) (clock:Nat)
 |loop (s:LS) (pe:pW) (fn:Nat) (tm:T) (params:List aM) (assign body:CC) (defers:Nat)
 |defs (taken:Bool)
 |siter (n s pos:Nat)
 |miter (m:Option Nat) (since:Nat) (seen:List Nat) (stepped:Nat)
def De(n:Int):Int:=
 let m:=Int.emod n 18446744073709551616
 bif Nat.blt m.toNat 9223372036854775808 then m else Int.sub m 18446744073709551616
def wrS(n:Int)(w h:Nat):Int:=
 let m:=Int.emod n (.ofNat w)
 bif Nat.blt m.toNat h then m else Int.sub m (.ofNat w)
def bx7(n:Int):Int:=
 Int.rec (motive:=fun _=>Int) (fun m=>Bool.rec (motive:=fun _=>Int) (De n) (.ofNat m) (Nat.blt m 9223372036854775808)) (fun m=>Bool.rec (motive:=fun _=>Int) (De n) (.negSucc m) (Nat.blt m 9223372036854775808)) n
def d89(n:Int):Int:=wrS n 256 128
def cc5(n:Int):Int:=wrS n 65536 32768
def cc6(n:Int):Int:=wrS n 4294967296 2147483648
def d90(n:Int):Int:=Int.emod n (.ofNat 256)
def cc7(n:Int):Int:=Int.emod n (.ofNat 65536)
def cc8(n:Int):Int:=Int.emod n (.ofNat 4294967296)
def cc9(n:Int):Int:=Int.emod n (.ofNat 18446744073709551616)
def wr(k:IntKind):Int→Int:=IntKind.rec (motive:=fun _=>Int→Int) d89 cc5 cc6 bx7 d90 cc7 cc8 cc9 k
def MG(a b:Int):Bool:=
 Int.rec (motive:=fun _=>Bool) (fun x=>Int.rec (motive:=fun _=>Bool) (fun y=>Nat.blt x y) (fun _=>false) b) (fun x=>Int.rec (motive:=fun _=>Bool) (fun _=>true) (fun y=>Nat.blt y x) b) a
def Oa(a b:Int):Bool:=
 Int.rec (motive:=fun _=>Bool) (fun x=>Int.rec (motive:=fun _=>Bool) (fun y=>Nat.beq x y) (fun _=>false) b) (fun x=>Int.rec (motive:=fun _=>Bool) (fun _=>false) (fun y=>Nat.beq x y) b) a
def fN{β:Type}(n:Nat)(f:Nat→β):β:=Nat.rec (motive:=fun _=>β) (f 0) (fun m _=>f (Nat.succ m)) n
def fI{β:Type}(n:Int)(f:Int→β):β:=
 Int.rec (motive:=fun _=>β) (fun m=>fN m fun m=>f (.ofNat m)) (fun m=>fN m fun m=>f (.negSucc m)) n
def fB{β:Type}(b:Bool)(f:Bool→β):β:=Bool.rec (f false) (f true) b
def kd:IntKind→Nat
 | .i8| .u8=>8
 | .i16| .u16=>16
 | .i32| .u32=>32
 | .i64| .u64=>64
def toU(k:IntKind)(x:Int):Nat:=(Int.emod x (.ofNat (Nat.pow 2 (kd k)))).toNat
def sZ(k:IntKind):Nat:=IntKind.rec (motive:=fun _=>Nat) 0 1 2 3 4 5 6 7 k
def je(a b:IntKind):Bool:=Nat.beq (sZ a) (sZ b)
inductive QR where
 |f
 |v (x:V)
 |r (x:V) (b:Nat)
def vI(k:IntKind)(n:Int):QR:=fI n fun n=> .v (.i k n)
def vB(b:Bool):QR:=fB b fun b=> .v (.b b)
def vS(n x:Nat):QR:=fN n fun n=>fN x fun x=> .v (.s n x)
def kJ(k:IntKind)(n:Nat):QR:=vI k (wr k (.ofNat n))
def n8(k:IntKind)(a b:Int):QR:=bif Oa b 0 then .f else vI k (wr k (Int.tdiv a b))
def px(k:IntKind)(a b:Int):QR:=bif Oa b 0 then .f else vI k (Int.tmod a b)
def t6(b:Bool):Bool:=Bool.rec (motive:=fun _=>Bool) true false b
def ag3(a b:Int):Int:=
 Int.rec (motive:=fun _=>Int) (fun x=>Int.rec (motive:=fun _=>Int) (fun y=> .ofNat (Nat.add x y)) (fun _=>Int.add a b) b) (fun _=>Int.add a b) a
def bm3(k:IntKind)(a b:Int):QR:=vI k (wr k (ag3 a b))
def bn2(k:IntKind)(a b:Int):QR:=vI k (wr k (Int.sub a b))
def bn0(k:IntKind)(a b:Int):QR:=vI k (wr k (Int.mul a b))
def bm4(k:IntKind)(a b:Int):QR:=kJ k (Nat.land (toU k a) (toU k b))
def cD5(k:IntKind)(a b:Int):QR:=kJ k (Nat.lor (toU k a) (toU k b))
def cD6(k:IntKind)(a b:Int):QR:=kJ k (Nat.xor (toU k a) (toU k b))
def XG(k:IntKind)(a b:Int):QR:=kJ k (Nat.land (toU k a) (Nat.xor (Nat.sub (Nat.pow 2 (kd k)) 1) (toU k b)))
def bm5(_:IntKind)(a b:Int):QR:=vB (Oa a b)
def bn1(_:IntKind)(a b:Int):QR:=vB (t6 (Oa a b))
def bm9(_:IntKind)(a b:Int):QR:=vB (MG a b)
def bm8(_:IntKind)(a b:Int):QR:=vB (t6 (MG b a))
def bm7(_:IntKind)(a b:Int):QR:=vB (MG b a)
def bm6(_:IntKind)(a b:Int):QR:=vB (t6 (MG a b))
def cD4(_:IntKind)(_ _:Int):QR:= .f
def qh(op:BinOp):IntKind→Int→Int→QR:=
 BinOp.rec (motive:=fun _=>IntKind→Int→Int→QR) bm3 bn2 bn0 n8 px bm4 cD5 cD6 cD4 cD4 XG bm5 bn1 bm9 bm8 bm7 bm6 op
def en(k:IntKind)(n:Nat):Nat:=bif Nat.ble n (kd k)then n else kd k
def az5(k:IntKind)(a b:Int):QR:=
 Int.rec (motive:=fun _=>QR) (fun n=>vI k (wr k (Int.mul a (.ofNat (Nat.pow 2 (en k n)))))) (fun _=> .f) b
def az6(k:IntKind)(a b:Int):QR:=
 Int.rec (motive:=fun _=>QR) (fun n=>vI k (Int.fdiv a (.ofNat (Nat.pow 2 (en k n))))) (fun _=> .f) b
def bl:Nat→Nat→List UInt8
 |0,_=>[]
 |n+1,x=>UInt8.ofNat (x%256)::bl n (x/256)
def ba(n x:Nat):ByteArray:=⟨(bl n x).toArray⟩
def jn(n:Nat):Nat:=Nat.pow 256 n
def pK(n x m y:Nat):Bool:=Bool.rec (motive:=fun _=>Bool) false (Nat.beq (Nat.mod x (jn n)) (Nat.mod y (jn n))) (Nat.beq n m)
def sf:Nat→Nat→Nat→Nat→Nat→Bool
 |0,_,_,_,_=>false
 |fuel+1,n,x,m,y=>
  match m with
  |0=>false
  |m+1=>match n with
   |0=>true
   |n+1=>Nat.blt (Nat.mod x 256) (Nat.mod y 256)||(Nat.beq (Nat.mod x 256) (Nat.mod y 256)&&sf fuel n (Nat.div x 256) m (Nat.div y 256))
def mO(n x m y:Nat):QR:=
 bif Nat.ble (Nat.add n m) 1099511627776 then vS (Nat.add n m) (Nat.add (Nat.mod x (jn n)) (Nat.mul (jn n) y))else .f
def WK(op:BinOp)(n x m y:Nat):QR:=
 match op with
 | .add=>mO n x m y
 | .eql=>vB (pK n x m y)
 | .neq=>vB (!pK n x m y)
 | .lss=>vB (sf (Nat.succ (Nat.add n m)) n x m y)
 | .geq=>vB (!sf (Nat.succ (Nat.add n m)) n x m y)
 |_=> .f
abbrev Mem:=Tr bL
abbrev RO:=List (Nat×bL)
def be(F:RO)(k:Nat):Option bL:=
 List.rec (motive:=fun _=>Option bL) none (fun h _ ih=>Bool.rec ih (some h.2) (Nat.beq h.1 k)) F
def look(F:RO)(M:Mem)(k:Nat):Option bL:=
 Option.rec (be F k) (fun b=>some b) (M.get k)
def yp{α:Type}(l:List α):Nat→Option α:=
 List.rec (motive:=fun _=>Nat→Option α) (fun _=>none) (fun h _ ih k=>Bool.rec (ih (Nat.sub k 1)) (some h) (Nat.beq k 0)) l
def cell(n:Nat)(d:List V)(c:T)(k:Nat):Option V:=
 Bool.rec none (Option.rec (yp d (Nat.mod k d.length)) (fun v=>some v) (c.get k)) (Nat.blt k n)
def X6(v:V)(o:Option (List V)):Option (List V):=Option.rec (motive:=fun _=>Option (List V)) none (fun l=>some (v::l)) o
def fx(n:Nat)(d:List V)(c:T)(m:Nat):Nat→Option (List V):=
 Nat.rec (motive:=fun _=>Nat→Option (List V)) (fun _=>some [])
  (fun _ ih k=>Option.rec (motive:=fun _=>Option (List V)) none (fun v=>X6 v (ih (Nat.succ k))) (cell n d c k)) m
def lX{β:Type}(o:Option bL)(f:β)(g:Nat→List V→T→β):β:=
 Option.rec (motive:=fun _=>β) f (fun b=>bL.casesOn (motive:=fun _=>β) b (fun _ n _ _ _ d c=>g n d c) (fun _ _=>f) (fun _ _ _ _ _ _ _ _=>f) (fun _=>f) (fun _ _ _=>f) (fun _ _ _ _=>f)) o
def loadN(F:RO)(M:Mem)(b o n:Nat):Option (List V):=
 lX (look F M b) none fun m d c=>fx m d c n o
def load1(F:RO)(M:Mem)(b o:Nat):Option V:=
 lX (look F M b) none fun m d c=>cell m d c o
def flatten(v:V):List V:=Fb v [v] fun cs=>cs
def dD(v:V):Bool:=V.casesOn (motive_1:=fun _=>Bool) v (fun _=>true) (fun _ _=>true) (fun _ _=>true) (fun _ _=>true) true (fun _ _ _ _=>true) (fun _ _ _ _ _=>true) (fun _ _ _=>true) true (fun _=>true) true (fun _ _ _=>true) (fun _=>true) true (fun _ _=>true) true (fun _=>false) (fun _=>false)
def bj(l:List V):Bool:=List.rec (motive:=fun _=>Bool) true (fun v _ ih=>Bool.rec (motive:=fun _=>Bool) false ih (dD v)) l
def bz(vs:List V)(k:Nat):T→T:=
 List.rec (motive:=fun _=>Nat→T→T) (fun _ t=>t) (fun v _ ih k t=>(t.set k v).force fun t=>ih (Nat.succ k) t) vs k
def fR(M:Mem)(b o:Nat)(vs:List V)(ty n:Nat)(ex:Bool)(fz:Nat)(str:Bool)(d:List V)(c:T):Option Mem:=
 (bz vs o c).force fun c=>(M.set b (.cells ty n ex fz str d c)).force fun M=>some M
def oY(M:Mem)(b o:Nat)(vs:List V)(blk:bL):Option Mem:=
 bL.casesOn (motive:=fun _=>Option Mem) blk
  (fun ty n ex fz str d c=>Bool.rec (motive:=fun _=>Option Mem) none (Bool.rec (motive:=fun _=>Option Mem) none (Bool.rec (motive:=fun _=>Option Mem) none (fR M b o vs ty n ex fz str d c) (bj vs)) (Nat.ble fz o)) (Nat.ble (Nat.add o vs.length) n))
  (fun _ _=>none) (fun _ _ _ _ _ _ _ _=>none) (fun _=>none) (fun _ _ _=>none) (fun _ _ _ _=>none)
def dK(M:Mem)(b o:Nat)(vs:List V):Option Mem:=Option.rec (motive:=fun _=>Option Mem) none (fun blk=>oY M b o vs blk) (M.get b)
def ff:List V→Option (Nat×Nat)
 |[]=>some (0,0)
 | .i .u8 (.ofNat c)::l=>match ff l with
   |some (n,x)=>some (Nat.succ n,Nat.add (Nat.mod c 256) (Nat.mul 256 x))
   |none=>none
 |_=>none
def cC:Nat→Nat→List V
 |0,_=>[]
 |n+1,x=>fN (Nat.mod x 256) fun c=> .i .u8 (.ofNat c)::cC n (Nat.div x 256)
def sF(v:V):Option Nat:=wO v none fun _ n=>Int.rec (motive:=fun _=>Option Nat) some (fun _=>none) n
def optN(tm:T)(d:Nat)(o:Option X):Option Nat:=Option.rec (motive:=fun _=>Option Nat) (some d) (fun x=>sF (x.ev tm)) o
def optNN(tm:T):Option X→Option (Option Nat)
 |none=>some none
 |some x=>match sF (x.ev tm)with
  |some n=>some (some n)
  |none=>none
def lM(F:RO)(M:Mem)(b:Nat):Bool:=
 match look F M b with
 |some (.cells _ n _ fz str _ _)=>Nat.beq fz 0&& !str&&Nat.blt 0 n
 |_=>false
def CB(F:RO)(M:Mem)(b o b' o':Nat):Option Bool:=
 bif Nat.beq b b' then some (Nat.beq o o')else bif lM F M b&&lM F M b' then some false else none
def uE:V→Option Bool
 | .l0=>some true
 | .l _ _ _ _=>some false
 | .u _ _ _ _ _=>some false
 | .ue _ _ _=>some false
 |_=>none
def Cs:V→Option Bool
 | .m0=>some true
 | .m _=>some false
 |_=>none
def Cr:V→Option Bool
 | .f0=>some true
 | .f _ _ _=>some false
 | .y _=>some false
 |_=>none
def AB:V→Option Bool
 | .a0=>some true
 | .a _ _=>some false
 |_=>none
def jx(lit:Bool):Option Bool→Option Bool→Option Bool
 |some true,some true=>bif lit then some true else none
 |some true,some false=>some false
 |some false,some true=>some false
 |_,_=>none
def eqB:V→V→Option Bool
 | .b x,.b y=>some (x==y)
 |_,_=>none
def eqN:V→V→Option Bool
 | .i k x,.i k' y=>bif je k k' then some (Oa x y)else none
 |_,_=>none
def eqS:V→V→Option Bool
 | .s n x,.s m y=>some (pK n x m y)
 |_,_=>none
def eqP(F:RO)(M:Mem):V→V→Option Bool
 | .p0,.p0=>some true
 | .p0,.p _ _=>some false
 | .p _ _,.p0=>some false
 | .p b o,.p b' o'=>CB F M b o b' o'
 |_,_=>none
def F5(k:Nat):List Nat→Bool
 |[]=>false
 |h::r=>bif Nat.beq h k then true else F5 k r
def Cc(ints:List Nat)(x y:V):Option Bool:=
 match x,y with
 | .a t v,.a t' v'=>bif Nat.beq t t' then(bif F5 t ints then eqN v v' else none)else some false
 |x,y=>jx false (AB x) (AB y)
def Jn(F:RO)(M:Mem)(sh:Sh)(lit:Bool)(x y:V):Option Bool:=
 match sh with
 | .bool=>eqB x y
 | .int=>eqN x y
 | .str=>eqS x y
 | .ptr=>eqP F M x y
 | .slice=>jx true (uE x) (uE y)
 | .map=>jx true (Cs x) (Cs y)
 | .func=>jx true (Cr x) (Cr y)
 | .iface=>jx lit (AB x) (AB y)
 | .ifs l=>Cc l x y
 | .agg _=>none
def ng(F:RO)(M:Mem)(xs ys:List V):List (Nat×Sh)→Option Bool
 |[]=>some true
 |(o,sh)::r=>match yp xs o,yp ys o with
  |some x,some y=>match Jn F M sh false x y with
   |some true=>ng F M xs ys r
   |r=>r
  |_,_=>none
def yP(F:RO)(M:Mem)(ks:List (Nat×Sh))(x y:V):Option Bool:=
 match x,y with
 | .g xs,.g ys=>ng F M xs ys ks
 |_,_=>none
def yR(F:RO)(M:Mem)(sh:Sh)(lit:Bool)(x y:V):Option Bool:=
 match sh with
 | .agg ks=>yP F M ks x y
 |sh=>Jn F M sh lit x y
def evs(xs:List X)(tm:T):List V:=
 List.rec (motive:=fun _=>List V) [] (fun x _ ih=>x.ev tm::ih) xs
def nr{α:Type}:Nat→List α→Option (List α)
 |0,_=>some []
 |_+1,[]=>none
 |n+1,x::l=>match nr n l with
  |some r=>some (x::r)
  |none=>none
def kN{α:Type}:Nat→List α→List α
 |0,l=>l
 |_+1,[]=>[]
 |n+1,_::l=>kN n l
def iC{α:Type}:List α→Nat→List α→Option (List α)
 |l,0,[]=>some l
 |l,0,v::r=>match l with
  |[]=>none
  |_::t=>match iC t 0 r with
   |some t=>some (v::t)
   |none=>none
 |[],_+1,_=>none
 |h::t,k+1,r=>match iC t k r with
  |some t=>some (h::t)
  |none=>none
def fillParts(tm:T):List V→List (Nat×Nat×X)→Option (List V)
 |cs,[]=>some cs
 |cs,(o,n,x)::r=>
  bif Nat.beq (flatten (x.ev tm)).length n then match iC cs o (flatten (x.ev tm))with
   |some cs=>fillParts tm cs r
   |none=>none
  else none
def F6(mx:Bool):V→V→Option V
 | .i k x,.i _ y=>fI (bif MG (bif mx then x else y) (bif mx then y else x)then y else x) fun n=>some (.i k n)
 |_,_=>none
def minAll(mx:Bool)(tm:T):V→List X→Option V
 |v,[]=>some v
 |v,x::r=>match F6 mx v (x.ev tm)with
  |some v=>minAll mx tm v r
  |none=>none
def tR(c:Nat):Nat→Nat→Nat→Option Nat
 |0,_,_=>none
 |n+1,x,i=>bif Nat.beq (Nat.mod x 256) c then some i else tR c n (Nat.div x 256) (Nat.succ i)
def countB(c:Nat):Nat→Nat→Nat→Nat
 |0,_,r=>r
 |n+1,x,r=>countB c n (Nat.div x 256) (bif Nat.beq (Nat.mod x 256) c then Nat.succ r else r)
def qr(o:Option V):QR:=Option.rec (motive:=fun _=>QR) .f .v o
def qrb(b:Nat)(o:Option V):QR:=Option.rec (motive:=fun _=>QR) .f (fun x=> .r x b) o
def qg(o:Option (List V)):QR:=Option.rec (motive:=fun _=>QR) .f (fun x=> .v (.g x)) o
def qgb(b:Nat)(o:Option (List V)):QR:=Option.rec (motive:=fun _=>QR) .f (fun x=> .r (.g x) b) o
def mkL(b o n c:Nat):QR:=fN o fun o=>fN n fun n=>fN c fun c=> .v (.l b o n c)
def mkU(b o n el kn:Nat):QR:=fN o fun o=>fN n fun n=>fN el fun el=> .v (.u b o n el kn)
def uX(b o:Nat):QR:=fN o fun o=> .v (.p b o)
def ua(sz b o cap l h m:Nat):QR:=
 bif Nat.ble m cap&&Nat.ble h m&&Nat.ble l h then mkL b (bif Nat.beq m l then o else Nat.add o (Nat.mul l sz)) (Nat.sub h l) (Nat.sub m l)else .f
def pJ(sz b o el kn l h:Nat):QR:=
 bif Nat.ble (Nat.add el h) kn&&Nat.ble l h then
  bif Nat.beq l 0 then mkU b o h el kn
  else bif Nat.blt (Nat.add el l) kn then mkU b (Nat.add o (Nat.mul l sz)) (Nat.sub h l) (Nat.add el l) kn
  else fN (Nat.add o (Nat.mul l sz)) fun o'=> .v (.ue b o o')
 else .f
def Z1(sz b o el kn l h m:Nat):QR:=
 bif Nat.ble (Nat.add el m) kn&&Nat.ble h m&&Nat.ble l h then mkL b (bif Nat.beq m l then o else Nat.add o (Nat.mul l sz)) (Nat.sub h l) (Nat.sub m l)else .f
def uK(sz:Nat)(v:V)(lo hi mx:Option Nat):QR:=
 bif mx.isNone||hi.isSome then
 match v with
 | .l b o len cap=>ua sz b o cap (lo.getD 0) (hi.getD len) (mx.getD cap)
 | .l0=>bif Nat.beq (mx.getD 0) 0&&Nat.beq (hi.getD 0) 0&&Nat.beq (lo.getD 0) 0 then .v .l0 else .f
 | .u b o len el kn=>match mx with
   |none=>pJ sz b o el kn (lo.getD 0) (hi.getD len)
   |some m=>Z1 sz b o el kn (lo.getD 0) (hi.getD len) m
 | .ue b o0 o=>bif mx.isNone&&Nat.beq (hi.getD 0) 0&&Nat.beq (lo.getD 0) 0 then .v (.ue b o0 o)else .f
 |_=> .f
 else .f
def readB(F:RO)(M:Mem)(sz n b o:Nat):Option (List V×Option Nat):=
 bif Nat.beq n 0 then some ([],none)else match loadN F M b o (Nat.mul n sz)with
  |some vs=>some (vs,some b)
  |none=>none
def readL(F:RO)(M:Mem)(sz n:Nat):V→Option (List V×Option Nat)
 | .l b o _ _| .u b o _ _ _=>readB F M sz n b o
 | .ue _ _ _| .l0=>bif Nat.beq n 0 then some ([],none)else none
 |_=>none
def qx:V→Option Nat
 | .l _ _ n _| .u _ _ n _ _=>some n
 | .ue _ _ _| .l0=>some 0
 | .s n _=>some n
 |_=>none
def ax2(x:X)(_:RO)(_:Mem)(tm:T):QR:= .v (x.ev tm)
def N7(c a b:X)(_:RO)(_:Mem)(tm:T):QR:=
 Fa (c.ev tm) .f fun x=>Bool.rec (motive:=fun _=>QR) (.v (b.ev tm)) (.v (a.ev tm)) x
def Kb(x:X)(F:RO)(M:Mem)(tm:T):QR:=t8 (x.ev tm) .f fun b o=>qrb b (load1 F M b o)
def Kc(n:Nat)(x:X)(F:RO)(M:Mem)(tm:T):QR:=t8 (x.ev tm) .f fun b o=>qgb b (loadN F M b o n)
def oe(x:X)(_:RO)(_:Mem)(tm:T):QR:=
 match x.ev tm with
 | .p b o=> .v (.p b o)
 | .f g h c=> .v (.f g h c)
 | .y l=> .v (.y l)
 | .a t v=> .v (.a t v)
 |_=> .f
def fc(op:BinOp)(k:IntKind)(a:Int)(k':IntKind)(b:Int):QR:=Bool.rec (motive:=fun _=>QR) .f (qh op k a b) (je k k')
def cL5(k:IntKind)(a:Int)(_:IntKind)(b:Int):QR:=az5 k a b
def cL6(k:IntKind)(a:Int)(_:IntKind)(b:Int):QR:=az6 k a b
def gd(op:BinOp):IntKind→Int→IntKind→Int→QR:=
 BinOp.rec (motive:=fun _=>IntKind→Int→IntKind→Int→QR) (fc .add) (fc .sub) (fc .mul) (fc .quo) (fc .rem) (fc .and) (fc .or) (fc .xor) cL5 cL6 (fc .andNot) (fc .eql) (fc .neq) (fc .lss) (fc .leq) (fc .gtr) (fc .geq) op
def bo1(op:BinOp)(k:IntKind)(a:Int)(y:V):QR:=wO y .f fun k' b=>gd op k a k' b
def bo2(op:BinOp)(n a:Nat)(y:V):QR:=tY y .f fun m b=>WK op n a m b
def CD(op:BinOp)(x y:X)(_:RO)(_:Mem)(tm:T):QR:=
 V.casesOn (motive_1:=fun _=>QR) (x.ev tm) (fun _=> .f) (fun k a=>bo1 op k a (y.ev tm)) (fun n a=>bo2 op n a (y.ev tm)) (fun _ _=> .f) .f (fun _ _ _ _=> .f) (fun _ _ _ _ _=> .f) (fun _ _ _=> .f) .f (fun _=> .f) .f (fun _ _ _=> .f) (fun _=> .f) .f (fun _ _=> .f) .f (fun _=> .f) (fun _=> .f)
def zq(neg:Bool):Option Bool→QR
 |some r=>vB (bif neg then !r else r)
 |none=> .f
def aw6(neg:Bool)(sh:Sh)(lit:Bool)(x y:X)(F:RO)(M:Mem)(tm:T):QR:=
 zq neg (yR F M sh lit (x.ev tm) (y.ev tm))
def cM0(x:V):QR:=wO x .f fun k n=>vI k (wr k (Int.sub 0 n))
def cM1(x:V):QR:=wO x .f fun k n=>kJ k (Nat.xor (Nat.sub (Nat.pow 2 (kd k)) 1) (toU k n))
def cL9(x:V):QR:=Fa x .f fun b=>vB (t6 b)
def ax5(op:UnOp)(x:X)(_:RO)(_:Mem)(tm:T):QR:=
 UnOp.rec (motive:=fun _=>QR) (cM0 (x.ev tm)) (cM1 (x.ev tm)) (cL9 (x.ev tm)) .f op
def aw5(k:IntKind)(x:X)(_:RO)(_:Mem)(tm:T):QR:=wO (x.ev tm) .f fun _ n=>vI k (wr k n)
def wX(b:Option Nat):Option (Nat×Nat)→QR
 |some (n,s)=>fN n fun n=>fN s fun s=>match b with
  |some b=> .r (.s n s) b
  |none=> .v (.s n s)
 |none=> .f
def K4(F:RO)(M:Mem)(v:V):Option Nat→QR
 |some n=>match readL F M 1 n v with
  |some (vs,b)=>wX b (ff vs)
  |none=> .f
 |none=> .f
def MV(x:X)(F:RO)(M:Mem)(tm:T):QR:=
 match x.ev tm with
 | .s _ _=> .f
 |v=>K4 F M v (qx v)
def Kf(t:Nat)(x:X)(_:RO)(_:Mem)(tm:T):QR:= .v (.a t (x.ev tm))
def Ke(f:Nat)(first caps:List X)(_:RO)(_:Mem)(tm:T):QR:= .v (.f f (evs first tm) (evs caps tm))
def aw7(off:Nat)(x:X)(_:RO)(_:Mem)(tm:T):QR:=t8 (x.ev tm) .f fun b o=>uX b (Nat.add o off)
def K7(off:Nat)(x:X)(_:RO)(_:Mem)(tm:T):QR:=Fb (x.ev tm) .f fun cs=>qr (yp cs off)
def K8(off n:Nat)(x:X)(_:RO)(_:Mem)(tm:T):QR:=Fb (x.ev tm) .f fun cs=>qg (nr n (kN off cs))
def yr(sz b o len:Nat)(i:Int):QR:=
 Int.rec (motive:=fun _=>QR) (fun i=>Bool.rec (motive:=fun _=>QR) .f (uX b (Nat.add o (Nat.mul i sz))) (Nat.blt i len)) (fun _=> .f) i
def K9(len sz:Nat)(x i:X)(_:RO)(_:Mem)(tm:T):QR:=
 t8 (x.ev tm) .f fun b o=>wO (i.ev tm) .f fun _ i=>yr sz b o len i
def td(sz b o len:Nat)(i:V):QR:=wO i .f fun _ i=>yr sz b o len i
def rT(sz:Nat)(x i:X)(_:RO)(_:Mem)(tm:T):QR:=
 V.casesOn (motive_1:=fun _=>QR) (x.ev tm) (fun _=> .f) (fun _ _=> .f) (fun _ _=> .f) (fun _ _=> .f) .f (fun b o len _=>td sz b o len (i.ev tm)) (fun b o len _ _=>td sz b o len (i.ev tm)) (fun _ _ _=> .f) .f (fun _=> .f) .f (fun _ _ _=> .f) (fun _=> .f) .f (fun _ _=> .f) .f (fun _=> .f) (fun _=> .f)
def rF(len sz:Nat)(cs:List V):Option Nat→QR
 |some i=>bif Nat.blt i len then qr (yp cs (Nat.mul i sz))else .f
 |none=> .f
def XP(len sz:Nat)(cs:List V):Option Nat→QR
 |some i=>bif Nat.blt i len then qg (nr sz (kN (Nat.mul i sz) cs))else .f
 |none=> .f
def AJ(len sz:Nat)(x i:X)(_:RO)(_:Mem)(tm:T):QR:=Fb (x.ev tm) .f fun cs=>rF len sz cs (sF (i.ev tm))
def AK(len sz:Nat)(x i:X)(_:RO)(_:Mem)(tm:T):QR:=Fb (x.ev tm) .f fun cs=>XP len sz cs (sF (i.ev tm))
def od(n s i:Nat):QR:=Bool.rec (motive:=fun _=>QR) .f (fN (Nat.mod (Nat.div s (jn i)) 256) fun c=> .v (.i .u8 (.ofNat c))) (Nat.blt i n)
def Ka(x i:X)(_:RO)(_:Mem)(tm:T):QR:=
 tY (x.ev tm) .f fun n s=>Option.rec (motive:=fun _=>QR) .f (fun i=>od n s i) (sF (i.ev tm))
def bN0(n s l h:Nat):QR:=
 Bool.rec (motive:=fun _=>QR) .f (Bool.rec (motive:=fun _=>QR) .f (vS (Nat.sub h l) (Nat.mod (Nat.div s (jn l)) (jn (Nat.sub h l)))) (Nat.ble h n)) (Nat.ble l h)
def kg(n s:Nat)(lo hi:Option Nat):QR:=
 Option.rec (motive:=fun _=>QR) .f (fun l=>Option.rec (motive:=fun _=>QR) .f (fun h=>bN0 n s l h) hi) lo
def xf(x:X)(lo hi:Option X)(_:RO)(_:Mem)(tm:T):QR:=
 tY (x.ev tm) .f fun n s=>kg n s (optN tm 0 lo) (optN tm n hi)
def tf(sz:Nat)(v:V):Option (Option Nat)→Option (Option Nat)→Option (Option Nat)→QR
 |some lo,some hi,some mx=>uK sz v lo hi mx
 |_,_,_=> .f
def Kg(sz:Nat)(x:X)(lo hi mx:Option X)(_:RO)(_:Mem)(tm:T):QR:=
 tf sz (x.ev tm) (optNN tm lo) (optNN tm hi) (optNN tm mx)
def xe(n sz b o:Nat):Option Nat→Option Nat→Option Nat→QR
 |some l,some h,some m=>ua sz b o n l h m
 |_,_,_=> .f
def zr(n sz:Nat)(x:X)(lo hi mx:Option X)(_:RO)(_:Mem)(tm:T):QR:=
 bif mx.isNone||hi.isSome then t8 (x.ev tm) .f fun b o=>xe n sz b o (optN tm 0 lo) (optN tm n hi) (optN tm n mx)else .f
def aH3{β:Type}(o:Option bL)(f:β)(g:List (V×V×Nat)→Nat→β):β:=
 match o with
 |some (.map es c)=>g es c
 |_=>f
def du6(sh:Sh)(zero:V)(ok:Bool)(x k:X)(F:RO)(M:Mem)(tm:T):QR:= .f
def wZ(i:Nat)(x:X)(_:RO)(_:Mem)(tm:T):QR:=
 V.casesOn (motive_1:=fun _=>QR) (x.ev tm) (fun _=> .f) (fun _ _=> .f) (fun _ _=> .f) (fun _ _=> .f) .f (fun _ _ _ _=> .f) (fun _ _ _ _ _=> .f) (fun _ _ _=> .f) .f (fun _=> .f) .f (fun _ _ _=> .f) (fun _=> .f) .f (fun _ _=> .f) .f (fun _=> .f) (fun vs=>qr (yp vs i))
def Kd(o:Option Nat):QR:=Option.rec (motive:=fun _=>QR) .f (fun n=> .v (.i .i64 (.ofNat n))) o
def EZ:V→Option Nat
 | .l _ _ n _| .u _ _ n _ _=>some n
 | .ue _ _ _| .l0=>some 0
 |_=>none
def bK8(F:RO)(M:Mem):V→QR
 | .m0=> .v (.i .i64 0)
 | .m b=>aH3 (look F M b) .f fun es _=>fN es.length fun n=> .r (.i .i64 (.ofNat n)) b
 |_=> .f
def ax0(sh:Sh)(x:X)(F:RO)(M:Mem)(tm:T):QR:=
 match sh with
 | .str=>tY (x.ev tm) .f fun n _=> .v (.i .i64 (.ofNat n))
 | .slice=>Kd (EZ (x.ev tm))
 | .map=>bK8 F M (x.ev tm)
 |_=> .f
def cL7(n:Nat)(_:RO)(_:Mem)(_:T):QR:= .f
def wY(x:X)(_:RO)(_:Mem)(tm:T):QR:=
 match x.ev tm with
 | .l0=> .v (.i .i64 0)
 | .l _ _ _ c=> .v (.i .i64 (.ofNat c))
 |_=> .f
def ax1(mx:Bool)(x:X)(xs:List X)(_:RO)(_:Mem)(tm:T):QR:=qr (minAll mx tm (x.ev tm) xs)
def K3(zero:List V)(parts:List (Nat×Nat×X))(_:RO)(_:Mem)(tm:T):QR:=qg (fillParts tm zero parts)
def du7(want:Nat)(zero:V)(ok:Bool)(x:X)(_:RO)(_:Mem)(tm:T):QR:= .f
def N8(x:X)(F:RO)(M:Mem)(tm:T):QR:=
 match x.ev tm with
 | .p0=> .v .p0
 | .p b o=>lX (look F M b) .f fun n _ _=>bif Nat.blt o n then .r (.p b o) b else .f
 |_=> .f
def bG5(ty sz b:Nat):Option bL→QR
 |some (.cells ty' n true _ _ _ _)=>bif Nat.beq ty' ty&&Nat.beq n sz then .r (.p b 0) b else .f
 |_=> .f
def MY(ty sz:Nat)(x:X)(F:RO)(M:Mem)(tm:T):QR:=
 match x.ev tm with
 | .p0=> .v .p0
 | .p b 0=>bG5 ty sz b (look F M b)
 |_=> .f
def xd(x:X)(_:RO)(_:Mem)(tm:T):QR:=
 match x.ev tm with
 | .l0=> .v .p0
 | .l b o _ c=>bif Nat.beq c 0 then .f else .v (.p b o)
 | .u b o _ el kn=>bif Nat.blt el kn then .v (.p b o)else .f
 |_=> .f
def Yx:Option Nat→QR
 |some i=> .v (.i .i64 (.ofNat i))
 |none=> .v (.i .i64 (.negSucc 0))
def zX:V→Option Nat
 | .i .u8 (.ofNat c)=>some c
 |_=>none
def cd0(n s:Nat):Option Nat→QR
 |some c=>Yx (tR (Nat.mod c 256) n s 0)
 |none=> .f
def Kh(x c:X)(_:RO)(_:Mem)(tm:T):QR:=tY (x.ev tm) .f fun n s=>cd0 n s (zX (c.ev tm))
def cM2(x c:X)(_:RO)(_:Mem)(tm:T):QR:= .f
def bN1(x y:X)(_:RO)(_:Mem)(tm:T):QR:= .f
def bN2(x c:X)(F:RO)(M:Mem)(tm:T):QR:= .f
def cL8(n:Nat)(x:X)(_:RO)(_:Mem)(tm:T):QR:= .f
def cL4(_:RO)(_:Mem)(_:T):QR:= .f
def dh(o:QO):RO→Mem→T→QR:=
 QO.rec (motive:=fun _=>RO→Mem→T→QR) ax2 N7 Kb Kc oe CD aw6 ax5 aw5 MV Kf Ke aw7 K7 K8 K9 rT AJ AK Ka xf Kg zr du6 wZ ax0 cL7 wY ax1 K3 du7 N8 MY xd Kh cM2 bN1 bN2 cL8 cL4 o
def bA0(ty:Nat)(cells:List V)(b:Nat)(_:T):Option (V×bL):=
 bif bj cells then some (.p b 0,.cells ty cells.length true 0 false [] (bz cells 0 .e))else none
def Lt(ty sz:Nat)(x:X)(b:Nat)(tm:T):Option (V×bL):=
 bif Nat.beq (flatten (x.ev tm)).length sz&&bj (flatten (x.ev tm))then some (.p b 0,.cells ty sz true 0 false [] (bz (flatten (x.ev tm)) 0 .e))else none
def fillP(sz m:Nat)(tm:T):List (Nat×X)→T→Option T
 |[],t=>some t
 |(o,x)::r,t=>
  bif Nat.beq (flatten (x.ev tm)).length sz&&Nat.ble (Nat.add o sz) m&&bj (flatten (x.ev tm))then(bz (flatten (x.ev tm)) o t).force fun t=>fillP sz m tm r t else none
def yG(ty n sz:Nat)(zero:List V)(parts:List (Nat×X))(b:Nat)(tm:T):Option (V×bL):=
 match fillP sz (Nat.mul n sz) tm parts .e with
 |some c=>fN (Nat.mul n sz) fun m=>some (.l b 0 n n,.cells ty m true 0 false zero c)
 |none=>none
def ck3(ty sz bytes:Nat)(zero:List V)(l c:X)(b:Nat)(tm:T):Option (V×bL):=none
def ck2(b:Nat)(_:T):Option (V×bL):=none
def af9(ty:Nat)(x:X)(b:Nat)(tm:T):Option (V×bL):=
 tY (x.ev tm) none fun n s=>some (.u b 0 n 0 n,.cells ty n false 0 true [] (bz (cC n s) 0 .e))
def GF:V→Option Nat
 | .i .i64 (.ofNat n)=>some n
 |_=>none
def Lw(ty:Nat)(x:X)(b:Nat)(tm:T):Option (V×bL):=
 match GF (x.ev tm)with
 |some n=>bif Nat.ble n 1099511627776 then some (.u b 0 n 0 n,.cells ty n false 0 false [] .e)else none
 |none=>none
def GA(x:X)(b:Nat)(tm:T):Option (V×bL):=
 tY (x.ev tm) none fun n s=>some (.p b 0,.siter n s 0)
def lz(o:AO):Nat→T→Option (V×bL):=
 AO.rec (motive:=fun _=>Nat→T→Option (V×bL)) bA0 Lt yG ck3 ck2 af9 Lw GA o
inductive RC where
 |f
 |k (v:V) (M:Mem) (c:Nat)
inductive CF where
 |mk (n:Nat) (res:List RV) (body:CC)
 |orc (g:RO→List V→Mem→Nat→RC)
def er(c:Nat)(o:Option Mem):RC:=Option.rec (motive:=fun _=>RC) .f (fun M=> .k undef M c) o
def az9(n:Nat):Option (List V×Option Nat)→Option (Nat×List V)
 |some (vs,_)=>some (n,vs)
 |none=>none
def gu(F:RO)(M:Mem)(sz:Nat)(y:V):Option (Nat×List V):=
 match y with
 | .s n x=>bif Nat.beq sz 1 then some (n,cC n x)else none
 |y=>match qx y with
  |some n=>az9 n (readL F M sz n y)
  |none=>none
def jJ(len bytes:Nat):Bool:=Nat.ble (Nat.mul (Nat.add (Nat.mul 3 len) 2000) bytes) 281474976710656&&Nat.ble len 1099511627776
def ju(M:Mem)(c ty bytes len fz:Nat)(str:Bool)(vs:List V):RC:=
 bif jJ len bytes then(M.set c (.cells ty vs.length false fz str [] (bz vs 0 .e))).force fun M=>fN (Nat.succ c) fun c'=>fN len fun len=> .k (.u c 0 len 0 len) M c' else .f
def sW(M:Mem)(c ty bytes len fz:Nat)(str:Bool)(new:List V):Option (List V×Option Nat)→RC
 |some (old,_)=>ju M c ty bytes len fz str (old++new)
 |none=> .f
def nW(M:Mem)(c ty bytes len fz:Nat)(str:Bool)(new:List V)(m:Nat)(d:List V)(cs:T):RC:=
 bif jJ len bytes then(bz new m cs).force fun cs=>fN (Nat.add m new.length) fun m=>(M.set c (.cells ty m false fz str d cs)).force fun M=>fN (Nat.succ c) fun c'=>fN len fun len=> .k (.u c 0 len 0 len) M c' else .f
def EP(M:Mem)(c ty bytes len fz:Nat)(str:Bool)(new:List V):Option bL→RC
 |some (.cells _ m _ _ _ d cs)=>nW M c ty bytes len fz str new m d cs
 |_=> .f
def BT(c b o sz len n:Nat)(M:Mem)(new:List V)(f:Nat→V):RC:=
 match dK M b (Nat.add o (Nat.mul len sz)) new with
 |some M=>fN (Nat.add len n) fun len=> .k (f len) M c
 |none=> .f
def il(M:Mem)(b ty o e:Nat):Option (Nat×Bool):=
 match M.get b with
 |some (.cells ty' n false fz str _ _)=>bif Nat.beq ty' ty&&Nat.beq n e&&Nat.ble fz o&&Nat.ble o e then some (fz,str)else none
 |_=>none
def pu(F:RO)(M:Mem)(c ty sz bytes b o len cap n:Nat)(new:List V):RC:=
 bif Nat.ble (Nat.add len n) cap then BT c b o sz len n M new fun len=> .l b o len cap
 else sW M c ty bytes (Nat.add len n) 0 false new (readB F M sz len b o)
def pv(F:RO)(M:Mem)(c ty sz bytes b o len el kn n:Nat)(new:List V):RC:=
 bif Nat.ble (Nat.add (Nat.add el len) n) kn then BT c b o sz len n M new fun len=> .u b o len el kn
 else match il M b ty (Nat.add o (Nat.mul len sz)) (Nat.add o (Nat.mul (Nat.sub kn el) sz))with
  |some (fz,str)=>bif Nat.beq o 0&&Nat.beq (Nat.sub kn el) len then EP (M.del b) c ty bytes (Nat.add len n) fz str new (M.get b)
   else sW (M.del b) c ty bytes (Nat.add len n) fz str new (readB F M sz len b o)
  |none=> .f
def zd:V→Bool
 | .l _ _ n c=>Nat.ble n c
 | .u _ _ n el kn=>Nat.ble n (Nat.sub kn el)
 | .ue _ _ _| .l0=>true
 |_=>false
def app(F:RO)(M:Mem)(c ty sz bytes:Nat)(x:V)(n:Nat)(new:List V):RC:=
 bif Nat.beq n 0 then(bif zd x then .k x M c else .f)else
 match x with
 | .l0=>ju M c ty bytes n 0 false new
 | .l b o len cap=>pu F M c ty sz bytes b o len cap n new
 | .u b o len el kn=>pv F M c ty sz bytes b o len el kn n new
 | .ue b _ o=>match il M b ty o o with
   |some (fz,str)=>ju (M.del b) c ty bytes n fz str new
   |none=> .f
 |_=> .f
def mm(F:RO)(M:Mem)(c ty sz bytes:Nat)(x:V):Option (Nat×List V)→RC
 |some (n,new)=>bif bj new&&Nat.beq new.length (Nat.mul n sz)then app F M c ty sz bytes x n new else .f
 |none=> .f
def az3(M:Mem)(c b:Nat)(blk:bL)(v:V):RC:=(M.set b blk).force fun M=> .k v M c
def oO(M:Mem)(b o n:Nat):Option Mem:=
 match M.get b with
 |some (.cells ty m ex fz str d c)=>bif str then none else fN (bif Nat.ble fz (Nat.add o n)then Nat.add o n else fz) fun fz=>some (M.set b (.cells ty m ex fz str d c))
 |_=>none
def yO(n b o:Nat)(vs:List V)(M:Mem)(c:Nat):RC:=Bool.rec (motive:=fun _=>RC) .f (er c (dK M b o vs)) (Nat.beq vs.length n)
def cB5(n:Nat)(x v:X)(_:RO)(M:Mem)(c:Nat)(tm:T):RC:=
 t8 (x.ev tm) .f fun b o=>yO n b o (flatten (v.ev tm)) M c
def bm1(ty sz bytes:Nat)(x y:X)(F:RO)(M:Mem)(c:Nat)(tm:T):RC:=
 mm F M c ty sz bytes (x.ev tm) (gu F M sz (y.ev tm))
def cz7(M:Mem)(c n:Nat)(x:V):Option (List V)→RC
 |some vs=>match x with
  | .l b o _ _| .u b o _ _ _=>match dK M b o vs with
    |some M=> .k (.i .i64 (.ofNat n)) M c
    |none=> .f
  |_=> .f
 |none=> .f
def vW(F:RO)(M:Mem)(sz n:Nat)(y:V):Option (List V):=
 match y with
 | .s m s=>bif Nat.beq sz 1 then some (cC n (Nat.mod s (jn m)))else none
 |y=>(readL F M sz n y).map (·.1)
def Xl(F:RO)(M:Mem)(c sz:Nat)(x y:V):Option Nat→Option Nat→RC
 |some dn,some sn=>fN (bif Nat.ble sn dn then sn else dn) fun n=>
  bif Nat.beq n 0 then .k (.i .i64 0) M c else cz7 M c n x (vW F M sz n y)
 |_,_=> .f
def C6(sz:Nat)(x y:X)(F:RO)(M:Mem)(c:Nat)(tm:T):RC:=
 match x.ev tm with
 | .s _ _=> .f
 |v=>Xl F M c sz v (y.ev tm) (qx v) (qx (y.ev tm))
def Jm(M:Mem)(c b o:Nat):Option (Nat×Nat)→RC
 |some (n,s)=>match oO M b o n with
  |some M=>fN n fun n=>fN s fun s=> .k (.s n s) M c
  |none=> .f
 |none=> .f
def Zi(M:Mem)(b ty:Nat):Bool:=
 match M.get b with
 |some (.cells ty' _ _ _ _ _ _)=>Nat.beq ty' ty
 |_=>false
def Jl(F:RO)(M:Mem)(c ty b o n:Nat):RC:=
 bif Nat.beq n 0 then .k (.s 0 0) M c else bif Zi M b ty&&Nat.ble n 1099511627776 then match loadN F M b o n with
  |some vs=>Jm M c b o (ff vs)
  |none=> .f
  else .f
def Xm(ty:Nat)(x n:X)(F:RO)(M:Mem)(c:Nat)(tm:T):RC:=
 match sF (n.ev tm)with
 |some n=>match x.ev tm with
  | .p0=>bif Nat.beq n 0 then .k (.s 0 0) M c else .f
  | .p b o=>Jl F M c ty b o n
  |_=> .f
 |none=> .f
def av1(M:Mem)(c b n s pos:Nat)(r:Nat×Nat):RC:=
 fN r.1 fun ch=>fN (Nat.add pos r.2) fun pos'=>az3 M c b (.siter n s pos') (.t [.b true,.i .i64 (.ofNat pos),.i .i32 (.ofNat ch)])
def zk(M:Mem)(c b:Nat):Option bL→RC
 |some (.siter n s pos)=>bif Nat.blt pos n then
  fN (Nat.mod (Nat.div s (jn pos)) 256) fun ch=>bif Nat.blt ch 128 then
   fN (Nat.succ pos) fun pos'=>az3 M c b (.siter n s pos') (.t [.b true,.i .i64 (.ofNat pos),.i .i32 (.ofNat ch)])else av1 M c b n s pos (Utf8.decode (ba n s) pos)
  else .k (.t [.b false]) M c
 |_=> .f
def Jj(x:X)(_:RO)(M:Mem)(c:Nat)(tm:T):RC:=
 match x.ev tm with
 | .p b 0=>zk M c b (M.get b)
 |_=> .f
inductive Ex where
 |nrm|ret|ext (id:Nat)|gto (l:Nat)
inductive St where
 |mk (t:T) (d:List Nat) (M:Mem) (c:Nat)
inductive Rs where
 |f
 |k (e:Ex) (s:St)
def C3{α:Type}(x:α):α:=x
abbrev y5:=Option Nat→Nat→RO→CC→St→Rs
inductive Kn where
 |mk (Φ:Nat→Option CF) (ex:y5) (rd:Option Nat) (fn:Nat) (F:RO)
def Kn.F(k:Kn):RO:=Kn.rec (motive:=fun _=>RO) (fun _ _ _ _ F=>F) k
def setT(t:T)(d:Option aM)(v:V):T:=Option.rec (motive:=fun _=>T) t (fun d=>t.setP d v) d
def iw(want:Bool)(v:V):Bool:=Fa v false fun x=>Bool.rec (motive:=fun _=>Bool) (t6 want) want x
def wanted(t:T)(g:Option (aM×Bool)):Bool:=
 Option.rec (motive:=fun _=>Bool) true (fun p=>Prod.rec (motive:=fun _=>Bool) (fun j want=>iw want (cS t j)) p) g
def testBit(m i:Nat):Bool:=Nat.beq (Nat.mod (Nat.div m (Nat.pow 2 i)) 2) 1
def hU(mask:Nat):List (Nat×Nat×bL)→Mem→Mem×List (Nat×Nat×bL)
 |[],M=>(M,[])
 |(i,b,blk)::r,M=>bif testBit mask i then(M.set b blk).force fun M=>hU mask r M
  else match hU mask r M with|(M,p)=>(M,(i,b,blk)::p)
inductive Pr where
 |mk (F:RO) (M:Mem) (s:List (Nat×bL))
def bO(mask:Nat):List (Nat×Nat)→RO→Mem→List (Nat×bL)→Pr
 |[],F,M,s=> .mk F M s
 |(i,b)::r,F,M,s=>bif testBit mask i then bO mask r F M s else
  match M.get b with
  |none=>bO mask r F M s
  |some blk=>(M.del b).force fun M=>bO mask r ((b,blk)::F) M ((b,blk)::s)
def bc:List (Nat×bL)→Mem→Mem
 |[],M=>M
 |(b,blk)::r,M=>(M.set b blk).force fun M=>bc r M
def mE:Nat→Nat→aM
 |0,_=> .h
 |f+1,k=>bif Nat.beq k 0 then .h else bif Nat.beq (Nat.mod k 2) 0 then .r (mE f (Nat.sub (Nat.div k 2) 1))else .l (mE f (Nat.div k 2))
def bJ(k:Nat):aM:=mE (Nat.succ (Nat.log2 k)) k
def Nr(n:Nat):T:=Nat.rec (motive:=fun _=>T) .e (fun _ ih=> .n ih none ih) n
def aU(n:Nat)(vs:List V):T:=bz vs 0 (Nr n)
def zw(F:RO)(M:Mem)(t:T)(r:RV):Option V:=
 RV.rec (motive:=fun _=>Option V) (fun n=>some (cS t n)) (fun n=>t8 (cS t n) none fun b o=>load1 F M b o) (fun n sz=>t8 (cS t n) none fun b o=>Option.rec (motive:=fun _=>Option V) none (fun l=>some (.g l)) (loadN F M b o sz)) r
def uJ(v:V)(o:Option (List V)):Option (List V):=Option.rec (motive:=fun _=>Option (List V)) none (fun vs=>some (v::vs)) o
def fj(F:RO)(M:Mem)(t:T)(l:List RV):Option (List V):=
 List.rec (motive:=fun _=>Option (List V)) (some []) (fun r _ ih=>Option.rec (motive:=fun _=>Option (List V)) none (fun v=>uJ v ih) (zw F M t r)) l
def uF(l:List V):V:=
 List.rec (motive:=fun _=>V) (.t []) (fun v r _=>List.rec (motive:=fun _=>V) v (fun _ _ _=> .t l) r) l
def xJ(f:Mem→Option Mem)(M:Mem)(d:Nat)(blk:bL):Option Mem:=
 bL.casesOn (motive:=fun _=>Option Mem) blk (fun _ _ _ _ _ _ _=>none) (fun _ _=>none) (fun _ _ _ _ _ _ _ _=>none) (fun b=>Bool.rec (motive:=fun _=>Option Mem) ((M.set d (.defs true)).force f) none b) (fun _ _ _=>none) (fun _ _ _ _=>none)
def cV(ds:List Nat):Mem→Option Mem:=
 List.rec (motive:=fun _=>Mem→Option Mem) some (fun d _ ih M=>Option.rec (motive:=fun _=>Option Mem) none (fun blk=>xJ ih M d blk) (M.get d)) ds
def di:List aM→List V→T→Option T
 |[],[],t=>some t
 |p::ps,v::vs,t=>(t.setP p v).force fun t=>di ps vs t
 |_,_,_=>none
def Ak(c:Nat)(M:Mem)(o:Option (List V)):RC:=Option.rec (motive:=fun _=>RC) .f (fun vs=> .k (uF vs) M c) o
def Aj(res:List RV)(F:RO)(t:T)(c:Nat)(o:Option Mem):RC:=
 Option.rec (motive:=fun _=>RC) .f (fun M=>Ak c M (fj F M t res)) o
def JI(e:Ex):Bool:=Ex.rec (motive:=fun _=>Bool) true true (fun _=>false) (fun _=>false) e
def ar7(res:List RV)(F:RO)(e:Ex)(t:T)(d:List Nat)(M:Mem)(c:Nat):RC:=
 Bool.rec (motive:=fun _=>RC) .f (Aj res F t c (cV d M)) (JI e)
def nT(res:List RV)(F:RO)(r:Rs):RC:=
 Rs.rec (motive:=fun _=>RC) .f (fun e s=>St.rec (motive:=fun _=>RC) (fun t d M c=>ar7 res F e t d M c) s) r
def bF6(ex:y5)(F:RO)(f:Nat)(args:List V)(M:Mem)(c:Nat)(n:Nat)(res:List RV)(body:CC):RC:=
 nT res F (C3 (ex none f F body (.mk (aU n args) [] M c)))
def eX(ex:y5)(F:RO)(f:Nat)(args:List V)(M:Mem)(c:Nat)(o:Option CF):RC:=
 Option.rec (motive:=fun _=>RC) .f (fun cf=>CF.rec (motive:=fun _=>RC) (fun n res body=>bF6 ex F f args M c n res body) (fun g=>g F args M c) cf) o
def n9(k:Kn)(f:Nat)(args:List V)(M:Mem)(c:Nat):RC:=
 Kn.rec (motive:=fun _=>RC) (fun Φ ex _ _ F=>eX ex F f args M c (Φ f)) k
inductive Lp where
 |f
 |k (s:LS) (pe:pW) (fn:Nat) (tm:T) (params:List aM) (assign body:CC) (defers:Nat)
def dR:Option bL→Lp
 |some (.loop s pe fn tm ps a b d)=> .k s pe fn tm ps a b d
 |_=> .f
def uf(M:Mem)(l c:Nat)(s:LS)(pe:pW)(r:Bool):Lp→RC
 | .k _ _ fn tm ps a b d=>az3 M c l (.loop s pe fn tm ps a b d) (.b r)
 | .f=> .f
def lg(l:Nat):Rs→RC
 | .f=> .f
 | .k e (.mk _ d M c)=>match d with
   |[]=>match e with
    | .nrm=>uf M l c .ready .none true (dR (M.get l))
    | .ret=>uf M l c .done .ret false (dR (M.get l))
    | .ext id=>uf M l c .done (.ext id) false (dR (M.get l))
    | .gto _=> .f
   |_=> .f
def qN(k:Kn)(l fn:Nat)(body:CC)(t:T)(M:Mem)(c:Nat):Lp→RC
 | .k .ready pe fn' tm' ps' a' b' d'=>
   (M.set l (.loop .busy pe fn' tm' ps' a' b' d')).force fun M=>match k with
    | .mk _ ex _ _ F=>lg l (C3 (ex (some l) fn F body (.mk t [] M c)))
 |_=> .f
def nv(k:Kn)(l fn:Nat)(body:CC):Rs→RC
 | .k .nrm (.mk t [] M c)=>qN k l fn body t M c (dR (M.get l))
 |_=> .f
def Df(k:Kn)(l fn:Nat)(asg body:CC)(M:Mem)(c:Nat):Option T→RC
 |none=> .f
 |some t=>match k with
  | .mk _ ex _ _ F=>nv k l fn body (C3 (ex (some l) fn F asg (.mk t [] M c)))
def rk(k:Kn)(l:Nat)(args:List V)(M:Mem)(c:Nat):Lp→RC
 | .k .ready _ fn tm ps asg body _=>Df k l fn asg body M c (di ps args tm)
 |_=> .f
def nb(k:Kn)(v:V)(args:List V)(M:Mem)(c:Nat):RC:=
 match v with
 | .f f first caps=>n9 k f (first++(args++caps)) M c
 | .y l=>rk k l args M c (dR (M.get l))
 |_=> .f
def jt(k:Kn)(v:V)(args:List V)(M:Mem)(c:Nat):RC:=
 match v with
 | .f f first caps=>n9 k f (first++(args++caps)) M c
 |_=> .f
def Bv(f:Nat)(args:List X)(k:Kn)(M:Mem)(c:Nat)(tm:T):RC:=n9 k f (evs args tm) M c
def aD0(f:X)(args:List X)(k:Kn)(M:Mem)(c:Nat)(tm:T):RC:=nb k (f.ev tm) (evs args tm) M c
def d95(tbl:List (Nat×Nat))(x:X)(args:List X)(k:Kn)(M:Mem)(c:Nat)(tm:T):RC:= .f
def aD1(n:Nat)(x v:X)(k:Kn)(M:Mem)(c:Nat)(tm:T):RC:=cB5 n x v k.F M c tm
def Ld(ty sz bytes:Nat)(x y:X)(k:Kn)(M:Mem)(c:Nat)(tm:T):RC:=bm1 ty sz bytes x y k.F M c tm
def Le(sz:Nat)(x y:X)(k:Kn)(M:Mem)(c:Nat)(tm:T):RC:=C6 sz x y k.F M c tm
def d92(zero:List V)(x:X)(k:Kn)(M:Mem)(c:Nat)(tm:T):RC:= .f
def dB9(sh:Sh)(m k' v:X)(k:Kn)(M:Mem)(c:Nat)(tm:T):RC:= .f
def d93(sh:Sh)(m k':X)(k:Kn)(M:Mem)(c:Nat)(tm:T):RC:= .f
def aD2(ty:Nat)(x n:X)(k:Kn)(M:Mem)(c:Nat)(tm:T):RC:=Xm ty x n k.F M c tm
def dB8(x:X)(k:Kn)(M:Mem)(c:Nat)(tm:T):RC:= .f
def Lf(x:X)(k:Kn)(M:Mem)(c:Nat)(tm:T):RC:=Jj x k.F M c tm
def d98(x:X)(k:Kn)(M:Mem)(c:Nat)(tm:T):RC:= .f
def d97(x:X)(k:Kn)(M:Mem)(c:Nat)(tm:T):RC:= .f
def d96(x:X)(k:Kn)(M:Mem)(c:Nat)(tm:T):RC:= .f
def d94(x:X)(k:Kn)(M:Mem)(c:Nat)(tm:T):RC:= .f
def d91(ty bytes:Nat)(x n:X)(k:Kn)(M:Mem)(c:Nat)(tm:T):RC:= .f
def iV(o:EO):Kn→Mem→Nat→T→RC:=
 EO.rec (motive:=fun _=>Kn→Mem→Nat→T→RC) Bv aD0 aD1 Ld Le d92 dB9 d93 aD2 dB8 Lf d98 d97 d91 d94 d96 d95 o
def wW(dst:Option aM)(d:List Nat)(M:Mem)(c:Nat)(t:T)(v:V):Option St:=(setT t dst v).force fun t=>some (.mk t d M c)
def ay8(dst:Option aM)(t:T)(d:List Nat)(M:Mem)(c:Nat)(r:QR):Option St:=
 QR.rec (motive:=fun _=>Option St) none (fun x=>wW dst d M c t x) (fun x _=>wW dst d M c t x) r
def YJ(dst:Option aM)(t:T)(d:List Nat)(M:Mem)(c:Nat)(v:V)(blk:bL):Option St:=
 (M.set c blk).force fun M=>fN (Nat.succ c) fun c=>wW dst d M c t v
def ay7(dst:Option aM)(t:T)(d:List Nat)(M:Mem)(c:Nat)(r:Option (V×bL)):Option St:=
 Option.rec (motive:=fun _=>Option St) none (fun p=>Prod.rec (motive:=fun _=>Option St) (fun v blk=>YJ dst t d M c v blk) p) r
def yt(dst:Option aM)(t:T)(d:List Nat)(r:RC):Option St:=
 RC.rec (motive:=fun _=>Option St) none (fun v M c=>wW dst d M c t v) r
def s_q(o:QO)(k:Kn)(dst:Option aM)(t:T)(d:List Nat)(M:Mem)(c:Nat):Option St:=ay8 dst t d M c (dh o k.F M t)
def s_a(o:AO)(_:Kn)(dst:Option aM)(t:T)(d:List Nat)(M:Mem)(c:Nat):Option St:=ay7 dst t d M c (lz o c t)
def s_e(o:EO)(k:Kn)(dst:Option aM)(t:T)(d:List Nat)(M:Mem)(c:Nat):Option St:=yt dst t d (iV o k M c t)
def sop(o:OK):Kn→Option aM→T→List Nat→Mem→Nat→Option St:=
 OK.rec (motive:=fun _=>Kn→Option aM→T→List Nat→Mem→Nat→Option St) s_q s_a s_e o
def s_w(op:OK)(k:Kn)(dst:Option aM)(t:T)(d:List Nat)(M:Mem)(c:Nat)(w:Bool):Option St:=
 Bool.rec (motive:=fun _=>Option St) (wW dst d M c t undef) (sop op k dst t d M c) w
def cN3(dst:Option aM)(op:OK)(guard:Option (aM×Bool))(k:Kn)(t:T)(d:List Nat)(M:Mem)(c:Nat):Option St:=
 Option.rec (motive:=fun _=>Option St) (sop op k dst t d M c) (fun g=>s_w op k dst t d M c (wanted t (some g))) guard
def dw4(dst:Option aM)(op:OK)(guard:Option (aM×Bool))(k:Kn)(s:St):Option St:=
 St.rec (motive:=fun _=>Option St) (fun t d M c=>cN3 dst op guard k t d M c) s
def eC(o:CO):Kn→St→Option St:=CO.rec (motive:=fun _=>Kn→St→Option St) dw4 o
def mN(f:Kn→St→Option St)(k:Kn)(r:Option St):Option St:=Option.rec none (fun s=>f k s) r
def aA0(o:CO)(_:List CO)(ih:Kn→St→Option St)(k:Kn)(s:St):Option St:=mN ih k (eC o k s)
def bO6(_:Kn)(s:St):Option St:=some s
def dJ(ops:List CO):Kn→St→Option St:=List.rec (motive:=fun _=>Kn→St→Option St) bO6 aA0 ops
inductive DS where
 |mk (t:T) (M:Mem) (c:Nat) (pend:List (Nat×Nat×bL)) (reads:List (Nat×Nat))
def uu(i:Nat)(dst:Option aM)(t:T)(M:Mem)(c:Nat)(pend:List (Nat×Nat×bL))(reads:List (Nat×Nat)):QR→Option DS
 | .f=>none
 | .v x=>(setT t dst x).force fun t=>some (.mk t M c pend reads)
 | .r x b=>(setT t dst x).force fun t=>some (.mk t M c pend ((i,b)::reads))
def Ez(i b:Nat)(dst:Option aM)(t:T)(M:Mem)(c:Nat)(pend:List (Nat×Nat×bL))(reads:List (Nat×Nat)):Option (V×bL)→Option DS
 |none=>none
 |some (v,blk)=>(setT t dst v).force fun t=>some (.mk t M c ((i,b,blk)::pend) reads)
def cG(b:Nat):List (Nat×Nat)→Bool
 |[]=>true
 |(_,b')::r=>bif Nat.beq b' b then false else cG b r
def cU(F:RO)(M:Mem):List (Nat×Nat×bL)→Bool
 |[]=>true
 |(_,b,_)::r=>bif (look F M b).isNone then cU F M r else false
def ce(M:Mem):RO→Bool
 |[]=>true
 |(b,_)::r=>bif (M.get b).isNone then ce M r else false
def nD(F:RO)(dst:Option aM)(t:T)(pend:List (Nat×Nat×bL))(reads:List (Nat×Nat))(saved:List (Nat×bL)):RC→Option DS
 | .f=>none
 | .k v M c=>bif ce M F&&cU F M pend then(bc saved M).force fun M=>(setT t dst v).force fun t=>some (.mk t M c pend reads)else none
def sY(k:Kn)(F:RO):Kn:=match k with
 | .mk Φ ex rd fn _=> .mk Φ ex rd fn F
def sO(e:EO)(k:Kn)(dst:Option aM)(t:T)(c:Nat)(pend:List (Nat×Nat×bL))(reads:List (Nat×Nat)):Pr→Option DS
 | .mk F M saved=>bif cU F M pend then nD F dst t pend reads saved (iV e (sY k F) M c t)else none
def Ad(e:EO)(k:Kn)(mask:Nat)(dst:Option aM)(t:T)(c:Nat)(reads:List (Nat×Nat)):Mem×List (Nat×Nat×bL)→Option DS
 |(M,pend)=>sO e k dst t c pend reads (bO mask reads k.F M [])
def CJ(b:Nat):QR→QR
 | .f=> .f
 | .v x=> .r x b
 | .r x _=> .r x b
def Xf(o:QO)(t:T)(b:Nat):Option bL→QR
 |none=> .f
 |some blk=>CJ b (dh o [(b,blk)] .e t)
def EA(o:QO)(F:RO)(M:Mem)(t:T):QR→QR
 | .f=> .f
 | .v _=>dh o [] .e t
 | .r _ b=>Xf o t b (look F M b)
def Xe(k:Kn)(base i mask:Nat)(dst:Option aM)(op:OK)(t:T)(M:Mem)(c:Nat)(pend:List (Nat×Nat×bL))(reads:List (Nat×Nat)):Option DS:=
 match op with
 | .q o=>uu i dst t M c pend reads (EA o k.F M t (dh o k.F M t))
 | .a o=>fN (Nat.add base i) fun b=>bif (look k.F M b).isNone&&cG b reads then Ez i b dst t M c pend reads (lz o b t)else none
 | .e o=>Ad o k mask dst t c reads (hU mask pend M)
def ut(k:Kn)(base:Nat)(h:Nat×Nat×CO)(s:DS):Option DS:=
 match h with
 |(i,mask,.mk dst op guard)=>match s with
  | .mk t M c pend reads=>bif wanted t guard then Xe k base i mask dst op t M c pend reads
    else(setT t dst undef).force fun t=>some (.mk t M c pend reads)
def jD(k:Kn)(base:Nat):List (Nat×Nat×CO)→DS→Option DS
 |[],s=>some s
 |h::r,s=>match ut k base h s with
  |some s=>jD k base r s
  |none=>none
def dQ:List (Nat×Nat×bL)→Mem→Mem
 |[],M=>M
 |(_,b,blk)::r,M=>(M.set b blk).force fun M=>dQ r M
def vX(d:List Nat):Option DS→Rs
 |none=> .f
 |some (.mk t M c pend _)=>(dQ pend M).force fun M=> .k .nrm (.mk t d M c)
def kO(l:Nat):CC→Option CC
 | .tab k c r=>bif Nat.beq k l then some c else kO l r
 |_=>none
def bF5(_:Kn)(s:St):Rs:= .k .nrm s
def rU(o:Option St):Rs:=Option.rec (motive:=fun _=>Rs) .f (fun s=> .k .nrm s) o
def cz2(ops:List CO)(k:Kn)(s:St):Rs:=rU (dJ ops k s)
def WY(n:Nat)(ops:List (Nat×Nat×CO))(k:Kn)(s:St):Rs:=
 match s with
 | .mk t d M c=>fN (Nat.add c n) fun c'=>vX d (jD k c ops (.mk t M c' [] []))
def bN5(f:Kn→St→Rs)(k:Kn)(s:St)(e:Ex):Rs:=
 Ex.rec (motive:=fun _=>Rs) (C3 (f k s)) (.k .ret s) (fun id=> .k (.ext id) s) (fun l=> .k (.gto l) s) e
def lP(f:Kn→St→Rs)(k:Kn)(r:Rs):Rs:=Rs.rec (motive:=fun _=>Rs) .f (fun e s=>bN5 f k s e) r
def cz4(_ _:CC)(f g:Kn→St→Rs)(k:Kn)(s:St):Rs:=lP g k (f k s)
def stT(s:St):T:=St.rec (motive:=fun _=>T) (fun t _ _ _=>t) s
def iK(x:X)(_ _:CC)(f g:Kn→St→Rs)(k:Kn)(s:St):Rs:=
 Fa (x.ev (stT s)) .f fun b=>Bool.rec (motive:=fun _=>Rs) (g k s) (f k s) b
def YA(id:Nat)(s:St)(e:Ex):Rs:=
 Ex.rec (motive:=fun _=>Rs) (.k .nrm s) (.k .ret s) (fun id'=>Bool.rec (motive:=fun _=>Rs) (.k (.ext id') s) (.k .nrm s) (Nat.beq id' id)) (fun l=> .k (.gto l) s) e
def fY(id:Nat)(r:Rs):Rs:=Rs.rec (motive:=fun _=>Rs) .f (fun e s=>YA id s e) r
def ao5(id:Nat)(_:CC)(f:Kn→St→Rs)(k:Kn)(s:St):Rs:=fY id (f k s)
def nM(k:Kn)(c:CC)(s:St):Rs:=Kn.rec (motive:=fun _=>Rs) (fun _ ex rd fn F=>C3 (ex rd fn F c s)) k
def ax9(b:CC)(k:Kn)(s:St)(e:Ex):Rs:=
 Ex.rec (motive:=fun _=>Rs) (nM k (.loop b) s) (.k .ret s) (fun id=> .k (.ext id) s) (fun l=> .k (.gto l) s) e
def ir(b:CC)(k:Kn)(r:Rs):Rs:=Rs.rec (motive:=fun _=>Rs) .f (fun e s=>ax9 b k s e) r
def bF4(b:CC)(f:Kn→St→Rs)(k:Kn)(s:St):Rs:=ir b k (f k s)
def bF2(id:Nat)(_:Kn)(s:St):Rs:= .k (.ext id) s
def tj(tbl:CC)(k:Kn)(s:St):Option CC→Rs
 |none=> .f
 |some c=>nM k (.scope c tbl) s
def jI(tbl:CC)(k:Kn):Rs→Rs
 | .f=> .f
 | .k e s=>match e with
   | .gto l=>tj tbl k s (kO l tbl)
   |e=> .k e s
def ao6(_ tbl:CC)(f _:Kn→St→Rs)(k:Kn)(s:St):Rs:=jI tbl k (f k s)
def cz5(_:Nat)(_ _:CC)(_ _:Kn→St→Rs)(_:Kn)(_:St):Rs:= .f
def bF3(l:Nat)(_:Kn)(s:St):Rs:= .k (.gto l) s
def cz3(_:Kn)(s:St):Rs:= .k .ret s
def cz1(_:Kn)(_:St):Rs:= .f
def xp(s:St):pW→Rs
 | .none=> .k .nrm s
 | .ret=> .k .ret s
 | .ext id=> .k (.ext id) s
def CS(t:T)(d:List Nat)(M:Mem)(c l:Nat):Lp→Rs
 | .f=> .f
 | .k s pe fn tm ps a b dn=>match s with
   | .busy=> .f
   |_=>(M.set l (.loop .exhausted pe fn tm ps a b dn)).force fun M=>xp (.mk t d M c) pe
def lb(t:T)(d:List Nat)(l:Nat):RC→Rs
 | .f=> .f
 | .k _ M c=>CS t d M c l (dR (M.get l))
def og(f:X)(ps:List aM)(asg body:CC)(k:Kn)(t:T)(d:List Nat)(M:Mem)(l dn:Nat):Rs:=
 match k with
 | .mk _ _ _ fn _=>(M.set l (.loop .ready .none fn t ps asg body dn)).force fun M=>fN (Nat.succ l) fun c=>lb t d l (jt k (f.ev t) [.y l] M c)
def Nc(f:X)(ps:List aM)(asg body:CC)(k:Kn)(t:T)(d:List Nat)(M:Mem)(c:Nat):Lp→Rs
 | .f=> .f
 | .k _ _ _ _ _ _ _ dn=>og f ps asg body k t d M c dn
def dg1(f:X)(ps:List aM)(asg body:CC)(_ _:Kn→St→Rs)(k:Kn)(s:St):Rs:=
 match s with
 | .mk t d M c=>match k with
   | .mk _ _ rd _ _=>match rd with
     |some l=>Nc f ps asg body k t d M c (dR (M.get l))
     |none=>(M.set c (.defs false)).force fun M=>fN (Nat.succ c) fun c'=>og f ps asg body k t (c::d) M c' c
def bh(c:CC):Kn→St→Rs:=
 CC.rec (motive:=fun _=>Kn→St→Rs) bF5 cz2 WY cz4 iK ao5 bF4 dg1 bF2 ao6 cz5 bF3 cz3 cz1 c
def cB8(_:Option Nat)(_:Nat)(_:RO)(_:CC)(_:St):Rs:= .f
def cB9(Φ:Nat→Option CF)(_:Nat)(ih:y5)(rd:Option Nat)(fn:Nat)(F:RO)(c:CC)(s:St):Rs:=bh c (.mk Φ ih rd fn F) s
def exec(Φ:Nat→Option CF)(n:Nat):y5:=Nat.rec (motive:=fun _=>y5) cB8 (cB9 Φ) n
def run(Φ:Nat→Option CF)(fuel:Nat)(f:Nat)(args:List V)(M:Mem)(c:Nat):RC:=
 eX (exec Φ fuel) [] f args M c (Φ f)
end
def cN:List UInt8→Nat
 |[]=>0
 |c::l=>c.toNat+256*cN l
mutual
def toV:Nat→Value→Option V
 |0,_=>none
 |n+1,v=>match v with
  | .bool b=>some (.b b)
  | .int k x=>some (.i k x)
  | .string s=>some (.s s.data.toList.length (cN s.data.toList))
  | .pointer none=>some .p0
  | .slice none 0 0=>some .l0
  | .map none=>some .m0
  | .nilFunc=>some .f0
  | .nilIface=>some .a0
  | .iface t v=>(toV n v).map (.a t)
  | .agg cs=>(FE n cs.toList).map .g
  | .tuple cs=>(FE n cs.toList).map .t
  | .func (.func f) first caps=>if first.isEmpty&&caps.isEmpty then some (.f f [] [])else none
  |_=>none
def FE:Nat→List Value→Option (List V)
 |0,_=>none
 |_+1,[]=>some []
 |n+1,v::l=>match toV n v,FE n l with
  |some x,some r=>some (x::r)
  |_,_=>none
end
def bm2:Nat:=100000
def bp:Operand→Option X
 | .tmp t=>some (.t (bJ t))
 | .const v=>(toV bm2 v).map .c
 | .global g=>if g<1000 then some (.c (.p g 0))else none
 | .func f=>some (.c (.f f [] []))
def jk:List Operand→Option (List X)
 |[]=>some []
 |x::l=>match bp x,jk l with
  |some x,some r=>some (x::r)
  |_,_=>none
def MN:Option Operand→Option (Option X)
 |none=>some none
 |some x=>(bp x).map some
def ea(P:Program)(t:TypeId):Option Nat:=(P.info? t).map (·.size)
def WR(P:Program)(t:TypeId):Option Nat:=(P.info? t).map (·.bytes)
def nB(P:Program)(t:TypeId):Option V:=((P.info? t).bind (·.zero)).bind (toV bm2)
def uD(P:Program)(t:TypeId):Option Bool:=
 match P.underlying t with
 |some (.struct _)|some (.array _ _)=>some true
 |some _=>some false
 |none=>none
def Kt(P:Program)(t:TypeId):Option Sh:=
 match P.underlying t with
 |some .bool=>some .bool
 |some (.int _)=>some .int
 |some .string=>some .str
 |some (.pointer e)=>if ea P e==some 0||(ea P e).isNone then none else some .ptr
 |some (.slice _)=>some .slice
 |some (.map _ _)=>some .map
 |some (.func _ _ _)=>some .func
 |some (.interface _)=>some .iface
 |_=>none
def sa(P:Program):List Field→Option (List (Nat×Sh))
 |[]=>some []
 |f::r=>match Kt P f.type,sa P r with
  |some sh,some l=>if f.name≠ "_" then some ((f.offset,sh)::l)else none
  |_,_=>none
def YS(P:Program)(t:TypeId):Option Sh:=
 match P.underlying t with
 |some (.struct fs)=>
  if P.stoodInHeld t||P.eqGuardType P.depth t then none
  else(sa P fs.toList).map .agg
 |_=>Kt P t
def isConstO:Operand→Bool
 | .const _=>true
 |_=>false
def bn4(P:Program)(t:Nat):Bool:=
 match P.info? t,P.underlying t with
 |some i,some (.int _)=>i.comparable
 |_,_=>false
def qo(P:Program):List Nat:=(List.range P.types.size).filter (bn4 P)
def As(P:Program)(lit:Bool)(sh:Sh):Sh:=
 match sh,lit with
 | .iface,false=> .ifs (qo P)
 |sh,_=>sh
def bn3(P:Program):List Field→Nat→Bool
 |[],_=>true
 |f::r,i=>(match P.underlying f.type with
  |some (.int _)=>ea P f.type==some 1&&(f.offset==i&&f.name != "_")
  |_=>false)&&bn3 P r (i+1)
def JK(P:Program)(t:TypeId):Option Sh:=
 match P.underlying t with
 |some .bool=>some .bool
 |some (.int _)=>some .int
 |some .string=>some .str
 |some (.struct fs)=>if P.stoodInHeld t|| !bn3 P fs.toList 0 then none else some (.agg (fs.toList.map fun f=>(f.offset,.int)))
 |_=>none
def XJ(P:Program)(name:String):List (Nat×Nat):=
 (List.range P.types.size).filterMap fun t=>match P.info? t with
  |some i=>match i.methods.find? (·.name==name)with
   |some m=>match m.path.isEmpty,m.func,P.underlying t with
    |true,some (f,true),some (.pointer _)=>some (t,f)
    |true,some (_,false),some (.pointer _)=>none
    |true,some (f,false),some _=>some (t,f)
    |_,_,_=>none
   |none=>none
  |none=>none
def lE(f:Nat→Option (Nat×Nat)):List (Nat×Operand)→Option (List (Nat×Nat×X))
 |[]=>some []
 |(i,x)::r=>match f i,bp x,lE f r with
  |some (o,s),some x,some l=>some ((o,s,x)::l)
  |_,_,_=>none
def mp(P:Program):List Field→Option (List (Nat×Nat))
 |[]=>some []
 |f::r=>match ea P f.type,mp P r with
  |some s,some l=>some ((f.offset,s)::l)
  |_,_=>none
def mh(sz:Nat):List (Nat×Operand)→Option (List (Nat×X))
 |[]=>some []
 |(i,x)::r=>match bp x,mh sz r with
  |some x,some l=>some ((i*sz,x)::l)
  |_,_=>none
def bQ:V→List V
 | .g cs=>cs
 |v=>[v]
def Cm(P:Program)(t:TypeId):Bool:=match P.underlying t with|some (.int .u8)=>true|_=>false
def q(o:QO):Option OK:=some (.q o)
def zOk(P:Program)(t:TypeId)(sz:Nat):Bool:=match nB P t with
 |some z=>(bQ z).length==sz
 |none=>false
def eY(P:Program)(b:Builtin)(args:List Operand)(ats:List TypeId):Option OK:=
 match b,args,ats with
 | .len,[x],[t]=>match P.underlying t,bp x with
   |some .string,some x=>q (.ln .str x)
   |some (.slice _),some x=>q (.ln .slice x)
   |some (.map _ _),some x=>q (.ln .map x)
   |some (.array n _),some _=>q (.lnc n)
   |some (.pointer a),some _=>match P.underlying a with
    |some (.array n _)=>q (.lnc n)
    |_=>none
   |_,_=>none
 | .cap,[x],[t]=>match P.underlying t,bp x with
   |some (.slice _),some x=>q (.cp x)
   |_,_=>none
 | .append,[x,y],t::t2::_=>match P.underlying t,bp x,bp y with
   |some (.slice e),some x,some y=>match ea P e,WR P e,P.underlying t2 with
    |some sz,some by_,some d=>match d with
     | .int _=>match nB P e with
       |some (.i .u8 (.ofNat 0))=>if Cm P e&&(sz==1&&(by_==1&&zOk P e sz))then some (.e (.apz e by_ x y))else none
       |_=>none
     |_=>if sz=0|| !zOk P e sz then none else some (.e (.app e sz by_ x y))
    |_,_,_=>none
   |_,_,_=>none
 | .append,[x,y],[t]=>match P.underlying t,bp x,bp y with
   |some (.slice e),some x,some y=>match ea P e,WR P e with
    |some sz,some by_=>if sz=0|| !zOk P e sz then none else some (.e (.app e sz by_ x y))
    |_,_=>none
   |_,_,_=>none
 | .copy,[x,y],t::_=>match P.underlying t,bp x,bp y with
   |some (.slice e),some x,some y=>match ea P e with
    |some sz=>if sz=0 then none else some (.e (.cpy sz x y))
    |_=>none
   |_,_,_=>none
 | .min,x::xs,_=>match bp x,jk xs with
   |some x,some xs=>q (.mn false x xs)
   |_,_=>none
 | .max,x::xs,_=>match bp x,jk xs with
   |some x,some xs=>q (.mn true x xs)
   |_,_=>none
 | .delete,[m,k],t::_=>match P.underlying t,bp m,bp k with
   |some (.map kt _),some m,some k=>(JK P kt).map fun sh=> .e (.del sh m k)
   |_,_,_=>none
 | .unsafeString,[x,n],t::_=>match P.underlying t,bp x,bp n with
   |some (.pointer e),some x,some n=>if Cm P e&&ea P e==some 1 then some (.e (.us e x n))else none
   |_,_,_=>none
 | .unsafeSliceData,[x],_=>(bp x).bind fun x=>q (.sd x)
 | .clear,[x],t::_=>match P.underlying t,bp x with
   |some (.slice e),some x=>(nB P e).map fun z=> .e (.clr (bQ z) x)
   |_,_=>none
 |_,_,_=>none
def gJ(P:Program)(fn:Func)(args:List Operand):Option OK:=
 if fn.origin≠ "" then none else
 match args with
 |[x,c]=>
  if fn.name== "internal/bytealg.IndexByteString" then match bp x,bp c with
   |some x,some c=>q (.xib x c)
   |_,_=>none
  else if fn.name== "internal/bytealg.CountString" then match bp x,bp c with
   |some x,some c=>q (.xcn x c)
   |_,_=>none
  else if fn.name== "internal/bytealg.abigen_runtime_cmpstring" then match bp x,bp c with
   |some x,some c=>q (.xcmp x c)
   |_,_=>none
  else if fn.name== "internal/bytealg.IndexByte" then match bp x,bp c with
   |some x,some c=>q (.xibB x c)
   |_,_=>none
  else none
 |[x]=>
  if fn.name== "internal/abi.NoEscape" then(bp x).bind fun x=>q (.mv x)
  else if fn.name== "internal/bytealg.MakeNoZero" then match bp x,fn.resultTypes.toList with
   |some x,[t]=>match P.underlying t with
    |some (.slice e)=>if Cm P e&&ea P e==some 1 then some (.a (.nz e x))else none
    |_=>none
   |_,_=>none
  else if fn.name== "maps.clone" then(bp x).map fun x=> .e (.mcl x)
  else none
 |_=>none
def aF(P:Program)(o:Op):Option OK:=
 match o with
 | .move x| .assign x=>(bp x).bind fun x=>q (.mv x)
 | .pick c a b=>match bp c,bp a,bp b with
   |some c,some a,some b=>q (.pk c a b)
   |_,_,_=>none
 | .alloc t=>(nB P t).map fun z=> .a (.al t (bQ z))
 | .box t x=>match ea P t,bp x with
   |some s,some x=>some (.a (.bx t s x))
   |_,_=>none
 | .build t parts=>match nB P t,P.underlying t with
   |some z,some (.struct fs)=>match mp P fs.toList with
    |some ps=>(lE (fun i=>ps[i]?) parts.toList).bind fun ps=>q (.bld (bQ z) ps)
    |none=>none
   |some z,some (.array _ e)=>match ea P e with
    |some s=>(lE (fun i=>some (i*s,s)) parts.toList).bind fun ps=>q (.bld (bQ z) ps)
    |none=>none
   |_,_=>none
 | .buildSlice t n parts=>match P.underlying t with
   |some (.slice e)=>match ea P e,nB P e with
    |some s,some z=>if s=0||n*s>2^24||(bQ z).isEmpty then none else(mh s parts.toList).map fun ps=> .a (.bsl e n s (bQ z) ps)
    |_,_=>none
   |_=>none
 | .load t x=>match uD P t,ea P t,bp x with
   |some true,some n,some x=>q (.ldn n x)
   |some false,some _,some x=>q (.ld1 x)
   |_,_,_=>none
 | .store t x v=>match ea P t,bp x,bp v with
   |some n,some x,some v=>some (.e (.st n x v))
   |_,_,_=>none
 | .nilCheck x=>(bp x).bind fun x=>q (.nck x)
 | .sliceToArrayPointer d x=>match P.underlying d,bp x with
   |some (.array n _),some x=>q (.sap n x)
   |_,_=>none
 | .binOp op t x y _=>match P.underlying t,bp x,bp y with
   |some (.int _),some x,some y|some .string,some x,some y=>q (.bi op x y)
   |some _,some x',some y'=>match op with
    | .eql=>(YS P t).bind fun sh=>q (.eq false (As P (isConstO x||isConstO y) sh) (isConstO x||isConstO y) x' y')
    | .neq=>(YS P t).bind fun sh=>q (.eq true (As P (isConstO x||isConstO y) sh) (isConstO x||isConstO y) x' y')
    |_=>none
   |_,_,_=>none
 | .unOp op _ x=>(bp x).bind fun x=>q (.un op x)
 | .convert s d x=>match P.underlying s,P.underlying d,bp x with
   |some (.int _),some (.int k),some x=>q (.ci k x)
   |some .string,some .string,some x=>q (.slS x none none)
   |some (.slice e),some .string,some x=>if Cm P e then q (.bs x)else none
   |some .string,some (.slice e),some x=>if Cm P e&&ea P e==some 1 then some (.a (.sb e x))else none
   |some (.slice _),some (.slice e),some x=>if s==d&&Cm P e then some (.e (.ms x))else none
   |some (.pointer e),some .unsafePointer,some x=>if ea P e==some 0||(ea P e).isNone then none else q (.up x)
   |some .unsafePointer,some (.pointer e),some x=>match ea P e with
    |some (s+1)=>q (.dn e (s+1) x)
    |_=>none
   |_,_,_=>none
 | .makeInterface t x=>match P.underlying t,bp x with
   |some (.interface _),_=>none
   |some _,some x=>q (.mki t x)
   |_,_=>none
 | .makeFunc (.func f) first caps=>match jk first.toList,jk caps.toList with
   |some a,some b=>q (.mkf f a b)
   |_,_=>none
 | .makeMap _ none=>some (.a .mkm)
 | .makeSlice t l c=>match P.underlying t,bp l,bp c with
   |some (.slice e),some l,some c=>match ea P e,WR P e,nB P e with
    |some s,some by_,some z=>if s=0||(bQ z).isEmpty then none else some (.a (.mks e s by_ (bQ z) l c))
    |_,_,_=>none
   |_,_,_=>none
 | .slice t x lo hi mx=>match bp x,MN lo,MN hi,MN mx with
   |some x,some lo,some hi,some mx=>match P.underlying t with
    |some .string=>if mx.isSome then none else q (.slS x lo hi)
    |some (.slice e)=>(ea P e).bind fun s=>if s=0 then none else q (.slL s x lo hi mx)
    |some (.array n e)=>(ea P e).bind fun s=>if s=0 then none else q (.slA n s x lo hi mx)
    |some (.pointer a)=>match P.underlying a with
     |some (.array n e)=>(ea P e).bind fun s=>if s=0 then none else q (.slA n s x lo hi mx)
     |_=>none
    |_=>none
   |_,_,_,_=>none
 | .fieldAddr t x f=>match P.underlying t,bp x with
   |some (.struct fs),some x=>match fs.toList[f]? with
    |some f=>match ea P f.type with
     |some (_+1)=>q (.fa f.offset x)
     |_=>none
    |none=>none
   |_,_=>none
 | .field t x f=>match P.underlying t,bp x with
   |some (.struct fs),some x=>match fs.toList[f]? with
    |some f=>match uD P f.type,ea P f.type with
     |some true,some n=>q (.fln f.offset n x)
     |some false,_=>q (.fl1 f.offset x)
     |_,_=>none
    |none=>none
   |_,_=>none
 | .indexAddr t x i=>match P.underlying t,bp x,bp i with
   |some (.array n e),some x,some i=>(ea P e).bind fun s=>q (.iaA n s x i)
   |some (.slice e),some x,some i=>(ea P e).bind fun s=>q (.iaS s x i)
   |_,_,_=>none
 | .index t x i=>match P.underlying t,bp x,bp i with
   |some (.array n e),some x,some i=>match uD P e,ea P e with
    |some true,some s=>q (.ixAn n s x i)
    |some false,some s=>q (.ixA1 n s x i)
    |_,_=>none
   |some .string,some x,some i=>q (.ixS x i)
   |_,_,_=>none
 | .lookup t x k ok=>match P.underlying t,bp x,bp k with
   |some (.map kt e),some x,some k=>match JK P kt,nB P e with
    |some sh,some z=>q (.lk sh z ok x k)
    |_,_=>none
   |_,_,_=>none
 | .mapUpdate t m k v| .insert t m k v=>match P.underlying t,bp m,bp k,bp v with
   |some (.map kt _),some m,some k,some v=>(JK P kt).map fun sh=> .e (.mu sh m k v)
   |_,_,_,_=>none
 | .typeAssert x _ t ok=>match P.underlying t,bp x,nB P t with
   |some (.interface _),_,_=>none
   |some _,some x,some z=>q (.ta t z ok x)
   |_,_,_=>none
 | .range t x=>match P.underlying t,bp x with
   |some .string,some x=>some (.a (.rgs x))
   |some (.map _ _),some x=>some (.e (.rgm x))
   |_,_=>none
 | .next x true=>(bp x).map fun x=> .e (.nxs x)
 | .next x false=>(bp x).map fun x=> .e (.nxm x)
 | .entry x=>(bp x).map fun x=> .e (.ent x)
 | .extract x i=>(bp x).bind fun x=>q (.ex i x)
 | .call c=>match c.callee with
   | .builtin b=>eY P b c.args.toList c.argTypes.toList
   | .value (.func f)=>match P.funcs[f]? with
     |some fn=>if fn.body.isNone then gJ P fn c.args.toList else(jk c.args.toList).map fun xs=> .e (.call f xs)
     |none=>none
   | .value x=>match bp x,jk c.args.toList with
     |some x,some xs=>some (.e (.cv x xs))
     |_,_=>none
   | .invoke x name=>match bp x,jk c.args.toList with
     |some x,some xs=>some (.e (.inv (XJ P name) x xs))
     |_,_=>none
 |_=>none
def tO(nt:Nat):Option Nat→Bool
 |none=>true
 |some d=>d<nt
def yK(P:Program)(nt:Nat)(ops:Array Oper)(o:Oper):Option CO:=
 if !tO nt o.dst then none else
 match (match o.guard with
  |none=>some none
  |some (j,want)=>match (ops[j]?).bind (·.dst)with
   |some d=>some (some (bJ d,want))
   |none=>none)with
 |none=>none
 |some g=>match aF P o.op with
  |some op=>some (.mk (o.dst.map bJ) op g)
  |none=>some (.mk (o.dst.map bJ) (.q .bad) g)
def nO(P:Program)(nt:Nat)(ops:Array Oper):List Oper→Option (List CO)
 |[]=>some []
 |o::r=>match yK P nt ops o,nO P nt ops r with
  |some o,some r=>some (o::r)
  |_,_=>none
def isE:CO→Bool
 | .mk _ (.e _) _=>true
 |_=>false
def pA(ms:List Nat)(cos:List CO):Nat→Nat→List (Nat×Nat×CO)
 |0,_=>[]
 |fuel+1,done=>
  let ready:=(cos.zip ms).zipIdx.filter fun((_,m),i)=> !done.testBit i&&(m&&&done)==m
  let pick:=match ready.find? fun((o,_),_)=> !isE o with
   |some r=>some r
   |none=>ready.head?
  match pick with
  |some ((o,m),i)=>(i,m,o)::pA ms cos fuel (done|||2^i)
  |none=>[]
def X.ps:X→List aM
 | .t p=>[p]
 | .c _=>[]
def psL:List X→List aM
 |[]=>[]
 |x::r=>x.ps++psL r
def psO:Option X→List aM
 |none=>[]
 |some x=>x.ps
def psP:List (Nat×Nat×X)→List aM
 |[]=>[]
 |(_,_,x)::r=>x.ps++psP r
def aw2:List (Nat×X)→List aM
 |[]=>[]
 |(_,x)::r=>x.ps++aw2 r
def QO.ps:QO→List aM
 | .mv x=>x.ps
 | .pk c a b=>c.ps++(a.ps++b.ps)
 | .ld1 x=>x.ps
 | .ldn _ x=>x.ps
 | .nck x=>x.ps
 | .bi _ x y=>x.ps++y.ps
 | .eq _ _ _ x y=>x.ps++y.ps
 | .un _ x=>x.ps
 | .ci _ x=>x.ps
 | .bs x=>x.ps
 | .mki _ x=>x.ps
 | .mkf _ a b=>psL a++psL b
 | .fa _ x=>x.ps
 | .fl1 _ x=>x.ps
 | .fln _ _ x=>x.ps
 | .iaA _ _ x i=>x.ps++i.ps
 | .iaS _ x i=>x.ps++i.ps
 | .ixA1 _ _ x i=>x.ps++i.ps
 | .ixAn _ _ x i=>x.ps++i.ps
 | .ixS x i=>x.ps++i.ps
 | .slS x lo hi=>x.ps++(psO lo++psO hi)
 | .slL _ x lo hi mx=>x.ps++(psO lo++(psO hi++psO mx))
 | .slA _ _ x lo hi mx=>x.ps++(psO lo++(psO hi++psO mx))
 | .lk _ _ _ x k=>x.ps++k.ps
 | .ex _ x=>x.ps
 | .ln _ x=>x.ps
 | .lnc _=>[]
 | .cp x=>x.ps
 | .mn _ x xs=>x.ps++psL xs
 | .bld _ ps=>psP ps
 | .ta _ _ _ x=>x.ps
 | .up x=>x.ps
 | .dn _ _ x=>x.ps
 | .sd x=>x.ps
 | .xib x c=>x.ps++c.ps
 | .xcn x c=>x.ps++c.ps
 | .xcmp x y=>x.ps++y.ps
 | .xibB x y=>x.ps++y.ps
 | .sap _ x=>x.ps
 | .bad=>[]
def AO.ps:AO→List aM
 | .al _ _=>[]
 | .bx _ _ x=>x.ps
 | .bsl _ _ _ _ ps=>aw2 ps
 | .mks _ _ _ _ l c=>l.ps++c.ps
 | .mkm=>[]
 | .sb _ x=>x.ps
 | .nz _ x=>x.ps
 | .rgs x=>x.ps
def EO.ps:EO→List aM
 | .call _ as0=>psL as0
 | .cv f as0=>f.ps++psL as0
 | .st _ x v=>x.ps++v.ps
 | .app _ _ _ x y=>x.ps++y.ps
 | .cpy _ x y=>x.ps++y.ps
 | .clr _ x=>x.ps
 | .mu _ m k v=>m.ps++(k.ps++v.ps)
 | .del _ m k=>m.ps++k.ps
 | .us _ x n=>x.ps++n.ps
 | .ms x=>x.ps
 | .nxs x=>x.ps
 | .rgm x=>x.ps
 | .nxm x=>x.ps
 | .apz _ _ x y=>x.ps++y.ps
 | .ent x=>x.ps
 | .mcl x=>x.ps
 | .inv _ x as0=>x.ps++psL as0
def OK.ps:OK→List aM
 | .q o=>o.ps
 | .a o=>o.ps
 | .e o=>o.ps
def gps:Option (aM×Bool)→List aM
 |none=>[]
 |some (p,_)=>[p]
def CO.ps:CO→List aM
 | .mk _ op g=>gps g++op.ps
def CO.dst:CO→Option aM
 | .mk d _ _=>d
def jy:aM→aM→Bool
 | .h,.h=>true
 | .l p,.l q=>jy p q
 | .r p,.r q=>jy p q
 |_,_=>false
def wT(p:aM):List aM→Bool
 |[]=>false
 |q::r=>bif jy p q then true else wT p r
def tN(l:List aM):Option aM→Bool
 |none=>false
 |some p=>wT p l
def rv:Option aM→Option aM→Bool
 |some p,some q=>jy p q
 |_,_=>false
def JG(x y:CO):Bool:= !isE x&&(!tN y.ps x.dst&&(!tN x.ps y.dst&& !rv x.dst y.dst))
def tc(x y:Nat×Nat×CO):Bool:=
 !testBit x.2.1 y.1&&(!Nat.beq x.1 y.1&&(bif testBit y.2.1 x.1 then Nat.beq (Nat.lor x.2.1 y.2.1) y.2.1 else JG x.2.2 y.2.2))
def rO(x:Nat×Nat×CO):List (Nat×Nat×CO)→Bool
 |[]=>true
 |y::r=>tc x y&&rO x r
def vf:List (Nat×Nat×CO)→Bool
 |[]=>true
 |x::r=>rO x r&&vf r
def mask1(ms:List Nat):List Edge→Nat
 |[]=>0
 |e::r=>bif Region.binds .any e then Nat.lor (Nat.lor (Nat.pow 2 e.on) ((ms[e.on]?).getD 0)) (mask1 ms r)else mask1 ms r
def Af(ms:List Nat)(n:Nat)(ops:List Oper)(x:Nat×Nat×CO):Bool:=
 match ops[x.1]? with
 |none=>false
 |some o=>Nat.beq x.2.1 (mask1 ms o.after.toList)&&(!testBit x.2.1 x.1&&Nat.blt x.2.1 (Nat.pow 2 n))
def uS(ms:List Nat)(n:Nat)(ops:List Oper):List (Nat×Nat×CO)→Bool
 |[]=>true
 |x::r=>Af ms n ops x&&uS ms n ops r
def wv(i:Nat):List (Nat×Nat×CO)→Bool
 |[]=>false
 |x::r=>bif Nat.beq x.1 i then true else wv i r
def rq(l:List (Nat×Nat×CO)):Nat→Bool
 |0=>true
 |n+1=>wv n l&&rq l n
def CQ(ops:List Oper)(ms:List Nat)(n:Nat)(l:List (Nat×Nat×CO)):Bool:=
 uS ms n ops l&&(rq l n&&vf l)
def Xj(ops:List Oper)(ms:List Nat)(n:Nat)(l:List (Nat×Nat×CO)):CC:=
 bif CQ ops ms n l then .dreg n l else .bad
def yN(ops:Array Oper)(cos:List CO):CC:=
 Xj ops.toList (Region.before ops).toList ops.size (pA (Region.before ops).toList cos ops.size 0)
def EX:Code→List Nat
 | .seq a b=>EX a++EX b
 | .label l=>[l]
 |_=>[]
def KF(f:Nat→Option CC):List Nat→Option CC
 |[]=>some .skip
 |l::r=>match f l,KF f r with
  |some c,some t=>some (.tab l c t)
  |_,_=>none
def kM(P:Program)(nt:Nat):Nat→Code→Option CC
 |0,_=>none
 |n+1,c=>match c with
  | .skip| .label _=>some .skip
  | .region _ ops false=>(nO P nt ops ops.toList).map .reg
  | .region _ ops true=>match nO P nt ops ops.toList with
    |some cos=>some (yN ops cos)
    |none=>none
  | .seq a b=>match kM P nt n a,kM P nt n b with
    |some a,some b=>some (.seq a b)
    |_,_=>none
  | .cond x a b=>match bp x,kM P nt n a,kM P nt n b with
    |some x,some a,some b=>some (.cond x a b)
    |_,_,_=>none
  | .block id b=>(kM P nt n b).map (.block id)
  | .loop b=>(kM P nt n b).map .loop
  | .rangeFunc f ps a b=>if !(ps.toList.all fun p=>p<nt)then none else match bp f,kM P nt n a,kM P nt n b with
    |some f,some a,some b=>some (.rf f (ps.toList.map bJ) a b)
    |_,_,_=>none
  | .exit id=>some (.exit id)
  | .scope b=>match kM P nt n b,KF (fun l=>(findLabel b l).bind fun c=>kM P nt n c) (EX b)with
    |some c,some t=>some (.scope c t)
    |_,_=>none
  | .goto l=>some (.goto l)
  | .ret=>some .ret
  | .refuse _=>some .bad
def bl7(P:Program):ResultVar→Option RV
 | .tmp t=>some (.t (bJ t))
 | .cell a t=>match uD P t,ea P t with
   |some true,some n=>some (.cn (bJ a) n)
   |some false,some _=>some (.c1 (bJ a))
   |_,_=>none
def sN(P:Program):List ResultVar→Option (List RV)
 |[]=>some []
 |x::l=>match bl7 P x,sN P l with
  |some x,some r=>some (x::r)
  |_,_=>none
def ap5(P:Program)(fn:Func):Option CF:=
 if fn.name== "runtime.NumGoroutine" then none else
 match fn.body with
 |none=>none
 |some b=>match kM P fn.ntmps 10000 b,sN P fn.results.toList with
  |some body,some res=>some (.mk (Nat.log2 fn.ntmps+1) res body)
  |_,_=>none
theorem Tr.force_eq{α β:Type}(t:Tr α)(f:Tr α→β):t.force f=f t:=by cases t<;>rfl
theorem b9{β:Type}(n:Nat)(f:Nat→β):fN n f=f n:=by cases n<;>rfl
theorem Jr{β:Type}(n:Int)(f:Int→β):fI n f=f n:=by
 cases n with
 |ofNat m=>exact b9 m (fun m=>f (.ofNat m))
 |negSucc m=>exact b9 m (fun m=>f (.negSucc m))
theorem cC0{β:Type}(b:Bool)(f:Bool→β):fB b f=f b:=by cases b<;>rfl
theorem bb{β:Type}(b:Bool)(x y:β):(Bool.rec (motive:=fun _=>β) y x b)=if b then x else y:=by cases b<;>rfl
theorem bK(a b:Nat):Nat.beq a b=decide (a=b):=by
 rw[Bool.eq_iff_iff];simp
theorem cE(a b:Nat):Nat.ble a b=decide (a≤b):=by
 by_cases h:a≤b
 ·rw[af h];exact Nat.ble_eq_true_of_le h
 ·rw[ah h];exact Bool.eq_false_iff.2 fun h'=>h (Nat.le_of_ble_eq_true h')
theorem eT(a b:Nat):Nat.blt a b=decide (a<b):=by
 rw[Nat.blt,cE];rfl
theorem Tr.get_e{α:Type}(k:Nat):(Tr.e:Tr α).get k=none:=rfl
theorem Tr.get_n{α:Type}(l r:Tr α)(v:Option α)(k:Nat):
 (Tr.n l v r).get k=if k=0 then v else if k%2=0 then r.get (k/2-1)else l.get (k/2):=by
 show(Bool.rec (motive:=fun _=>Option α) (Bool.rec (motive:=fun _=>Option α) (l.get (Nat.div k 2)) (r.get (Nat.sub (Nat.div k 2) 1)) (Nat.beq (Nat.mod k 2) 0)) v (Nat.beq k 0))=_
 rw[bb,bb,bK,bK]
 simp only[decide_eq_true_eq]
 rfl
theorem Tr.single_zero{α:Type}(v:Option α)(k:Nat):Tr.single v 0 k= .n .e v .e:=rfl
theorem Tr.single_succ{α:Type}(v:Option α)(f k:Nat):
 Tr.single v (f+1) k=if k=0 then .n .e v .e else if k%2=0 then .n .e none (Tr.single v f (k/2-1))else .n (Tr.single v f (k/2)) none .e:=by
 show(Bool.rec (motive:=fun _=>Tr α) (Bool.rec (motive:=fun _=>Tr α) ((Tr.single v f (Nat.div k 2)).force fun t=> .n t none .e) ((Tr.single v f (Nat.sub (Nat.div k 2) 1)).force fun t=> .n .e none t) (Nat.beq (Nat.mod k 2) 0)) (.n .e v .e) (Nat.beq k 0))=_
 rw[bb,bb,bK,bK,Tr.force_eq,Tr.force_eq]
 simp only[decide_eq_true_eq]
 rfl
theorem Tr.get_single{α:Type}(v:Option α)(f:Nat):∀(k j:Nat),k+1<2^(f+1)→(Tr.single v f k).get j=if j=k then v else none:=by
 induction f with
 |zero=>
  intro k j h;have:k=0:=by simp at h;omega
  subst this;rw[Tr.single_zero,Tr.get_n];simp only[Tr.get_e];split<;>simp
 |succ f ih=>
  intro k j h;rw[Tr.single_succ];have hp:(2:Nat)^(f+1+1)=2*2^(f+1):=by rw[Nat.pow_succ];omega
  by_cases h0:k=0
  ·subst h0;simp only[ae,Tr.get_n,Tr.get_e];split<;>simp
  ·rw[ab h0];by_cases h2:k%2=0
   ·rw[ae h2,Tr.get_n];by_cases hj:j=0
    ·subst hj;rw[ae rfl,ab (by omega)]
    ·rw[ab hj];by_cases hj2:j%2=0
     ·rw[ae hj2,ih _ _ (by omega)];by_cases hjk:j=k
      ·subst hjk;simp
      ·rw[ab hjk,ab (by omega)]
     ·rw[ab hj2,Tr.get_e,ab (by intro e;subst e;omega)]
   ·rw[ab h2,Tr.get_n];by_cases hj:j=0
    ·subst hj;rw[ae rfl,ab (by omega)]
    ·rw[ab hj];by_cases hj2:j%2=0
     ·rw[ae hj2,Tr.get_e,ab (by intro e;subst e;omega)]
     ·rw[ab hj2,ih _ _ (by omega)];by_cases hjk:j=k
      ·subst hjk;simp
      ·rw[ab hjk,ab (by omega)]
theorem Tr.put_e{α:Type}(v:Option α)(k:Nat):(Tr.e:Tr α).put v k=Tr.single v (Nat.log2 k+1) k:=rfl
theorem Tr.put_n{α:Type}(v:Option α)(l r:Tr α)(x:Option α)(k:Nat):
 (Tr.n l x r).put v k=if k=0 then .n l v r else if k%2=0 then .n l x (r.put v (k/2-1))else .n (l.put v (k/2)) x r:=by
 show(Bool.rec (motive:=fun _=>Tr α) (Bool.rec (motive:=fun _=>Tr α) ((Tr.put v l (Nat.div k 2)).force fun t=> .n t x r) ((Tr.put v r (Nat.sub (Nat.div k 2) 1)).force fun t=> .n l x t) (Nat.beq (Nat.mod k 2) 0)) (.n l v r) (Nat.beq k 0))=_
 rw[bb,bb,bK,bK,Tr.force_eq,Tr.force_eq]
 simp only[decide_eq_true_eq]
 rfl
theorem Tr.get_put{α:Type}(v:Option α)(t:Tr α):∀(k j:Nat),(t.put v k).get j=if j=k then v else t.get j:=by
 induction t with
 |e=>
  intro k j;rw[Tr.put_e,Tr.get_single]
  ·rfl
  ·have:=Nat.lt_log2_self (n:=k);have hp:(2:Nat)^(k.log2+1+1)=2*2^(k.log2+1):=by rw[Nat.pow_succ];omega
   omega
 |n l x r ihl ihr=>
  intro k j;rw[Tr.put_n,Tr.get_n l r x j];by_cases h0:k=0
  ·subst h0;rw[ae rfl,Tr.get_n];by_cases hj:j=0<;>simp[hj]
  ·rw[ab h0];by_cases h2:k%2=0
   ·rw[ae h2,Tr.get_n];by_cases hj:j=0
    ·subst hj;simp only[ae];rw[ab (by omega)]
    ·rw[ab hj,ab hj];by_cases hj2:j%2=0
     ·rw[ae hj2,ae hj2,ihr];by_cases hjk:j=k
      ·subst hjk;simp
      ·rw[ab hjk,ab (by omega)]
     ·rw[ab hj2,ab hj2,ab (by intro e;subst e;omega)]
   ·rw[ab h2,Tr.get_n];by_cases hj:j=0
    ·subst hj;simp only[ae];rw[ab (by omega)]
    ·rw[ab hj,ab hj];by_cases hj2:j%2=0
     ·rw[ae hj2,ae hj2,ab (by intro e;subst e;omega)]
     ·rw[ab hj2,ab hj2,ihl];by_cases hjk:j=k
      ·subst hjk;simp
      ·rw[ab hjk,ab (by omega)]
theorem Tr.get_set{α:Type}(t:Tr α)(k j:Nat)(v:α):(t.set k v).get j=if j=k then some v else t.get j:=Tr.get_put _ t k j
theorem Tr.get_del{α:Type}(t:Tr α)(k j:Nat):(t.del k).get j=if j=k then none else t.get j:=Tr.get_put _ t k j
theorem Tr.getP_e{α:Type}(p:aM):(Tr.e:Tr α).getP p=none:=by cases p<;>rfl
theorem Tr.getP_l{α:Type}(l r:Tr α)(v:Option α)(p:aM):(Tr.n l v r).getP (.l p)=l.getP p:=rfl
theorem Tr.getP_r{α:Type}(l r:Tr α)(v:Option α)(p:aM):(Tr.n l v r).getP (.r p)=r.getP p:=rfl
theorem Tr.setP_eh{α:Type}(v:α):(Tr.e:Tr α).setP .h v= .n .e (some v) .e:=rfl
theorem Tr.setP_el{α:Type}(v:α)(p:aM):(Tr.e:Tr α).setP (.l p) v= .n (Tr.e.setP p v) none .e:=Tr.force_eq _ (fun a=>Tr.n a none .e)
theorem Tr.setP_er{α:Type}(v:α)(p:aM):(Tr.e:Tr α).setP (.r p) v= .n .e none (Tr.e.setP p v):=Tr.force_eq _ (fun a=>Tr.n .e none a)
theorem Tr.setP_h{α:Type}(l r:Tr α)(x:Option α)(v:α):(Tr.n l x r).setP .h v= .n l (some v) r:=rfl
theorem Tr.setP_l{α:Type}(l r:Tr α)(x:Option α)(v:α)(p:aM):(Tr.n l x r).setP (.l p) v= .n (l.setP p v) x r:=Tr.force_eq _ (fun a=>Tr.n a x r)
theorem Tr.setP_r{α:Type}(l r:Tr α)(x:Option α)(v:α)(p:aM):(Tr.n l x r).setP (.r p) v= .n l x (r.setP p v):=Tr.force_eq _ (fun a=>Tr.n l x a)
theorem Tr.getP_setP_same{α:Type}(p:aM)(v:α):∀t:Tr α,(t.setP p v).getP p=some v:=by
 induction p with
 |h=>intro t;cases t<;>rfl
 |l p ih=>intro t;cases t with
  |e=>rw[Tr.setP_el,Tr.getP_l,ih]
  |n l x r=>rw[Tr.setP_l,Tr.getP_l,ih]
 |r p ih=>intro t;cases t with
  |e=>rw[Tr.setP_er,Tr.getP_r,ih]
  |n l x r=>rw[Tr.setP_r,Tr.getP_r,ih]
theorem Tr.getP_setP_ne{α:Type}(p:aM)(v:α):∀(q:aM) (t:Tr α),q≠p→(t.setP p v).getP q=t.getP q:=by
 induction p with
 |h=>intro q t hq;cases t<;>cases q<;>first|exact absurd rfl hq|(simp[Tr.setP_eh,Tr.setP_h,Tr.getP_l,Tr.getP_r,Tr.getP_e])
 |l p ih=>
  intro q t hq;cases t with
  |e=>
   rw[Tr.setP_el,Tr.getP_e];cases q with
   |h=>rfl
   |l q=>rw[Tr.getP_l,ih q _ (fun e=>hq (by rw[e])),Tr.getP_e]
   |r q=>rw[Tr.getP_r,Tr.getP_e]
  |n l x r=>
   rw[Tr.setP_l];cases q with
   |h=>rfl
   |l q=>rw[Tr.getP_l,Tr.getP_l,ih q _ (fun e=>hq (by rw[e]))]
   |r q=>rfl
 |r p ih=>
  intro q t hq;cases t with
  |e=>
   rw[Tr.setP_er,Tr.getP_e];cases q with
   |h=>rfl
   |r q=>rw[Tr.getP_r,ih q _ (fun e=>hq (by rw[e])),Tr.getP_e]
   |l q=>rw[Tr.getP_l,Tr.getP_e]
  |n l x r=>
   rw[Tr.setP_r];cases q with
   |h=>rfl
   |r q=>rw[Tr.getP_r,Tr.getP_r,ih q _ (fun e=>hq (by rw[e]))]
   |l q=>rfl
theorem Tr.setP_comm{α:Type}(p:aM)(v:α):∀(q:aM) (w:α) (t:Tr α),q≠p→(t.setP p v).setP q w=(t.setP q w).setP p v:=by
 induction p with
 |h=>
  intro q w t hq;cases t<;>cases q<;>first|exact absurd rfl hq|(simp[Tr.setP_eh,Tr.setP_h,Tr.setP_l,Tr.setP_r,Tr.setP_el,Tr.setP_er])
 |l p ih=>
  intro q w t hq;cases t with
  |e=>cases q with
   |h=>simp[Tr.setP_el,Tr.setP_h,Tr.setP_eh,Tr.setP_l]
   |l q=>rw[Tr.setP_el,Tr.setP_el,Tr.setP_l,Tr.setP_l,ih q w _ (fun e=>hq (by rw[e]))]
   |r q=>simp[Tr.setP_el,Tr.setP_er,Tr.setP_l,Tr.setP_r]
  |n l x r=>cases q with
   |h=>simp[Tr.setP_h,Tr.setP_l]
   |l q=>rw[Tr.setP_l,Tr.setP_l,Tr.setP_l,Tr.setP_l,ih q w _ (fun e=>hq (by rw[e]))]
   |r q=>simp[Tr.setP_l,Tr.setP_r]
 |r p ih=>
  intro q w t hq;cases t with
  |e=>cases q with
   |h=>simp[Tr.setP_er,Tr.setP_h,Tr.setP_eh,Tr.setP_r]
   |r q=>rw[Tr.setP_er,Tr.setP_er,Tr.setP_r,Tr.setP_r,ih q w _ (fun e=>hq (by rw[e]))]
   |l q=>simp[Tr.setP_el,Tr.setP_er,Tr.setP_l,Tr.setP_r]
  |n l x r=>cases q with
   |h=>simp[Tr.setP_h,Tr.setP_r]
   |r q=>rw[Tr.setP_r,Tr.setP_r,Tr.setP_r,Tr.setP_r,ih q w _ (fun e=>hq (by rw[e]))]
   |l q=>simp[Tr.setP_l,Tr.setP_r]
theorem tZ(f k:Nat):mE (f+1) k=if k=0 then .h else if k%2=0 then .r (mE f (k/2-1))else .l (mE f (k/2)):=by
 rw[mE]
 rw[bK,bK]
 simp only[cond_eq_ite,decide_eq_true_eq]
 rfl
theorem Ci{α:Type}(f:Nat):∀(k:Nat) (t:Tr α),k+1<2^(f+1)→t.getP (mE f k)=t.get k:=by
 induction f with
 |zero=>
  intro k t h;have:k=0:=by simp at h;omega
  subst this;cases t with
  |e=>rfl
  |n l v r=>rw[Tr.get_n];rfl
 |succ f ih=>
  intro k t h;have hp:(2:Nat)^(f+1+1)=2*2^(f+1):=by rw[Nat.pow_succ];omega
  rw[tZ];cases t with
  |e=>rw[Tr.getP_e,Tr.get_e]
  |n l v r=>
   rw[Tr.get_n];by_cases h0:k=0
   ·subst h0;rfl
   ·rw[ab h0,ab h0];by_cases h2:k%2=0
    ·rw[ae h2,ae h2,Tr.getP_r,ih _ _ (by omega)]
    ·rw[ab h2,ab h2,Tr.getP_l,ih _ _ (by omega)]
theorem ew{α:Type}(k:Nat)(t:Tr α):t.getP (bJ k)=t.get k:=by
 refine Ci _ k t ?_
 have:=Nat.lt_log2_self (n:=k)
 have hp:(2:Nat)^(Nat.succ k.log2+1)=2*2^(k.log2+1):=by rw[Nat.pow_succ];omega
 omega
theorem zm{j k:Nat}(h:bJ j=bJ k):j=k:=by
 have h1:((Tr.e:Tr Nat).set k 0).getP (bJ j)=some 0:=by rw[h,ew,Tr.get_set];simp
 rw[ew,Tr.get_set]at h1
 by_cases e:j=k
 ·exact e
 ·rw[ab e,Tr.get_e]at h1;cases h1
theorem uv{α:Type}(t:Tr α)(k j:Nat)(v:α):(t.setP (bJ k) v).getP (bJ j)=if j=k then some v else t.getP (bJ j):=by
 by_cases e:j=k
 ·subst e;rw[ae rfl,Tr.getP_setP_same]
 ·rw[ab e,Tr.getP_setP_ne _ _ _ _ (fun h=>e (zm h))]
theorem wD(k:Nat)(t:T):bz [] k t=t:=rfl
theorem d9(v:V)(l:List V)(k:Nat)(t:T):bz (v::l) k t=bz l (k+1) (t.set k v):=Tr.force_eq _ _
theorem dH(vs:List V):∀(k:Nat) (t:T) (j:Nat),(bz vs k t).get j=if k≤j∧j<k+vs.length then vs[j-k]? else t.get j:=by
 induction vs with
 |nil=>intro k t j;rw[wD,ab (by simp)]
 |cons v l ih=>
  intro k t j;rw[d9,ih,Tr.get_set];by_cases h:j=k
  ·subst h;rw[ab (by omega),ae rfl,ae (by simp),Nat.sub_self,List.getElem?_cons_zero]
  ·rw[ab h];by_cases h2:k+1≤j∧j<k+1+l.length
   ·rw[ae h2,ae (by simp;omega)];have:j-k=(j-(k+1))+1:=by omega
    rw[this,List.getElem?_cons_succ]
   ·rw[ab h2,ab (by simp;omega)]
theorem l8{α:Type}(l:List α):∀k,yp l k=l[k]?:=by
 induction l with
 |nil=>intro k;rfl
 |cons h t ih=>
  intro k;show(Bool.rec (motive:=fun _=>Option α) (yp t (Nat.sub k 1)) (some h) (Nat.beq k 0))=_;rw[bb,bK];cases k with
  |zero=>rfl
  |succ k=>simp only[decide_eq_true_eq];rw[ab (by omega)];show yp t (k+1-1)=_;rw[Nat.add_sub_cancel,ih];rfl
theorem lD(n:Nat):∀x,(bl n x).length=n:=by
 induction n with
 |zero=>intro x;rfl
 |succ n ih=>intro x;simp[bl,ih]
theorem ec(n x:Nat):(ba n x).size=n:=by
 show(bl n x).toArray.size=n
 simp[lD]
theorem Ei(n:Nat):∀(x i:Nat),i<n→(bl n x)[i]?=some (UInt8.ofNat (x/256^i%256)):=by
 induction n with
 |zero=>intro x i h;omega
 |succ n ih=>
  intro x i h;cases i with
  |zero=>simp[bl]
  |succ i=>
   rw[bl,List.getElem?_cons_succ,ih _ _ (by omega),Nat.div_div_eq_div_mul];rw[show 256*256^i=256^(i+1) by rw[Nat.pow_succ,Nat.mul_comm]]
theorem vL(n:Nat):∀(x:Nat),bl n (x%256^n)=bl n x:=by
 induction n with
 |zero=>intro x;rfl
 |succ n ih=>
  intro x;rw[bl,bl];have hp:(256:Nat)^(n+1)=256*256^n:=by rw[Nat.pow_succ,Nat.mul_comm]
  rw[hp,Nat.mod_mul];have h1:(x%256+256*(x/256%256^n))%256=x%256:=by omega
  have h2:(x%256+256*(x/256%256^n))/256=x/256%256^n:=by
   rw[Nat.add_mul_div_left _ _ (by decide)];omega
  rw[h1,h2,ih]
theorem LF(n:Nat):∀(m x y:Nat),bl (n+m) (x%256^n+256^n*y)=bl n x++bl m y:=by
 induction n with
 |zero=>intro m x y;simp[bl,Nat.mod_one]
 |succ n ih=>
  intro m x y;have hp:(256:Nat)^(n+1)=256*256^n:=by rw[Nat.pow_succ,Nat.mul_comm]
  rw[show n+1+m=(n+m)+1 by omega,bl,bl,List.cons_append,←ih];have e:x%256^(n+1)+256^(n+1)*y=x%256+256*(x/256%256^n+256^n*y):=by
   rw[hp,Nat.mod_mul,Nat.mul_add,Nat.mul_assoc,Nat.add_assoc]
  rw[e];have h1:(x%256+256*(x/256%256^n+256^n*y))%256=x%256:=by omega
  have h2:(x%256+256*(x/256%256^n+256^n*y))/256=x/256%256^n+256^n*y:=by
   rw[Nat.add_mul_div_left _ _ (by decide)];omega
  rw[h1,h2]
theorem am3(l:Nat):∀(n x:Nat),l≤n→(bl n x).drop l=bl (n-l) (x/256^l):=by
 induction l with
 |zero=>intro n x _;simp
 |succ l ih=>
  intro n x h;obtain⟨m,rfl⟩:∃m,n=m+1:=⟨n-1,by omega⟩
  rw[bl,List.drop_succ_cons,ih _ _ (by omega),Nat.div_div_eq_div_mul,show m+1-(l+1)=m-l by omega];rw[show 256*256^l=256^(l+1) by rw[Nat.pow_succ,Nat.mul_comm]]
theorem Aa(n:Nat):∀(m x:Nat),n≤m→(bl m x).take n=bl n x:=by
 induction n with
 |zero=>intro m x _;simp[bl]
 |succ n ih=>
  intro m x h;obtain⟨k,rfl⟩:∃k,m=k+1:=⟨m-1,by omega⟩
  rw[bl,bl,List.take_succ_cons,ih _ _ (by omega)]
theorem WO(n:Nat):∀(x y:Nat),bl n x=bl n y→x%256^n=y%256^n:=by
 induction n with
 |zero=>intro x y _;simp[Nat.mod_one]
 |succ n ih=>
  intro x y h;rw[bl,bl,List.cons.injEq]at h;have hp:(256:Nat)^(n+1)=256*256^n:=by rw[Nat.pow_succ,Nat.mul_comm]
  rw[hp,Nat.mod_mul,Nat.mod_mul,ih _ _ h.2];have h1:x%256=y%256:=by
   have:=congrArg UInt8.toNat h.1
   simpa [UInt8.toNat_ofNat']using this
  rw[h1]
theorem oZ(n x m y:Nat):pK n x m y=decide (bl n x=bl m y):=by
 show(Bool.rec (motive:=fun _=>Bool) false (Nat.beq (Nat.mod x (jn n)) (Nat.mod y (jn n))) (Nat.beq n m))=_
 rw[bb,bK,bK]
 by_cases h:n=m
 ·subst h;rw[ae (by simp)];rw[Bool.eq_iff_iff,decide_eq_true_iff,decide_eq_true_iff];constructor
  ·intro e;have e':x%256^n=y%256^n:=e;rw[←vL n x,←vL n y,e']
  ·exact fun e=>WO n x y e
 ·rw[ab (by simpa using h)]
  symm
  rw[decide_eq_false_iff_not];intro e;have:=congrArg List.length e;rw[lD,lD]at this;exact h this
theorem mP(l:List UInt8):bl l.length (cN l)=l:=by
 induction l with
 |nil=>rfl
 |cons c l ih=>
  have h0:=UInt8.toNat_lt c;rw[aP,bl,cN];have h1:(c.toNat+256*cN l)%256=c.toNat:=by omega
  have h2:(c.toNat+256*cN l)/256=cN l:=by omega
  rw[h1,h2,ih]
  congr 1
  exact UInt8.ofNat_toNat
def pr2(x y:Nat):Nat:=2^x*(2*y+1)
theorem AF:∀{x y x' y':Nat},pr2 x y=pr2 x' y'→x=x'∧y=y'
 |0,y,0,y',h=>by unfold pr2 at h;simp at h;exact⟨rfl,by omega⟩
 |0,y,x'+1,y',h=>by
  unfold pr2 at h;rw[Nat.pow_succ,Nat.mul_comm (2^x') 2,Nat.mul_assoc]at h;omega
 |x+1,y,0,y',h=>by
  unfold pr2 at h;rw[Nat.pow_succ,Nat.mul_comm (2^x) 2,Nat.mul_assoc]at h;omega
 |x+1,y,x'+1,y',h=>by
  unfold pr2 at h;rw[Nat.pow_succ,Nat.mul_comm (2^x) 2,Nat.mul_assoc,Nat.pow_succ,Nat.mul_comm (2^x') 2,Nat.mul_assoc]at h;obtain⟨h1,h2⟩:=AF (x:=x) (x':=x') (y:=y) (y':=y') (by unfold pr2;omega);exact⟨by omega,h2⟩
def BP(a:Addr):Nat:=pr2 a.block (pr2 a.off (match a.spot with|none=>0|some k=>k+1))
theorem ag2{a a':Addr}(h:BP a=BP a'):a=a':=by
 obtain⟨b,o,s⟩:=a
 obtain⟨b',o',s'⟩:=a'
 obtain⟨h1,h2⟩:=AF h
 obtain⟨h3,h4⟩:=AF h2
 have h1':b=b':=h1
 have h3':o=o':=h3
 subst h1' h3'
 cases s<;>cases s'<;>simp at h4<;>first|rfl|(subst h4;rfl)
open Classical in
def adD(n:Nat):Addr:=if h:∃a,BP a=n then h.choose else⟨0,0,none⟩
theorem ck5(a:Addr):adD (BP a)=a:=by
 unfold adD
 rw[dif_pos ⟨a,rfl⟩]
 exact ag2 (Exists.choose_spec (p:=fun x=>BP x=BP a) ⟨a,rfl⟩)
structure dj where
 ρ:Nat→Nat
 β:Nat→Nat
 κ:Nat→Nat
mutual
def conc(E:dj):V→Value
 | .b x=> .bool x
 | .i k n=> .int k n
 | .s n x=> .string (ba n x)
 | .p b o=> .pointer (some ⟨E.ρ b,E.β b+o,none⟩)
 | .p0=> .pointer none
 | .l b o n c=> .slice (some ⟨E.ρ b,E.β b+o,none⟩) n c
 | .u b o n el kn=> .slice (some ⟨E.ρ b,E.β b+o,none⟩) n (kn-el+E.κ b)
 | .ue b o0 o=> .slice (some (if E.κ b=0 then(if o<o0 then adD b else⟨E.ρ b,E.β b+o0,none⟩)else⟨E.ρ b,E.β b+o,none⟩)) 0 (E.κ b)
 | .l0=> .slice none 0 0
 | .m b=> .map (some (E.ρ b))
 | .m0=> .map none
 | .f fn a c=> .func (.func fn) (aB E a).toArray (aB E c).toArray
 | .y b=> .func (.yield (E.ρ b)) #[] #[]
 | .f0=> .nilFunc
 | .a t v=> .iface t (conc E v)
 | .a0=> .nilIface
 | .g cs=> .agg (aB E cs).toArray
 | .t cs=> .tuple (aB E cs).toArray
def aB(E:dj):List V→List Value
 |[]=>[]
 |v::l=>conc E v::aB E l
end
theorem bC(E:dj)(l:List V):aB E l=l.map (conc E):=by
 induction l with
 |nil=>rfl
 |cons v l ih=>simp[aB,ih]
mutual
def bd(c:Nat→Prop):V→Prop
 | .p b _| .l b _ _ _| .u b _ _ _ _| .ue b _ _| .m b| .y b=>c b
 | .f _ a d=>i9 c a∧i9 c d
 | .a _ v=>bd c v
 | .g cs| .t cs=>i9 c cs
 |_=>True
def i9(c:Nat→Prop):List V→Prop
 |[]=>True
 |v::l=>bd c v∧i9 c l
end
theorem kK(c:Nat→Prop)(l:List V):i9 c l↔ ∀v∈l,bd c v:=by
 induction l with
 |nil=>simp[i9]
 |cons v l ih=>simp[i9,ih]
structure qP(c:Nat→Prop)(E E':dj):Prop where
 ρ:∀b,c b→E'.ρ b=E.ρ b
 β:∀b,c b→E'.β b=E.β b
 κ:∀b,c b→E'.κ b=E.κ b
theorem qP.refl(c:Nat→Prop)(E:dj):qP c E E:=⟨fun _ _=>rfl,fun _ _=>rfl,fun _ _=>rfl⟩
theorem qP.trans{c d:Nat→Prop}{E E' E'':dj}(h:qP c E E')(h':qP d E' E'')(hc:∀b,c b→d b):qP c E E'':=
 ⟨fun b hb=>(h'.ρ b (hc b hb)).trans (h.ρ b hb),fun b hb=>(h'.β b (hc b hb)).trans (h.β b hb),fun b hb=>(h'.κ b (hc b hb)).trans (h.κ b hb)⟩
theorem qP.sub{c d:Nat→Prop}{E E':dj}(h:qP d E E')(hc:∀b,c b→d b):qP c E E':=
 ⟨fun b hb=>h.ρ b (hc b hb),fun b hb=>h.β b (hc b hb),fun b hb=>h.κ b (hc b hb)⟩
mutual
theorem dO{c:Nat→Prop}{E E':dj}(h:qP c E E'):∀v,bd c v→conc E' v=conc E v
 | .b _,_| .i _ _,_| .s _ _,_| .p0,_| .l0,_| .m0,_| .f0,_| .a0,_=>rfl
 | .p b o,hb=>by simp only[conc];rw[h.ρ b hb,h.β b hb]
 | .l b o n k,hb=>by simp only[conc];rw[h.ρ b hb,h.β b hb]
 | .u b o n el kn,hb=>by simp only[conc];rw[h.ρ b hb,h.β b hb,h.κ b hb]
 | .ue b o0 o,hb=>by simp only[conc];rw[h.ρ b hb,h.β b hb,h.κ b hb]
 | .m b,hb=>by simp only[conc];rw[h.ρ b hb]
 | .y b,hb=>by simp only[conc];rw[h.ρ b hb]
 | .f fn a d,hb=>by simp only[conc];rw[lF h a hb.1,lF h d hb.2]
 | .a t v,hb=>by simp only[conc];rw[dO h v hb]
 | .g cs,hb=>by simp only[conc];rw[lF h cs hb]
 | .t cs,hb=>by simp only[conc];rw[lF h cs hb]
theorem lF{c:Nat→Prop}{E E':dj}(h:qP c E E'):∀l,i9 c l→aB E' l=aB E l
 |[],_=>rfl
 |v::l,hb=>by simp only[aB];rw[dO h v hb.1,lF h l hb.2]
end
mutual
theorem dZ{c d:Nat→Prop}(h:∀b,c b→d b):∀v,bd c v→bd d v
 | .b _,_| .i _ _,_| .s _ _,_| .p0,_| .l0,_| .m0,_| .f0,_| .a0,_=>trivial
 | .p _ _,hb=>h _ hb
 | .l _ _ _ _,hb=>h _ hb
 | .u _ _ _ _ _,hb=>h _ hb
 | .ue _ _ _,hb=>h _ hb
 | .m _,hb=>h _ hb
 | .y _,hb=>h _ hb
 | .f _ a e,hb=>⟨lC h a hb.1,lC h e hb.2⟩
 | .a _ v,hb=>dZ h v hb
 | .g cs,hb=>lC h cs hb
 | .t cs,hb=>lC h cs hb
theorem lC{c d:Nat→Prop}(h:∀b,c b→d b):∀l,i9 c l→i9 d l
 |[],_=>trivial
 |v::l,hb=>⟨dZ h v hb.1,lC h l hb.2⟩
end
def Sim(P:Program)(nt:Nat)(c:Code)(cc:CC):Prop:=∃n,kM P nt n c=some cc
def sD(E:dj)(t:T)(tmps:Array Value):Prop:=∀n,tmps.getD n Go.undef=conc E (cS t (bJ n))
def WE(c:Nat→Prop)(t:T):Prop:=∀p,bd c (cS t p)
def cG8:LS→LoopState
 | .ready=> .ready
 | .busy=> .busy
 | .done=> .done
 | .exhausted=> .exhausted
def Fe:pW→Option Code
 | .none=>none
 | .ret=>some .ret
 | .ext id=>some (.exit id)
def entry(E:dj)(e:V×V×Nat):MapEntry:={key:=conc E e.1,val:=conc E e.2.1,born:=e.2.2}
def vv(fr:Nat×Nat)(k size:Nat):Prop:=∀o,k≤o→o<size→ ¬(fr.1≤o∧o<fr.2)
structure jU(P:Program)(E:dj)(b ty n:Nat)(ex:Bool)(fz:Nat)(str:Bool)(d:List V)(c:T)(arr:Array Value)(fr:Nat×Nat):Prop where
 cell:∀k v,cell n d c k=some v→arr[E.β b+k]?=some (conc E v)
 size:if ex then E.β b=0∧arr.size=n else arr.size=E.β b+n+E.κ b*P.cellsOf ty
 free:vv fr (E.β b+fz) arr.size
 plain:str=false→fr.1=fr.2∨(fz≠0∧fr.2≤E.β b+fz)
def ft(P:Program)(E:dj)(b:Nat)(blk:bL)(o:Obj):Prop:=
 match blk with
 | .cells ty n ex fz str d c=>∃arr fr,o= .cells arr ty fr∧jU P E b ty n ex fz str d c arr fr
 | .map es clock=>o= .map (es.map (entry E)).toArray clock
 | .loop s pe fn tm ps asg body dn=>∃(fn':FuncId) (tmps:Array Value) (params:Array Tmp) (ca cb:Code),
   o= .loop {state:=cG8 s,pending:=Fe pe,fn:=fn',tmps,params,assign:=ca,body:=cb,defers:=E.ρ dn}∧
   sD E tm tmps∧params.toList.map bJ=ps∧ ∃nt,nt≤tmps.size∧(∀p∈params.toList,p<nt)∧Sim P nt ca asg∧Sim P nt cb body
 | .defs taken=>o= .deferred (if taken then none else some [])
 | .siter n s pos=>E.β b=0∧o= .stringIter (ba n s) pos
 | .miter m since seen stepped=>E.β b=0∧o= .mapIter (m.map E.ρ) since seen.toArray stepped
def fw(c:Nat→Prop)(blk:bL):Prop:=
 match blk with
 | .cells _ n _ _ _ d t=>∀k v,cell n d t k=some v→bd c v
 | .map es _=>∀e∈es,bd c e.1∧bd c e.2.1
 | .loop _ _ _ tm _ _ _ dn=>WE c tm∧c dn
 | .defs _=>True
 | .siter _ _ _=>True
 | .miter m _ _ _=>∀b,m=some b→c b
structure ku(P:Program)(E:dj)(F:RO)(M:Mem)(c:Nat→Prop)(w:World):Prop where
 has:∀b blk,look F M b=some blk→c b∧fw c blk∧ ∃o,w.heap[E.ρ b]?=some o∧ft P E b blk o
 inj:∀b b',(look F M b).isSome→(look F M b').isSome→E.ρ b=E.ρ b'→b=b'
 apart:∀b,(be F b).isSome→M.get b=none
structure mY(P:Program)(F:RO)(E:dj)(M:Mem)(c:Nat→Prop)(w:World)(E':dj)(M':Mem)(c':Nat→Prop)(w':World):Prop where
 ext:qP c E E'
 le:∀b,c b→c' b
 rel:ku P E' F M' c' w'
 own:∀b,(M'.get b).isSome→(∃b0,(M.get b0).isSome∧E.ρ b0=E'.ρ b)∨w.heap.size≤E'.ρ b
 frame:∀r,r<w.heap.size→(∀b,(M.get b).isSome→E.ρ b≠r)→w'.heap[r]?=w.heap[r]?
 size:w.heap.size≤w'.heap.size
 os:w'.os=w.os
 output:w'.output=w.output
 tape:w'.tape=w.tape
theorem mY.refl{P:Program}{F:RO}{E:dj}{M:Mem}{c:Nat→Prop}{w:World}(h:ku P E F M c w):mY P F E M c w E M c w:=
 ⟨.refl c E,fun _ h=>h,h,fun b hb=> .inl ⟨b,hb,rfl⟩,fun _ _ _=>rfl,ak _,rfl,rfl,rfl⟩
theorem mY.trans{P:Program}{F:RO}{E E₁ E₂:dj}{M M₁ M₂:Mem}{c c₁ c₂:Nat→Prop}{w w₁ w₂:World}
 (h:mY P F E M c w E₁ M₁ c₁ w₁) (h':mY P F E₁ M₁ c₁ w₁ E₂ M₂ c₂ w₂):mY P F E M c w E₂ M₂ c₂ w₂ where
 ext:=h.ext.trans h'.ext h.le
 le:=fun b hb=>h'.le b (h.le b hb)
 rel:=h'.rel
 own:=by
  intro b hb;rcases h'.own b hb with⟨b1,h1,e1⟩|h1
  ·rcases h.own b1 h1 with⟨b0,h0,e0⟩|h0
   ·exact .inl ⟨b0,h0,e0.trans e1⟩
   ·exact .inr (e1▸h0)
  ·exact .inr (bF h.size h1)
 frame:=by
  intro r hr hn;rw[h'.frame r (Nat.lt_of_lt_of_le hr h.size),h.frame r hr hn];intro b1 h1 e;rcases h.own b1 h1 with⟨b0,h0,e0⟩|h0
  ·exact hn b0 h0 (e0.trans e)
  ·omega
 size:=bF h.size h'.size
 os:=h'.os.trans h.os
 output:=h'.output.trans h.output
 tape:=h'.tape.trans h.tape
theorem ay{F:RO}{M:Mem}{b:Nat}{blk:bL}(h:M.get b=some blk):look F M b=some blk:=by
 show Option.rec (motive:=fun _=>Option bL) (be F b) (fun b=>some b) (M.get b)=_
 rw[h]
theorem aQ{F:RO}{M:Mem}{b:Nat}(h:M.get b=none):look F M b=be F b:=by
 show Option.rec (motive:=fun _=>Option bL) (be F b) (fun b=>some b) (M.get b)=_
 rw[h]
theorem ey{F:RO}{M M':Mem}{b:Nat}(h:M'.get b=M.get b):look F M' b=look F M b:=by
 show Option.rec (motive:=fun _=>Option bL) (be F b) (fun b=>some b) (M'.get b)=Option.rec (motive:=fun _=>Option bL) (be F b) (fun b=>some b) (M.get b)
 rw[h]
theorem pF{F:RO}{M:Mem}{b:Nat}(h:(M.get b).isSome):(look F M b).isSome:=by
 obtain⟨x,hx⟩:=bM.1 h
 rw[ay hx];rfl
theorem jU.ext{P:Program}{E E':dj}{b ty n fz:Nat}{ex str:Bool}{d:List V}{c:T}{arr:Array Value}{fr:Nat×Nat}{k:Nat→Prop}
 (h:jU P E b ty n ex fz str d c arr fr) (he:qP k E E') (hb:k b) (hv:∀i v,Ev.cell n d c i=some v→bd k v):
 jU P E' b ty n ex fz str d c arr fr where
 cell:=fun i v hi=>by rw[he.β b hb,dO he v (hv i v hi)];exact h.cell i v hi
 size:=by rw[he.β b hb,he.κ b hb];exact h.size
 free:=by rw[he.β b hb];exact h.free
 plain:=by rw[he.β b hb];exact h.plain
theorem sD.ext{E E':dj}{t:T}{tmps:Array Value}{k:Nat→Prop}(h:sD E t tmps)(he:qP k E E')(hb:WE k t):sD E' t tmps:=
 fun n=>by rw[h n,dO he _ (hb _)]
theorem LW{E E':dj}{k:Nat→Prop}(he:qP k E E'){e:V×V×Nat}(h:bd k e.1∧bd k e.2.1):entry E' e=entry E e:=by
 simp only[entry];rw[dO he _ h.1,dO he _ h.2]
theorem ft.ext{P:Program}{E E':dj}{b:Nat}{blk:bL}{o:Obj}{k:Nat→Prop}(h:ft P E b blk o)(he:qP k E E')(hb:k b)(hv:fw k blk):ft P E' b blk o:=by
 cases blk with
 |cells ty n ex fz str d c=>
  obtain⟨arr,fr,rfl,hc⟩:=h;exact⟨arr,fr,rfl,hc.ext he hb hv⟩
 |map es clock=>
  show o=_;rw[show es.map (entry E')=es.map (entry E)from List.map_congr_left fun e he'=>LW he (hv e he')];exact h
 |loop s pe fn tm ps asg body dn=>
  obtain⟨fn',tmps,params,ca,cb,rfl,ht,hp,hq⟩:=h;refine⟨fn',tmps,params,ca,cb,?_,ht.ext he hv.1,hp,hq⟩;rw[he.ρ dn hv.2]
 |defs taken=>exact h
 |siter n s pos=>exact⟨by rw[he.β b hb];exact h.1,h.2⟩
 |miter m since seen stepped=>
  refine⟨by rw[he.β b hb];exact h.1,?_⟩;rw[show m.map E'.ρ=m.map E.ρ by
   cases m with
   |none=>rfl
   |some b=>simp only[Option.map_some];rw[he.ρ b (hv b rfl)]]
  exact h.2
theorem fH{c d:Nat→Prop}(h:∀b,c b→d b)(blk:bL)(hb:fw c blk):fw d blk:=by
 cases blk with
 |cells ty n ex fz str dd t=>exact fun k v hk=>dZ h v (hb k v hk)
 |map es clock=>exact fun e he=>⟨dZ h _ (hb e he).1,dZ h _ (hb e he).2⟩
 |loop s pe fn tm ps asg body dn=>exact⟨fun p=>dZ h _ (hb.1 p),h _ hb.2⟩
 |defs taken=>trivial
 |siter n s pos=>trivial
 |miter m since seen stepped=>exact fun b e=>h _ (hb b e)
theorem ku.alloc{P:Program}{E:dj}{F:RO}{M:Mem}{c:Nat→Prop}{w:World}(h:ku P E F M c w)(blk:bL)(o:Obj)(b κ':Nat)(c':Nat→Prop)(hbc:¬c b)(hbc':c' b)(hcc:∀b,c b→c' b)
 (hbd:fw c' blk) (w':World) (hh:w'.heap=w.heap.push o) (hos:w'.os=w.os) (hout:w'.output=w.output) (htape:w'.tape=w.tape)
 (hr:∀E':dj,qP c E E'→E'.ρ b=w.heap.size→E'.β b=0→E'.κ b=κ'→ft P E' b blk o):
 ∃E',mY P F E M c w E' (M.set b blk) c' w'∧qP (· ≠b) E E'∧E'.ρ b=w.heap.size∧E'.β b=0∧E'.κ b=κ':=by
 let E':dj:=⟨fun x=>if x=b then w.heap.size else E.ρ x,fun x=>if x=b then 0 else E.β x,fun x=>if x=b then κ' else E.κ x⟩
 have he:qP (· ≠b) E E':=⟨fun x hx=>ab hx,fun x hx=>ab hx,fun x hx=>ab hx⟩
 have hec:qP c E E':=he.sub fun x hx e=>hbc (e▸hx)
 have hρ:E'.ρ b=w.heap.size:=ae rfl
 have hold:∀x y,look F (M.set b blk) x=some y→x≠b→look F M x=some y:=by
  intro x y hx hne;rw[ey (M:=M) (by rw[Tr.get_set,ab hne])]at hx;exact hx
 have hlt:∀x y,look F M x=some y→E.ρ x<w.heap.size:=by
  intro x y hx;obtain⟨_,_,o',ho',_⟩:=h.has x y hx;exact(Array.getElem?_eq_some_iff.1 ho').1
 have hnew:look F M b=none:=by
  cases hl:look F M b with
  |none=>rfl
  |some y=>exact absurd (h.has b y hl).1 hbc
 refine⟨E',⟨hec,hcc,⟨?_,?_,?_⟩,?_,?_,?_,hos,hout,htape⟩,he,hρ,ae rfl,ae rfl⟩
 ·intro x y hx;by_cases hxb:x=b
  ·subst hxb;rw[ay (by rw[Tr.get_set,ae rfl])]at hx;obtain rfl:blk=y:=by simpa using hx
   exact⟨hbc',hbd,o,by rw[hρ,hh,Array.getElem?_push_size],hr E' hec hρ (ae rfl) (ae rfl)⟩
  ·have hx':=hold x y hx hxb;obtain⟨h1,h2,o',h3,h4⟩:=h.has x y hx';refine⟨hcc x h1,fH hcc y h2,o',?_,h4.ext hec h1 h2⟩;rw[hec.ρ x h1,hh,Array.getElem?_push_lt (hlt x y hx'),←Array.getElem?_eq_getElem (hlt x y hx')];exact h3
 ·intro x x' hx hx' e;by_cases h1:x=b
  ·by_cases h2:x'=b
   ·rw[h1,h2]
   ·exfalso;obtain⟨y,hy⟩:=bM.1 hx';have hy':=hold x' y hy h2;rw[h1,hρ,hec.ρ x' (h.has x' y hy').1]at e;have:=hlt x' y hy';omega
  ·obtain⟨y,hy⟩:=bM.1 hx;have hy1:=hold x y hy h1;by_cases h2:x'=b
   ·exfalso;rw[h2,hρ,hec.ρ x (h.has x y hy1).1]at e;have:=hlt x y hy1;omega
   ·obtain⟨y',hy'⟩:=bM.1 hx';have hy2:=hold x' y' hy' h2;rw[hec.ρ x (h.has x y hy1).1,hec.ρ x' (h.has x' y' hy2).1]at e;exact h.inj x x' (by rw[hy1];rfl) (by rw[hy2];rfl) e
 ·intro x hx;rw[Tr.get_set];have hne:x≠b:=by
   intro e;rw[e]at hx;obtain⟨y,hy⟩:=bM.1 hx;have hM:M.get b=none:=h.apart b hx;rw[aQ hM,hy]at hnew;cases hnew
  rw[ab hne];exact h.apart x hx
 ·intro x hx;rw[Tr.get_set]at hx;by_cases hxb:x=b
  ·exact .inr (by rw[hxb,hρ];exact ak _)
  ·rw[ab hxb]at hx;obtain⟨y,hy⟩:=bM.1 hx;exact .inl ⟨x,hx,(hec.ρ x (h.has x y (ay hy)).1).symm⟩
 ·intro r hr' _;rw[hh,Array.getElem?_push_lt hr',←Array.getElem?_eq_getElem hr']
 ·rw[hh];simp
theorem ku.write{P:Program}{E:dj}{F:RO}{M:Mem}{c:Nat→Prop}{w:World}(h:ku P E F M c w)(b:Nat)(blk blk':bL)(hb:M.get b=some blk)(o':Obj)
 (hbd:fw c blk') (w':World) (hh:w'.heap=w.heap.setIfInBounds (E.ρ b) o') (hos:w'.os=w.os) (hout:w'.output=w.output) (htape:w'.tape=w.tape)
 (hr:ft P E b blk' o'):mY P F E M c w E (M.set b blk') c w':=by
 have hlt:E.ρ b<w.heap.size:=by
  obtain⟨_,_,o,ho,_⟩:=h.has b blk (ay hb);exact(Array.getElem?_eq_some_iff.1 ho).1
 have hsome:∀x,(look F (M.set b blk') x).isSome→(look F M x).isSome:=by
  intro x hx;by_cases e:x=b
  ·rw[e,ay hb];rfl
  ·rwa [ey (M:=M) (by rw[Tr.get_set,ab e])]at hx
 refine⟨.refl c E,fun _ h=>h,⟨?_,?_,?_⟩,?_,?_,?_,hos,hout,htape⟩
 ·intro x y hx;by_cases e:x=b
  ·subst e;rw[ay (by rw[Tr.get_set,ae rfl])]at hx;obtain rfl:blk'=y:=by simpa using hx
   exact⟨(h.has x blk (ay hb)).1,hbd,o',by rw[hh];simp[hlt],hr⟩
  ·have hx':look F M x=some y:=by rwa [ey (M:=M) (by rw[Tr.get_set,ab e])]at hx
   obtain⟨h1,h2,o,h3,h4⟩:=h.has x y hx';refine⟨h1,h2,o,?_,h4⟩;have hne:E.ρ b≠E.ρ x:=fun e'=>e (h.inj b x (by rw[ay hb];rfl) (by rw[hx'];rfl) e').symm;rw[hh,Array.getElem?_setIfInBounds_ne hne];exact h3
 ·exact fun x x' hx hx' e=>h.inj x x' (hsome x hx) (hsome x' hx') e
 ·intro x hx;have hM:=h.apart x hx;have hne:x≠b:=by intro e;rw[e,hb]at hM;cases hM
  rw[Tr.get_set,ab hne];exact hM
 ·intro x hx;rw[Tr.get_set]at hx;by_cases e:x=b
  ·exact .inl ⟨b,by rw[hb];rfl,by rw[e]⟩
  ·rw[ab e]at hx;exact .inl ⟨x,hx,rfl⟩
 ·intro r _ hn;have hne:E.ρ b≠r:=hn b (by rw[hb];rfl);rw[hh,Array.getElem?_setIfInBounds_ne hne]
 ·rw[hh];simp
theorem ku.world{P:Program}{E:dj}{F:RO}{M:Mem}{c:Nat→Prop}{w w':World}(h:ku P E F M c w)(hh:w'.heap=w.heap):ku P E F M c w':=
 ⟨fun b blk hb=>let⟨h1,h2,o,h3,h4⟩:=h.has b blk hb;⟨h1,h2,o,by rw[hh];exact h3,h4⟩,h.inj,h.apart⟩
theorem ku.more{P:Program}{E:dj}{F:RO}{M:Mem}{c c':Nat→Prop}{w:World}(h:ku P E F M c w)(hc:∀b,c b→c' b):ku P E F M c' w:=
 ⟨fun b blk hb=>let⟨h1,h2,h3⟩:=h.has b blk hb;⟨hc _ h1,fH hc blk h2,h3⟩,h.inj,h.apart⟩
theorem mY.world{P:Program}{F:RO}{E E':dj}{M M':Mem}{c c':Nat→Prop}{w w' w'':World}(h:mY P F E M c w E' M' c' w')(hh:w''.heap=w'.heap)
 (hos:w''.os=w'.os) (hout:w''.output=w'.output) (htape:w''.tape=w'.tape):mY P F E M c w E' M' c' w'':=
 ⟨h.ext,h.le,h.rel.world hh,h.own,fun r hr hn=>by rw[hh];exact h.frame r hr hn,by rw[hh];exact h.size,hos.trans h.os,hout.trans h.output,htape.trans h.tape⟩
mutual
theorem oz(E:dj)(c:Nat→Prop):∀(n:Nat) (v:Value) (x:V),toV n v=some x→conc E x=v∧bd c x:=by
 intro n
 cases n with
 |zero=>intro v x h;simp[toV]at h
 |succ n=>
  intro v x h;rw[toV.eq_def]at h;dsimp only at h;split at h
  ·obtain rfl:=ag h;exact⟨rfl,trivial⟩
  ·obtain rfl:=ag h;exact⟨rfl,trivial⟩
  ·rename_i s;obtain rfl:=ag h;refine⟨?_,trivial⟩;simp only[conc,ba];rw[mP]
  ·obtain rfl:=ag h;exact⟨rfl,trivial⟩
  ·obtain rfl:=ag h;exact⟨rfl,trivial⟩
  ·obtain rfl:=ag h;exact⟨rfl,trivial⟩
  ·obtain rfl:=ag h;exact⟨rfl,trivial⟩
  ·obtain rfl:=ag h;exact⟨rfl,trivial⟩
  ·rename_i t v;obtain⟨y,hy,rfl⟩:=aX.1 h;have:=oz E c n v y hy;exact⟨by simp only[conc];rw[this.1],this.2⟩
  ·rename_i cs;obtain⟨y,hy,rfl⟩:=aX.1 h;have:=tw E c n cs.toList y hy;exact⟨by simp only[conc];rw[this.1],this.2⟩
  ·rename_i cs;obtain⟨y,hy,rfl⟩:=aX.1 h;have:=tw E c n cs.toList y hy;exact⟨by simp only[conc];rw[this.1],this.2⟩
  ·rename_i f first caps
   split at h
   ·rename_i hh;obtain rfl:=ag h;simp only[aC,Array.isEmpty_iff]at hh;refine⟨?_,trivial,trivial⟩;rw[hh.1,hh.2];rfl
   ·cases h
  ·cases h
theorem tw(E:dj)(c:Nat→Prop):∀(n:Nat) (l:List Value) (x:List V),FE n l=some x→aB E x=l∧i9 c x:=by
 intro n
 cases n with
 |zero=>intro v x h;simp[FE]at h
 |succ n=>
  intro l x h;cases l with
  |nil=>
   rw[FE.eq_def]at h;obtain rfl:=ag h;exact⟨rfl,trivial⟩
  |cons v l=>
   rw[FE.eq_def]at h;dsimp only at h;split at h
   ·rename_i y r hy hr;obtain rfl:=ag h;have h1:=oz E c n v y hy;have h2:=tw E c n l r hr;exact⟨by simp only[aB];rw[h1.1,h2.1],h1.2,h2.2⟩
   ·cases h
end
structure Cx(P:Program)(E:dj)(F:RO)(M:Mem)(c:Nat→Prop)(w:World)(t:T)(a:Act):Prop where
 rel:ku P E F M c w
 glob:∀g,g<1000→E.ρ g=g∧E.β g=0
 big:∀g,g<1000→c g
 tr:sD E t a.tmps
 bt:WE c t
section
variable{P:Program}{E:dj}{F:RO}{M:Mem}{c:Nat→Prop}{w:World}{t:T}{a:Act}
theorem X.ev_t(p:aM):(X.t p).ev t=cS t p:=rfl
theorem X.ev_c(v:V):(X.c v).ev t=v:=rfl
theorem Cx.ev(h:Cx P E F M c w t a){o:Operand}{x:X}(hx:bp o=some x):a.eval o=conc E (x.ev t)∧bd c (x.ev t):=by
 cases o with
 |tmp n=>
  obtain rfl:=ag hx;exact⟨h.tr n,h.bt _⟩
 |const v=>
  obtain⟨y,hy,rfl⟩:=aX.1 hx;have:=oz E c _ v y hy;exact⟨this.1.symm,this.2⟩
 |global g=>
  rw[bp]at hx;split at hx
  ·rename_i hg;obtain rfl:=ag hx;have:=h.glob g hg;refine⟨?_,h.big g hg⟩;show Value.pointer (some ⟨g,0,none⟩)= .pointer (some ⟨E.ρ g,E.β g+0,none⟩);rw[this.1,this.2]
  ·cases hx
 |func f=>
  obtain rfl:=ag hx;exact⟨rfl,trivial,trivial⟩
theorem Cx.evs(h:Cx P E F M c w t a):∀{os:List Operand} {xs:List X},jk os=some xs→os.map a.eval=aB E (evs xs t)∧i9 c (evs xs t)
 |[],xs,hx=>by obtain rfl:=ag hx;exact⟨rfl,trivial⟩
 |o::os,xs,hx=>by
  rw[jk]at hx;split at hx
  ·rename_i x r h1 h2;obtain rfl:=ag hx;have e1:=h.ev h1;have e2:=h.evs h2;exact⟨by rw[List.map_cons,e1.1,e2.1];rfl,e1.2,e2.2⟩
  ·cases hx
theorem Cx.cells(h:Cx P E F M c w t a){b ty n fz:Nat}{ex str:Bool}{d:List V}{cs:T}(hb:look F M b=some (.cells ty n ex fz str d cs)):
 ∃arr fr,w.heap[E.ρ b]?=some (.cells arr ty fr)∧jU P E b ty n ex fz str d cs arr fr:=by
 obtain⟨_,_,o,ho,arr,fr,rfl,hr⟩:=h.rel.has _ _ hb
 exact⟨arr,fr,ho,hr⟩
theorem fU{β:Type}{o:Option bL}{f:β}{g:Nat→List V→T→β}{r:β}(h:lX o f g=r)(hf:f≠r):
 ∃ty n ex fz str d cs,o=some (.cells ty n ex fz str d cs)∧g n d cs=r:=by
 cases o with
 |none=>exact absurd h hf
 |some b=>cases b with
  |cells ty n ex fz str d cs=>exact⟨ty,n,ex,fz,str,d,cs,rfl,h⟩
  |_=>exact absurd h hf
theorem Cx.load1(h:Cx P E F M c w t a){b o:Nat}{v:V}(hl:Ev.load1 F M b o=some v):
 w.cell? ⟨E.ρ b,E.β b+o,none⟩=some (conc E v)∧bd c v:=by
 obtain⟨ty,n,ex,fz,str,d,cs,hb,hg⟩:=fU (f:=none) hl (by simp)
 obtain⟨arr,fr,ho,hr⟩:=h.cells hb
 refine⟨?_,(h.rel.has _ _ hb).2.1 o v hg⟩
 simp only[World.cell?,ho,Option.isSome_none,bg,if_false]
 exact hr.cell o v hg
theorem rn(n:Nat)(d:List V)(cs:T)(k:Nat):fx n d cs 0 k=some []:=rfl
theorem jC(n:Nat)(d:List V)(cs:T)(m k:Nat):fx n d cs (m+1) k=match cell n d cs k with
 |none=>none
 |some v=>match fx n d cs m (k+1)with
  |none=>none
  |some l=>some (v::l):=by
 show Option.rec (motive:=fun _=>Option (List V)) none (fun v=>X6 v (fx n d cs m (Nat.succ k))) (cell n d cs k)=_
 cases cell n d cs k with
 |none=>rfl
 |some v=>
  show X6 v (fx n d cs m (k+1))=_;cases fx n d cs m (k+1)<;>rfl
theorem j9{n:Nat}{d:List V}{cs:T}:∀(m k:Nat) (l:List V),fx n d cs m k=some l→l.length=m∧ ∀j v,l[j]?=some v→cell n d cs (k+j)=some v
 |0,k,l,h=>by obtain rfl:=ag h;exact⟨rfl,fun j v hj=>by simp at hj⟩
 |m+1,k,l,h=>by
  rw[jC]at h;split at h
  ·cases h
  ·rename_i v hv;split at h
   ·cases h
   ·rename_i l' hl';obtain rfl:=ag h;have ih:=j9 m (k+1) l' hl';refine⟨by simp[ih.1],fun j x hj=>?_⟩;cases j with
    |zero=>simp at hj;subst hj;exact hv
    |succ j=>simp at hj;rw[show k+(j+1)=k+1+j by omega];exact ih.2 j x hj
theorem Addr.add_eq(r o n:Nat):(⟨r,o,none⟩:Addr).add n=⟨r,o+n,none⟩:=by
 unfold Addr.add
 split
 ·rename_i h;subst h;rfl
 ·rfl
theorem Cx.loadN(h:Cx P E F M c w t a){b o n:Nat}{l:List V}(hl:Ev.loadN F M b o n=some l):
 (loadCells ⟨E.ρ b,E.β b+o,none⟩ n).run P w= .ok (aB E l).toArray w∧i9 c l∧l.length=n:=by
 obtain⟨ty,m,ex,fz,str,d,cs,hb,hg⟩:=fU (f:=none) hl (by simp)
 obtain⟨arr,fr,ho,hr⟩:=h.cells hb
 have hc:=j9 n o l hg
 refine⟨?_,(kK c l).2 fun v hv=>?_,hc.1⟩
 ·have:=run_loadCells_list (P:=P) w ⟨E.ρ b,E.β b+o,none⟩ (aB E l) (fun j v hj=>?_)
  ·rwa [show(aB E l).length=n by rw[bC];simp[hc.1]]at this
  ·rw[Addr.add_eq];rw[bC,List.getElem?_map,aX]at hj;obtain⟨x,hx,rfl⟩:=hj;simp only[World.cell?,ho,Option.isSome_none,bg,if_false];rw[Nat.add_assoc];exact hr.cell _ _ (hc.2 j x hx)
 ·obtain⟨j,hj⟩:=List.mem_iff_getElem?.1 hv;exact(h.rel.has _ _ hb).2.1 _ v (hc.2 j v hj)
theorem aR{d:TypeDesc}{ty:TypeId}(h:P.underlying ty=some d):(underlying ty).run P w= .ok d w:=by
 simp[underlying,h]
theorem zD{ty n:Nat}(h:ea P ty=some n):∃i,P.info? ty=some i∧i.size=n:=by
 obtain⟨i,hi,rfl⟩:=aX.1 h
 exact⟨i,hi,rfl⟩
theorem eA{ty n:Nat}(h:ea P ty=some n):(Go.sizeOf ty).run P w= .ok n w:=by
 obtain⟨i,hi,rfl⟩:=zD h
 simp[Go.sizeOf,typeInfo,hi]
theorem lH{ty:Nat}{r:Bool}(h:uD P ty=some r):(isAgg ty).run P w= .ok r w:=by
 unfold uD at h
 split at h
 ·rename_i hu;obtain rfl:=ag h;simp[isAgg,aR hu]
 ·rename_i hu;obtain rfl:=ag h;simp[isAgg,aR hu]
 ·rename_i d hd1 hd2 hu;obtain rfl:=ag h;have hw:=aR (w:=w) hu
  cases d<;>first
   |exact(hd1 _ rfl).elim
   |exact(hd2 _ _ rfl).elim
   |simp[isAgg,hw]
 ·cases h
end
def QR.val:QR→Option V
 | .f=>none
 | .v x=>some x
 | .r x _=>some x
theorem fe(k:IntKind)(n:Int):vI k n= .v (.i k n):=Jr n _
theorem nu(b:Bool):vB b= .v (.b b):=cC0 b _
theorem bq3(n x:Nat):vS n x= .v (.s n x):=by rw[vS,b9,b9]
theorem du(a b:Int):Oa a b=decide (a=b):=by
 cases a with
 |ofNat x=>cases b with
  |ofNat y=>show Nat.beq x y=_;rw[bK];simp only[Int.ofNat_eq_natCast,Int.natCast_inj]
  |negSucc y=>show false=_;symm;rw[decide_eq_false_iff_not];intro h;cases h
 |negSucc x=>cases b with
  |ofNat y=>show false=_;symm;rw[decide_eq_false_iff_not];intro h;cases h
  |negSucc y=>show Nat.beq x y=_;rw[bK];simp only[Int.negSucc_inj]
theorem gD(a b:Int):MG a b=decide (a<b):=by
 cases a with
 |ofNat x=>cases b with
  |ofNat y=>show Nat.blt x y=_;rw[eT];simp only[Int.ofNat_eq_natCast,Int.ofNat_lt]
  |negSucc y=>show false=_;symm;rw[decide_eq_false_iff_not];intro h;simp only[Int.ofNat_eq_natCast]at h;have:=Int.negSucc_lt_zero y;omega
 |negSucc x=>cases b with
  |ofNat y=>show true=_;symm;rw[decide_eq_true_iff];have:=Int.negSucc_lt_zero x;simp only[Int.ofNat_eq_natCast];omega
  |negSucc y=>show Nat.blt y x=_;rw[eT];congr 1;apply propext;omega
theorem tB(k:IntKind)(n W H:Int)(hs:k.signed=true)(hW:(2:Int)^k.bits=W)(hH:(2:Int)^(k.bits-1)=H):
 k.wrap n=if H≤n%W then n%W-W else n%W:=by
 subst hW hH
 unfold IntKind.wrap
 rw[hs]
 by_cases h:(2:Int)^(k.bits-1)≤n%2^k.bits
 ·simp[h]
 ·simp[h]
theorem oC(k:IntKind)(n W:Int)(hs:k.signed=false)(hW:(2:Int)^k.bits=W):k.wrap n=n%W:=by
 subst hW
 unfold IntKind.wrap
 rw[hs]
 simp
theorem vm(n:Int):De n=IntKind.i64.wrap n:=by
 rw[tB .i64 n 18446744073709551616 9223372036854775808 rfl (by decide) (by decide)]
 unfold De
 simp only[eT,cond_eq_ite,decide_eq_true_eq]
 have:Int.emod n 18446744073709551616=n%18446744073709551616:=rfl
 rw[this]
 have h0:=Int.emod_nonneg n (show(18446744073709551616:Int)≠0 by decide)
 by_cases h:(n%18446744073709551616).toNat<9223372036854775808
 ·rw[ae h,ab (by omega)]
 ·rw[ab h,ae (by omega)];rfl
theorem aa4(n:Int):bx7 n=IntKind.i64.wrap n:=by
 cases n with
 |ofNat m=>
  show(Bool.rec (motive:=fun _=>Int) (De (.ofNat m)) (.ofNat m) (Nat.blt m 9223372036854775808))=_;rw[bb,eT];by_cases h:m<9223372036854775808
  ·rw[ae (by simpa using h),←vm];unfold De;have:Int.emod (Int.ofNat m) 18446744073709551616=(m:Int):=by
    show((m:Int)%18446744073709551616)=m;omega
   simp only[this,eT,cond_eq_ite,decide_eq_true_eq];rw[ae (by omega)];rfl
  ·rw[ab (by simpa using h),vm]
 |negSucc m=>
  show(Bool.rec (motive:=fun _=>Int) (De (.negSucc m)) (.negSucc m) (Nat.blt m 9223372036854775808))=_;rw[bb,eT];by_cases h:m<9223372036854775808
  ·rw[ae (by simpa using h),←vm];unfold De;have:Int.emod (Int.negSucc m) 18446744073709551616=18446744073709551616-1-(m:Int):=by
    show(Int.negSucc m%18446744073709551616)=_;omega
   simp only[this,eT,cond_eq_ite,decide_eq_true_eq];rw[ab (by omega)];show Int.negSucc m=18446744073709551616-1-(m:Int)-18446744073709551616;omega
  ·rw[ab (by simpa using h),vm]
theorem Gh(n:Int)(w h:Nat)(hw:0<w):wrS n w h=if n%(w:Int)≥(h:Int)then n%(w:Int)-w else n%(w:Int):=by
 unfold wrS
 simp only[eT,cond_eq_ite,decide_eq_true_eq]
 have e:Int.emod n (Int.ofNat w)=n%(w:Int):=rfl
 rw[e]
 have h0:=Int.emod_nonneg n (show(w:Int)≠0 by omega)
 by_cases hh:(n%(w:Int)).toNat<h
 ·rw[ae hh,ab (by omega)]
 ·rw[ab hh,ae (by omega)];rfl
theorem jg(k:IntKind)(n:Int):wr k n=k.wrap n:=by
 cases k with
 |i64=>exact aa4 n
 |i8=>
  rw[tB .i8 n 256 128 rfl (by decide) (by decide)];show wrS n 256 128=_;rw[Gh _ _ _ (by decide)];rfl
 |i16=>
  rw[tB .i16 n 65536 32768 rfl (by decide) (by decide)];show wrS n 65536 32768=_;rw[Gh _ _ _ (by decide)];rfl
 |i32=>
  rw[tB .i32 n 4294967296 2147483648 rfl (by decide) (by decide)];show wrS n 4294967296 2147483648=_;rw[Gh _ _ _ (by decide)];rfl
 |u8=>rw[oC .u8 n 256 rfl (by decide)];rfl
 |u16=>rw[oC .u16 n 65536 rfl (by decide)];rfl
 |u32=>rw[oC .u32 n 4294967296 rfl (by decide)];rfl
 |u64=>rw[oC .u64 n 18446744073709551616 rfl (by decide)];rfl
theorem wy(k:IntKind):kd k=k.bits:=by cases k<;>rfl
theorem mT(k:IntKind)(x:Int):toU k x=(BitVec.ofInt k.bits x).toNat:=by
 unfold toU
 rw[BitVec.toNat_ofInt,wy]
 rfl
theorem iR(a b:IntKind):je a b=decide (a=b):=by cases a<;>cases b<;>rfl
theorem iX(b:Bool):t6 b= !b:=by cases b<;>rfl
theorem jW(k:IntKind)(n:Nat):kJ k n= .v (.i k (k.wrap (n:Int))):=by
 unfold kJ;rw[fe,jg];rfl
theorem JQ(k:IntKind):Nat.sub (Nat.pow 2 (kd k)) 1=(BitVec.allOnes k.bits).toNat:=by
 rw[BitVec.toNat_allOnes,wy];rfl
theorem GB(a b:Int):ag3 a b=a+b:=by
 cases a<;>cases b<;>rfl
theorem rM{v:V}{g:Nat→Nat→QR}{x:V}(h:(t8 v .f g).val=some x):∃b o,v= .p b o∧(g b o).val=some x:=by
 cases v with
 |p b o=>exact⟨b,o,rfl,h⟩
 |_=>cases(show(none:Option V)=some x from h)
theorem K0{v:V}{g:Bool→QR}{x:V}(h:(Fa v .f g).val=some x):∃b,v= .b b∧(g b).val=some x:=by
 cases v with
 |b y=>exact⟨y,rfl,h⟩
 |_=>cases(show(none:Option V)=some x from h)
theorem oU{v:V}{g:IntKind→Int→QR}{x:V}(h:(wO v .f g).val=some x):∃k n,v= .i k n∧(g k n).val=some x:=by
 cases v with
 |i k n=>exact⟨k,n,rfl,h⟩
 |_=>cases(show(none:Option V)=some x from h)
theorem oW{v:V}{g:Nat→Nat→QR}{x:V}(h:(tY v .f g).val=some x):∃n y,v= .s n y∧(g n y).val=some x:=by
 cases v with
 |s n y=>exact⟨n,y,rfl,h⟩
 |_=>cases(show(none:Option V)=some x from h)
theorem ve{v:V}{g:List V→QR}{x:V}(h:(Fb v .f g).val=some x):∃l,v= .g l∧(g l).val=some x:=by
 cases v with
 |g l=>exact⟨l,rfl,h⟩
 |_=>cases(show(none:Option V)=some x from h)
theorem xj{o:Option V}{x:V}(h:(qr o).val=some x):o=some x:=by
 cases o with
 |none=>cases(show(none:Option V)=some x from h)
 |some y=>exact h
theorem ax8{b:Nat}{o:Option V}{x:V}(h:(qrb b o).val=some x):o=some x:=by
 cases o with
 |none=>cases(show(none:Option V)=some x from h)
 |some y=>exact h
theorem AN{o:Option (List V)}{x:V}(h:(qg o).val=some x):∃l,o=some l∧x= .g l:=by
 cases o with
 |none=>cases(show(none:Option V)=some x from h)
 |some y=>exact⟨y,rfl,(ag h).symm⟩
theorem ax7{b:Nat}{o:Option (List V)}{x:V}(h:(qgb b o).val=some x):∃l,o=some l∧x= .g l:=by
 cases o with
 |none=>cases(show(none:Option V)=some x from h)
 |some y=>exact⟨y,rfl,(ag h).symm⟩
theorem lA{v:V}{n:Nat}(h:sF v=some n):∃k,v= .i k (n:Int):=by
 cases v with
 |i k m=>cases m with
  |ofNat m=>obtain rfl:m=n:=ag h;exact⟨k,rfl⟩
  |negSucc m=>cases(show(none:Option Nat)=some n from h)
 |_=>cases(show(none:Option Nat)=some n from h)
section
variable{P:Program}{E:dj}{F:RO}{M:Mem}{c:Nat→Prop}{w:World}{t:T}{a:Act}
theorem bf{s:Sem Value}{v:Value}{w':World}(hs:s.run P w= .ok v w'):(s>>=fun v=>pure (Next.value v)).run P w= .ok (.value v) w':=by simp[hs]
abbrev tE(P:Program)(E:dj)(c:Nat→Prop)(w:World)(a:Act)(o:Oper)(x:V):Prop:=(execOp a.eval o).run P w= .ok (.value (conc E x)) w∧bd c x
theorem Yw(h:Cx P E F M c w t a){o:Oper}{y:Operand}(hop:o.op= .move y∨o.op= .assign y){q:QO}(hc:aF P o.op=some (.q q)){x:V}(hx:(dh q F M t).val=some x):tE P E c w a o x:=by
 have hc':(bp y).bind (fun x=>some (OK.q (.mv x)))=some (.q q):=by rcases hop with hop|hop<;>(rw[hop]at hc;exact hc)
 obtain⟨z,hz,e⟩:=bk.1 hc'
 obtain rfl:QO.mv z=q:=by simpa using e
 obtain rfl:z.ev t=x:=ag hx
 have:=h.ev hz
 refine⟨?_,this.2⟩
 rcases hop with hop|hop<;>simp only[execOp,hop,this.1]<;>rfl
theorem bM9(h:Cx P E F M c w t a){o:Oper}{c' p r:Operand}(hop:o.op= .pick c' p r){q:QO}(hc:aF P o.op=some (.q q)){x:V}(hx:(dh q F M t).val=some x):tE P E c w a o x:=by
 rw[hop]at hc
 simp only[aF]at hc
 split at hc
 ·rename_i xc xa xb h1 h2 h3;obtain rfl:QO.pk xc xa xb=q:=by simpa [Ev.q]using hc
  obtain⟨b,hb,hg⟩:=K0 (show(Fa (xc.ev t) .f fun x=>Bool.rec (motive:=fun _=>QR) (.v (xb.ev t)) (.v (xa.ev t)) x).val=some x from hx);have e1:=h.ev h1;have e2:=h.ev h2;have e3:=h.ev h3;rw[hb]at e1;cases b with
  |true=>
   obtain rfl:xa.ev t=x:=ag hg;exact⟨by simp[execOp,hop,e1.1,e2.1,conc,asBool],e2.2⟩
  |false=>
   obtain rfl:xb.ev t=x:=ag hg;exact⟨by simp[execOp,hop,e1.1,e3.1,conc,asBool],e3.2⟩
 ·cases hc
theorem bM8(h:Cx P E F M c w t a){o:Oper}{ty:TypeId}{ad:Operand}(hop:o.op= .load ty ad){q:QO}(hc:aF P o.op=some (.q q)){x:V}(hx:(dh q F M t).val=some x):tE P E c w a o x:=by
 rw[hop]at hc
 simp only[aF]at hc
 split at hc
 ·rename_i n xa h1 h2 h3;obtain rfl:QO.ldn n xa=q:=by simpa [Ev.q]using hc
  obtain⟨b,off,hb,hg⟩:=rM (show(t8 (xa.ev t) .f fun b o=>qgb b (loadN F M b o n)).val=some x from hx);obtain⟨l,hl,rfl⟩:=ax7 hg;have e:=h.ev h3;rw[hb]at e;have hL:=h.loadN hl;refine⟨?_,hL.2.1⟩;simp only[execOp,hop];refine bf ?_;rw[e.1];simp only[Instr.loadAt,conc,Instr.sureAddr,loadVar,aT,aO,aZ,lH h1,Sem.run_ite,if_true,eA h2,hL.1]
 ·rename_i n xa h1 h2 h3;obtain rfl:QO.ld1 xa=q:=by simpa [Ev.q]using hc
  obtain⟨b,off,hb,hg⟩:=rM (show(t8 (xa.ev t) .f fun b o=>qrb b (load1 F M b o)).val=some x from hx);have hl:=ax8 hg;have e:=h.ev h3;rw[hb]at e;have hL:=h.load1 hl;refine⟨?_,hL.2⟩;simp only[execOp,hop];refine bf ?_;rw[e.1];simp only[Instr.loadAt,conc,Instr.sureAddr,loadVar,aT,aO,aZ,lH h1,Sem.run_ite,bg,if_false,run_load,hL.1]
 ·cases hc
theorem Fm(h:Cx P E F M c w t a){o:Oper}{y:Operand}(hop:o.op= .nilCheck y){q:QO}(hc:aF P o.op=some (.q q)){x:V}(hx:(dh q F M t).val=some x):tE P E c w a o x:=by
 rw[hop]at hc
 obtain⟨z,hz,e⟩:=bk.1 hc
 obtain rfl:QO.nck z=q:=by simpa [Ev.q]using e
 have e:=h.ev hz
 have hx':(oe z F M t).val=some x:=hx
 unfold oe at hx'
 split at hx'
 ·rename_i b off hv;obtain rfl:=ag hx';rw[hv]at e;exact⟨by simp only[execOp,hop,e.1,conc];rfl,e.2⟩
 ·rename_i g l1 l2 hv;obtain rfl:=ag hx';rw[hv]at e;exact⟨by simp only[execOp,hop,e.1,conc];rfl,e.2⟩
 ·rename_i l hv;obtain rfl:=ag hx';rw[hv]at e;exact⟨by simp only[execOp,hop,e.1,conc];rfl,e.2⟩
 ·rename_i ty v hv;obtain rfl:=ag hx';rw[hv]at e;exact⟨by simp only[execOp,hop,e.1,conc];rfl,e.2⟩
 ·cases hx'
theorem C9(op:BinOp)(ty:TypeId)(x y:Operand)(k k':IntKind)(m n:Int):(eqGuard op ty x y (.int k m) (.int k' n)).run P w= .ok () w:=by
 unfold eqGuard;split<;>rfl
theorem Cb(op:BinOp)(ty:TypeId)(x y:Operand)(m n:ByteArray):(eqGuard op ty x y (.string m) (.string n)).run P w= .ok () w:=by
 unfold eqGuard;split<;>rfl
theorem ur{b:Bool}{x:V}(hx:(vB b).val=some x):x= .b b:=by
 rw[nu]at hx;exact(ag hx).symm
theorem WJ(op:BinOp)(k:IntKind)(m n:Int)(h1:op≠ .shl)(h2:op≠ .shr)(ty:TypeId){x:V}(hx:(qh op k m n).val=some x):
 (binOp op ty (.int k m) (.int k n)).run P w= .ok (conc E x) w∧bd c x:=by
 cases op<;>first|exact absurd rfl h1|exact absurd rfl h2|skip
 case add=>
  obtain rfl:V.i k (wr k (ag3 m n))=x:=by
   have:(vI k (wr k (ag3 m n))).val=some x:=hx;rw[fe]at this;exact ag this
  exact⟨by rw[jg,GB];simp[binOp,Op.intArith,conc],trivial⟩
 case sub=>
  obtain rfl:V.i k (wr k (Int.sub m n))=x:=by
   have:(vI k (wr k (Int.sub m n))).val=some x:=hx;rw[fe]at this;exact ag this
  exact⟨by rw[jg];simp[binOp,Op.intArith,conc];rfl,trivial⟩
 case mul=>
  obtain rfl:V.i k (wr k (Int.mul m n))=x:=by
   have:(vI k (wr k (Int.mul m n))).val=some x:=hx;rw[fe]at this;exact ag this
  exact⟨by rw[jg];simp[binOp,Op.intArith,conc],trivial⟩
 case quo=>
  have hx':(n8 k m n).val=some x:=hx;unfold n8 at hx';rw[du]at hx';by_cases h0:n=0
  ·rw[af h0]at hx';cases(show(none:Option V)=some x from hx')
  ·rw[ah h0]at hx';obtain rfl:V.i k (wr k (Int.tdiv m n))=x:=by
    have:(vI k (wr k (Int.tdiv m n))).val=some x:=hx';rw[fe]at this;exact ag this
   exact⟨by rw[jg];simp[binOp,Op.intDiv,conc,h0],trivial⟩
 case rem=>
  have hx':(px k m n).val=some x:=hx;unfold px at hx';rw[du]at hx';by_cases h0:n=0
  ·rw[af h0]at hx';cases(show(none:Option V)=some x from hx')
  ·rw[ah h0]at hx';obtain rfl:V.i k (Int.tmod m n)=x:=by
    have:(vI k (Int.tmod m n)).val=some x:=hx';rw[fe]at this;exact ag this
   exact⟨by simp[binOp,Op.intDiv,conc,h0],trivial⟩
 case and=>
  obtain rfl:V.i k (k.wrap (Nat.land (toU k m) (toU k n):Nat))=x:=by
   have:(kJ k (Nat.land (toU k m) (toU k n))).val=some x:=hx;rw[jW]at this;exact ag this
  refine⟨?_,trivial⟩;rw[mT,mT];simp[binOp,Op.intBits,conc,BitVec.toNat_and]
 case or=>
  obtain rfl:V.i k (k.wrap (Nat.lor (toU k m) (toU k n):Nat))=x:=by
   have:(kJ k (Nat.lor (toU k m) (toU k n))).val=some x:=hx;rw[jW]at this;exact ag this
  refine⟨?_,trivial⟩;rw[mT,mT];simp[binOp,Op.intBits,conc,BitVec.toNat_or]
 case xor=>
  obtain rfl:V.i k (k.wrap (Nat.xor (toU k m) (toU k n):Nat))=x:=by
   have:(kJ k (Nat.xor (toU k m) (toU k n))).val=some x:=hx;rw[jW]at this;exact ag this
  refine⟨?_,trivial⟩;rw[mT,mT];simp[binOp,Op.intBits,conc,BitVec.toNat_xor]
 case andNot=>
  obtain rfl:V.i k (k.wrap (Nat.land (toU k m) (Nat.xor (Nat.sub (Nat.pow 2 (kd k)) 1) (toU k n)):Nat))=x:=by
   have:(kJ k (Nat.land (toU k m) (Nat.xor (Nat.sub (Nat.pow 2 (kd k)) 1) (toU k n)))).val=some x:=hx;rw[jW]at this;exact ag this
  refine⟨?_,trivial⟩;rw[mT,mT,JQ];have hn:∀b:BitVec k.bits,(~~~b)=BitVec.allOnes k.bits^^^b:=fun b=>BitVec.not_def;simp only[binOp,Op.intBits,ne_eq,not_true_eq_false,if_false,conc,hn,BitVec.toNat_and,BitVec.toNat_xor];rfl
 case eql=>
  obtain rfl:=ur (b:=Oa m n) hx;refine⟨?_,trivial⟩;simp only[binOp,Op.intCmp,ne_eq,not_true_eq_false,if_false,conc,du,gD,iX,aO]
  all_goals (congr 2;try (rw[Bool.eq_iff_iff];simp))
 case neq=>
  obtain rfl:=ur (b:=t6 (Oa m n)) hx;refine⟨?_,trivial⟩;simp only[binOp,Op.intCmp,ne_eq,not_true_eq_false,if_false,conc,du,gD,iX,aO]
  all_goals (congr 2;try (rw[Bool.eq_iff_iff];simp))
 case lss=>
  obtain rfl:=ur (b:=MG m n) hx;refine⟨?_,trivial⟩;simp only[binOp,Op.intCmp,ne_eq,not_true_eq_false,if_false,conc,du,gD,iX,aO]
  all_goals (congr 2;try (rw[Bool.eq_iff_iff];simp))
 case leq=>
  obtain rfl:=ur (b:=t6 (MG n m)) hx;refine⟨?_,trivial⟩;simp only[binOp,Op.intCmp,ne_eq,not_true_eq_false,if_false,conc,du,gD,iX,aO]
  all_goals (congr 2;try (rw[Bool.eq_iff_iff];simp))
 case gtr=>
  obtain rfl:=ur (b:=MG n m) hx;refine⟨?_,trivial⟩;simp only[binOp,Op.intCmp,ne_eq,not_true_eq_false,if_false,conc,du,gD,iX,aO]
  all_goals (congr 2;try (rw[Bool.eq_iff_iff];simp))
 case geq=>
  obtain rfl:=ur (b:=t6 (MG m n)) hx;refine⟨?_,trivial⟩;simp only[binOp,Op.intCmp,ne_eq,not_true_eq_false,if_false,conc,du,gD,iX,aO]
  all_goals (congr 2;try (rw[Bool.eq_iff_iff];simp))
end
theorem gS(n x:Nat):(ba n x).data.toList=bl n x:=by simp[ba]
theorem md(n x:Nat):(ba n x).toList=bl n x:=by rw[ByteArray.toList_eq,gS]
theorem sH{s:ByteArray}{n x:Nat}(h:s.data.toList=bl n x):s=ba n x:=by
 have h2:s.data=(ba n x).data:=by rw[ba,←h]
 cases s;cases h2;rfl
theorem LB(n x m y:Nat):ba n x++ba m y=ba (n+m) (x%256^n+256^n*y):=by
 apply sH
 rw[LF]
 simp[ba]
theorem Ed(n x l h:Nat)(h1:l≤h)(h2:h≤n):(ba n x).extract l h=ba (h-l) (x/256^l%256^(h-l)):=by
 apply sH
 rw[vL]
 have:((ba n x).extract l h).data.toList=((bl n x).drop l).take (h-l):=by
  simp[ba,ByteArray.data_extract,List.extract_eq_take_drop]
 rw[this,am3 _ _ _ (by omega),Aa _ _ _ (by omega)]
theorem D5(f:Nat):∀n x m y,n<f→sf f n x m y=Op.bytesLess (bl n x) (bl m y):=by
 induction f with
 |zero=>intro n x m y h;omega
 |succ f ih=>
  intro n x m y h;cases m with
  |zero=>cases n<;>simp[sf,bl,Op.bytesLess]
  |succ m=>cases n with
   |zero=>simp[sf,bl,Op.bytesLess]
   |succ n=>
    simp only[sf,bl,Op.bytesLess];rw[ih n _ m _ (by omega),eT,bK];have e1:decide (UInt8.ofNat (x%256)<UInt8.ofNat (y%256))=decide (x%256<y%256):=by
     congr 1;rw[UInt8.lt_iff_toNat_lt];simp[UInt8.toNat_ofNat']
    have e2:(UInt8.ofNat (x%256)==UInt8.ofNat (y%256))=decide (x%256=y%256):=by
     rw[Bool.eq_iff_iff,beq_iff_eq,decide_eq_true_iff];constructor
     ·intro e;have:=congrArg UInt8.toNat e;simpa [UInt8.toNat_ofNat']using this
     ·intro e;rw[e]
    rw[e1,e2];rfl
section
variable{P:Program}{E:dj}{F:RO}{M:Mem}{c:Nat→Prop}{w:World}{t:T}{a:Act}
theorem WN(op:BinOp)(n x m y:Nat)(ty:TypeId){v:V}(hx:(WK op n x m y).val=some v):
 (binOp op ty (.string (ba n x)) (.string (ba m y))).run P w= .ok (conc E v) w∧bd c v:=by
 cases op
 case add=>
  have hx':(mO n x m y).val=some v:=hx;unfold mO at hx';rw[cE]at hx';by_cases hs:n+m≤1099511627776
  ·rw[show Nat.add n m=n+m from rfl,af hs,cond_true,bq3]at hx';obtain rfl:=ag hx';refine⟨?_,trivial⟩;have hlt:¬(((ba n x).size+(ba m y).size:Nat):Int)>IntKind.i64.max:=by
    rw[ec,ec,show IntKind.i64.max=9223372036854775807 by decide];omega
   simp only[binOp,Op.stringOp,hlt,if_false,Sem.run_ite,aO,conc,LB];rfl
  ·rw[show Nat.add n m=n+m from rfl,ah hs]at hx';cases(show(none:Option V)=some v from hx')
 case eql=>
  obtain rfl:=ur (b:=pK n x m y) hx;refine⟨?_,trivial⟩;simp only[binOp,Op.stringOp,md,aO,conc,oZ]
  congr 2
  rw[Bool.eq_iff_iff];simp
 case neq=>
  obtain rfl:=ur (b:= !pK n x m y) hx;refine⟨?_,trivial⟩;simp only[binOp,Op.stringOp,md,aO,conc,oZ]
  congr 2
  rw[Bool.eq_iff_iff];simp
 case lss=>
  obtain rfl:=ur (b:=sf (Nat.succ (Nat.add n m)) n x m y) hx;refine⟨?_,trivial⟩;rw[D5 (Nat.succ (Nat.add n m)) _ _ _ _ (show n<n+m+1 by omega)];simp only[binOp,Op.stringOp,md,aO,conc]
 case geq=>
  obtain rfl:=ur (b:= !sf (Nat.succ (Nat.add n m)) n x m y) hx;refine⟨?_,trivial⟩;rw[D5 (Nat.succ (Nat.add n m)) _ _ _ _ (show n<n+m+1 by omega)];simp only[binOp,Op.stringOp,md,aO,conc]
 all_goals cases(show(none:Option V)=some v from hx)
theorem Nq(op:BinOp)(hop:op= .shl∨op= .shr)(k k':IntKind)(m n:Int)(ty:TypeId){v:V}(hx:(gd op k m k' n).val=some v):
 (binOp op ty (.int k m) (.int k' n)).run P w= .ok (conc E v) w∧bd c v:=by
 have hcnt:∀j:Nat,en k j=min j k.bits:=by
  intro j;unfold en;rw[cE,wy];by_cases hj:j≤k.bits
  ·rw[af hj];show j=_;omega
  ·rw[ah hj];show k.bits=_;omega
 cases n with
 |negSucc j=>rcases hop with rfl|rfl<;>cases(show(none:Option V)=some v from hx)
 |ofNat j=>
  rcases hop with rfl|rfl
  ·have hx':(vI k (wr k (Int.mul m (.ofNat (Nat.pow 2 (en k j)))))).val=some v:=hx;rw[fe]at hx';obtain rfl:=ag hx';refine⟨?_,trivial⟩;rw[jg,hcnt];have hnn:¬(Int.ofNat j<0):=by simp
   simp only[binOp,Op.shift,hnn,if_false,Sem.run_ite,aO,conc,Int.ofNat_eq_natCast,Int.toNat_natCast]
   all_goals (congr 3)
  ·have hx':(vI k (Int.fdiv m (.ofNat (Nat.pow 2 (en k j))))).val=some v:=hx;rw[fe]at hx';obtain rfl:=ag hx';refine⟨?_,trivial⟩;rw[hcnt];have hnn:¬(Int.ofNat j<0):=by simp
   simp only[binOp,Op.shift,hnn,if_false,Sem.run_ite,aO,conc,Int.ofNat_eq_natCast,Int.toNat_natCast]
   all_goals (congr 2)
theorem CE{op:BinOp}{k k':IntKind}{m n:Int}(h1:op≠ .shl)(h2:op≠ .shr):gd op k m k' n=if k=k' then qh op k m n else .f:=by
 have e:gd op k m k' n=Bool.rec (motive:=fun _=>QR) .f (qh op k m n) (je k k'):=by
  cases op<;>first|rfl|exact absurd rfl h1|exact absurd rfl h2
 rw[e,bb,iR]
 by_cases hk:k=k'<;>simp[hk]
theorem bE2(op:BinOp)(ty:TypeId){xv yv v:V}(hx:(V.casesOn (motive_1:=fun _=>QR) xv (fun _=> .f) (fun k a=>bo1 op k a yv) (fun n a=>bo2 op n a yv) (fun _ _=> .f) .f (fun _ _ _ _=> .f) (fun _ _ _ _ _=> .f) (fun _ _ _=> .f) .f (fun _=> .f) .f (fun _ _ _=> .f) (fun _=> .f) .f (fun _ _=> .f) .f (fun _=> .f) (fun _=> .f)).val=some v)
 (x y:Operand):(eqGuard op ty x y (conc E xv) (conc E yv)>>=fun _=>binOp op ty (conc E xv) (conc E yv)).run P w= .ok (conc E v) w∧bd c v:=by
 cases xv with
 |i k m=>
  obtain⟨k',n,rfl,hg⟩:=oU (show(wO yv .f fun k' b=>gd op k m k' b).val=some v from hx);simp only[aT,conc,C9,aZ];by_cases hs:op= .shl∨op= .shr
  ·exact Nq op hs k k' m n ty hg
  ·rw[CE (fun e=>hs (.inl e)) (fun e=>hs (.inr e))]at hg;split at hg
   ·rename_i hk;subst hk;exact WJ op k m n (fun e=>hs (.inl e)) (fun e=>hs (.inr e)) ty hg
   ·cases(show(none:Option V)=some v from hg)
 |s n y'=>
  obtain⟨m,z,rfl,hg⟩:=oW (show(tY yv .f fun m b=>WK op n y' m b).val=some v from hx);simp only[aT,conc,Cb,aZ];exact WN op n y' m z ty hg
 |_=>cases(show(none:Option V)=some v from hx)
end
section
variable{P:Program}{E:dj}{F:RO}{M:Mem}{c:Nat→Prop}{w:World}{t:T}{a:Act}
theorem JU{b o:Nat}{x:V}(h:(uX b o).val=some x):x= .p b o:=by
 unfold uX at h;rw[b9]at h;exact(ag h).symm
theorem Fj{r x y:Nat}(h:x=y):(Result.ok (Value.pointer (some ⟨r,x,none⟩)) w:Result Value)= .ok (.pointer (some ⟨r,y,none⟩)) w:=by rw[h]
theorem mi{y:Operand}{f:X→QO}{q:QO}(h:(bp y).bind (fun x=>Ev.q (f x))=some (.q q)):∃z,bp y=some z∧f z=q:=by
 obtain⟨z,hz,e⟩:=bk.1 h
 exact⟨z,hz,by simpa [Ev.q]using e⟩
theorem ax6(h:Cx P E F M c w t a){o:Oper}{op:UnOp}{ty:TypeId}{y:Operand}(hop:o.op= .unOp op ty y){q:QO}(hc:aF P o.op=some (.q q)){x:V}(hx:(dh q F M t).val=some x):tE P E c w a o x:=by
 rw[hop]at hc
 obtain⟨z,hz,rfl⟩:=mi (f:=fun x=> .un op x) hc
 have e:=h.ev hz
 cases op with
 |neg=>
  obtain⟨k,n,hv,hg⟩:=oU (show(wO (z.ev t) .f fun k n=>vI k (wr k (Int.sub 0 n))).val=some x from hx);rw[fe]at hg;obtain rfl:=ag hg;rw[hv]at e;refine⟨?_,trivial⟩;simp only[execOp,hop];refine bf ?_;rw[e.1,jg];rfl
 |xor=>
  obtain⟨k,n,hv,hg⟩:=oU (show(wO (z.ev t) .f fun k n=>kJ k (Nat.xor (Nat.sub (Nat.pow 2 (kd k)) 1) (toU k n))).val=some x from hx);rw[jW]at hg;obtain rfl:=ag hg;rw[hv]at e;refine⟨?_,trivial⟩;simp only[execOp,hop];refine bf ?_;rw[e.1,JQ,mT];simp only[Op.unary,conc,Op.intBits];have ho:BitVec.ofInt k.bits (if k.signed=true then -1 else k.max)=BitVec.allOnes k.bits:=by
   cases k<;>decide
  rw[ho,BitVec.toNat_xor];rfl
 |not=>
  obtain⟨b,hv,hg⟩:=K0 (show(Fa (z.ev t) .f fun b=>vB (t6 b)).val=some x from hx);obtain rfl:=ur hg;rw[hv]at e;refine⟨?_,trivial⟩;simp only[execOp,hop];refine bf ?_;rw[e.1,iX];rfl
 |plus=>cases(show(none:Option V)=some x from hx)
theorem bF8{k:IntKind}{s d:TypeId}{ks:IntKind}(h1:P.underlying s=some (.int ks))(h2:P.underlying d=some (.int k))(k':IntKind)(n:Int):
 (convert s d (.int k' n)).run P w= .ok (.int k (k.wrap n)) w:=by
 simp only[convert,aT,aR h1,aR h2,aZ,Conv.intToInt,aO]
theorem uI(h:Cx P E F M c w t a){o:Oper}{ty:TypeId}{y:Operand}(hop:o.op= .makeInterface ty y){q:QO}(hc:aF P o.op=some (.q q)){x:V}(hx:(dh q F M t).val=some x):tE P E c w a o x:=by
 rw[hop]at hc
 simp only[aF]at hc
 split at hc
 ·cases hc
 ·rename_i d z hd hu hz;obtain rfl:QO.mki ty z=q:=by simpa [Ev.q]using hc
  obtain rfl:V.a ty (z.ev t)=x:=ag hx;have e:=h.ev hz;refine⟨?_,e.2⟩;simp only[execOp,hop];refine bf ?_;rw[e.1];have hw:=aR (w:=w) hu
  cases d<;>first
   |exact(hd _ rfl).elim
   |simp[Instr.makeInterface,hw,conc]
 ·cases hc
theorem Fl(h:Cx P E F M c w t a){o:Oper}{f:FuncId}{l1 l2:Array Operand}(hop:o.op= .makeFunc (.func f) l1 l2){q:QO}(hc:aF P o.op=some (.q q)){x:V}(hx:(dh q F M t).val=some x):tE P E c w a o x:=by
 rw[hop]at hc
 simp only[aF]at hc
 split at hc
 ·rename_i x1 x2 h1 h2;obtain rfl:QO.mkf f x1 x2=q:=by simpa [Ev.q]using hc
  obtain rfl:V.f f (evs x1 t) (evs x2 t)=x:=ag hx;have e1:=h.evs h1;have e2:=h.evs h2;refine⟨?_,e1.2,e2.2⟩;simp only[execOp,hop];refine bf ?_;have m1:l1.map a.eval=(aB E (evs x1 t)).toArray:=by apply Array.ext';rw[Array.toList_map,e1.1]
  have m2:l2.map a.eval=(aB E (evs x2 t)).toArray:=by apply Array.ext';rw[Array.toList_map,e2.1]
  simp only[Instr.makeFunc,m1,m2,conc];rfl
 ·cases hc
theorem CG(h:Cx P E F M c w t a){o:Oper}{ty:TypeId}{y:Operand}{f:Nat}(hop:o.op= .fieldAddr ty y f){q:QO}(hc:aF P o.op=some (.q q)){x:V}(hx:(dh q F M t).val=some x):tE P E c w a o x:=by
 rw[hop]at hc
 simp only[aF]at hc
 split at hc
 ·rename_i fs z hu hz;split at hc
  ·rename_i fd hfd;split at hc
   ·rename_i s hs;obtain rfl:QO.fa fd.offset z=q:=by simpa [Ev.q]using hc
    obtain⟨b,off,hv,hg⟩:=rM (show(t8 (z.ev t) .f fun b o=>uX b (Nat.add o fd.offset)).val=some x from hx);obtain rfl:=JU hg;have e:=h.ev hz;rw[hv]at e;refine⟨?_,e.2⟩;simp only[execOp,hop];refine bf ?_;rw[e.1];have hfd':fs[f]?=some fd:=by simpa using hfd
    simp only[Instr.fieldAt,aT,aR hu,aZ,hfd',Instr.sureAddr,conc,aO,fieldPlace,eA hs,Sem.run_ite,Nat.add_one_ne_zero,if_false,Addr.add_eq];exact Fj (Nat.add_assoc _ _ _)
   ·cases hc
  ·cases hc
 ·cases hc
theorem eM{l:List V}{i:Nat}{v:V}(h:l[i]?=some v):(aB E l)[i]?=some (conc E v):=by
 rw[bC,List.getElem?_map,h];rfl
theorem eI{l:List V}{i:Nat}{v:V}(hb:i9 c l)(h:l[i]?=some v):bd c v:=
 (kK c l).1 hb v (List.mem_of_getElem? h)
theorem sk{α:Type}:∀(n:Nat) (l r:List α),nr n l=some r→r=l.take n∧n≤l.length
 |0,l,r,h=>by obtain rfl:=ag h;simp
 |n+1,[],r,h=>by cases h
 |n+1,x::l,r,h=>by
  rw[nr]at h;split at h
  ·rename_i r' hr';obtain rfl:=ag h;have:=sk n l r' hr';exact⟨by rw[this.1];rfl,by simp;exact this.2⟩
  ·cases h
theorem ru{α:Type}:∀(n:Nat) (l:List α),kN n l=l.drop n
 |0,l=>by simp[kN]
 |n+1,[]=>by simp[kN]
 |n+1,x::l=>by rw[kN,ru n l];rfl
theorem rR{ty:TypeId}{l:List V}{i:Nat}{v:V}(hag:uD P ty=some false)(h:l[i]?=some v):(part ty (aB E l).toArray i).run P w= .ok (conc E v) w:=by
 simp[part,lH hag,eM h]
theorem Cz{ty:TypeId}{l r:List V}{i n:Nat}(hag:uD P ty=some true)(hs:ea P ty=some n)(h:nr n (kN i l)=some r):(part ty (aB E l).toArray i).run P w= .ok (conc E (.g r)) w:=by
 obtain⟨rfl,hn⟩:=sk _ _ _ h
 rw[ru]at hn⊢
 simp only[part,aT,lH hag,aZ,Sem.run_ite,if_true,eA hs,aO,conc]
 congr 2
 simp[bC,List.extract_eq_take_drop,List.map_take,List.map_drop]
theorem Jg{l:List V}(hb:i9 c l){r:List V}(h:∀v∈r,v∈l):i9 c r:=(kK c r).2 fun v hv=>(kK c l).1 hb v (h v hv)
theorem aw8(h:Cx P E F M c w t a){o:Oper}{ty:TypeId}{y:Operand}{f:Nat}(hop:o.op= .field ty y f){q:QO}(hc:aF P o.op=some (.q q)){x:V}(hx:(dh q F M t).val=some x):tE P E c w a o x:=by
 rw[hop]at hc
 simp only[aF]at hc
 split at hc
 ·rename_i fs z hu hz;split at hc
  ·rename_i fd hfd;have hfd':fs[f]?=some fd:=by simpa using hfd
   have e:=h.ev hz;split at hc
   ·rename_i n hag hs;obtain rfl:QO.fln fd.offset n z=q:=by simpa [Ev.q]using hc
    obtain⟨l,hv,hg⟩:=ve (show(Fb (z.ev t) .f fun cs=>qg (nr n (kN fd.offset cs))).val=some x from hx);obtain⟨r,hr,rfl⟩:=AN hg;rw[hv]at e;refine⟨?_,Jg (l:=l) e.2 (fun v hv=>by obtain⟨rfl,_⟩:=sk _ _ _ hr;rw[ru]at hv;exact List.mem_of_mem_drop (List.mem_of_mem_take hv))⟩;simp only[execOp,hop];refine bf ?_;rw[e.1];simp only[Instr.field,aT,aR hu,aZ,hfd',conc,asAgg,aO];exact Cz hag hs hr
   ·rename_i _ hag;obtain rfl:QO.fl1 fd.offset z=q:=by simpa [Ev.q]using hc
    obtain⟨l,hv,hg⟩:=ve (show(Fb (z.ev t) .f fun cs=>qr (yp cs fd.offset)).val=some x from hx);have hr:=xj hg;rw[l8]at hr;rw[hv]at e;refine⟨?_,eI (l:=l) e.2 hr⟩;simp only[execOp,hop];refine bf ?_;rw[e.1];simp only[Instr.field,aT,aR hu,aZ,hfd',conc,asAgg,aO];exact rR hag hr
   ·cases hc
  ·cases hc
 ·cases hc
theorem CH{sz b o len:Nat}{i:Int}{x:V}(h:(yr sz b o len i).val=some x):∃j:Nat,i=j∧j<len∧x= .p b (o+j*sz):=by
 cases i with
 |negSucc j=>cases(show(none:Option V)=some x from h)
 |ofNat j=>
  have h':(Bool.rec (motive:=fun _=>QR) .f (uX b (Nat.add o (Nat.mul j sz))) (Nat.blt j len)).val=some x:=h;rw[bb,eT]at h';by_cases hj:j<len
  ·rw[ae (by simpa using hj)]at h';exact⟨j,rfl,hj,JU h'⟩
  ·rw[ab (by simpa using hj)]at h';cases(show(none:Option V)=some x from h')
theorem Ar{len j:Nat}(h:j<len):(0≤(j:Int)∧(j:Int)<(len:Int)):=by omega
theorem CI(h:Cx P E F M c w t a){o:Oper}{ty:TypeId}{y i:Operand}(hop:o.op= .indexAddr ty y i){q:QO}(hc:aF P o.op=some (.q q)){x:V}(hx:(dh q F M t).val=some x):tE P E c w a o x:=by
 rw[hop]at hc
 simp only[aF]at hc
 split at hc
 ·rename_i n el xa xi hu h1 h2;obtain⟨s,hs,e⟩:=bk.1 hc;obtain rfl:QO.iaA n s xa xi=q:=by simpa [Ev.q]using e
  obtain⟨b,off,hv,hg⟩:=rM (show(t8 (xa.ev t) .f fun b o=>wO (xi.ev t) .f fun _ i=>yr s b o n i).val=some x from hx);obtain⟨k,m,hm,hg⟩:=oU hg;obtain⟨j,rfl,hj,rfl⟩:=CH hg;have e1:=h.ev h1;have e2:=h.ev h2;rw[hv]at e1;rw[hm]at e2;refine⟨?_,e1.2⟩;simp only[execOp,hop];refine bf ?_;rw[e1.1,e2.1];simp only[Instr.indexAt,conc,asIntOf,aT,aO,aZ,aR hu,Instr.sureAddr,Sem.run_ite,Ar hj,and_self,if_true,eA hs,Addr.add_eq,Int.toNat_natCast];exact Fj (Nat.add_assoc _ _ _)
 ·rename_i el xa xi hu h1 h2;obtain⟨s,hs,e⟩:=bk.1 hc;obtain rfl:QO.iaS s xa xi=q:=by simpa [Ev.q]using e
  have e1:=h.ev h1;have e2:=h.ev h2;have key:∀b off len cap,conc E (xa.ev t)= .slice (some ⟨E.ρ b,E.β b+off,none⟩) len cap→bd c (.p b 0)→(td s b off len (xi.ev t)).val=some x→tE P E c w a o x:=by
   intro b off len cap hv hbd hg;obtain⟨k,m,hm,hg⟩:=oU (show(wO (xi.ev t) .f fun _ i=>yr s b off len i).val=some x from hg);obtain⟨j,rfl,hj,rfl⟩:=CH hg;rw[hm]at e2;refine⟨?_,hbd⟩;simp only[execOp,hop];refine bf ?_;rw[e1.1,hv,e2.1];simp only[Instr.indexAt,conc,asIntOf,aT,aO,aZ,aR hu,Sem.run_ite,Ar hj,and_self,if_true,eA hs,Addr.add_eq,Int.toNat_natCast];exact Fj (Nat.add_assoc _ _ _)
  have hx':(rT s xa xi F M t).val=some x:=hx;unfold rT at hx';cases hv:xa.ev t with
  |l b off len cap=>
   rw[hv]at hx' e1;exact key b off len cap (by rw[hv];rfl) e1.2 hx'
  |u b off len el kn=>
   rw[hv]at hx' e1;exact key b off len _ (by rw[hv];rfl) e1.2 hx'
  |_=>rw[hv]at hx';cases(show(none:Option V)=some x from hx')
 ·cases hc
theorem aw9(h:Cx P E F M c w t a){o:Oper}{ty:TypeId}{y i:Operand}(hop:o.op= .index ty y i){q:QO}(hc:aF P o.op=some (.q q)){x:V}(hx:(dh q F M t).val=some x):tE P E c w a o x:=by
 rw[hop]at hc
 simp only[aF]at hc
 split at hc
 ·rename_i n el xa xi hu h1 h2;have e1:=h.ev h1;have e2:=h.ev h2;split at hc
  ·rename_i s hag hs;obtain rfl:QO.ixAn n s xa xi=q:=by simpa [Ev.q]using hc
   obtain⟨l,hv,hg⟩:=ve (show(Fb (xa.ev t) .f fun cs=>XP n s cs (sF (xi.ev t))).val=some x from hx);unfold XP at hg;split at hg
   ·rename_i j hj;obtain⟨k,hk⟩:=lA hj;rw[eT]at hg;by_cases hjn:j<n
    ·rw[af hjn,cond_true]at hg;obtain⟨r,hr,rfl⟩:=AN hg;rw[hv]at e1;rw[hk]at e2;refine⟨?_,Jg (l:=l) e1.2 (fun v hv=>by obtain⟨rfl,_⟩:=sk _ _ _ hr;rw[ru]at hv;exact List.mem_of_mem_drop (List.mem_of_mem_take hv))⟩;simp only[execOp,hop];refine bf ?_;rw[e1.1,e2.1];simp only[Instr.index,conc,asIntOf,aT,aO,aZ,aR hu,Sem.run_ite,Ar hjn,and_self,if_true,eA hs,Int.toNat_natCast];exact Cz hag hs hr
    ·rw[ah hjn]at hg;cases(show(none:Option V)=some x from hg)
   ·cases(show(none:Option V)=some x from hg)
  ·rename_i s hag hs;obtain rfl:QO.ixA1 n s xa xi=q:=by simpa [Ev.q]using hc
   obtain⟨l,hv,hg⟩:=ve (show(Fb (xa.ev t) .f fun cs=>rF n s cs (sF (xi.ev t))).val=some x from hx);unfold rF at hg;split at hg
   ·rename_i j hj;obtain⟨k,hk⟩:=lA hj;rw[eT]at hg;by_cases hjn:j<n
    ·rw[af hjn,cond_true]at hg;have hr:=xj hg;rw[l8]at hr;rw[hv]at e1;rw[hk]at e2;refine⟨?_,eI (l:=l) e1.2 hr⟩;simp only[execOp,hop];refine bf ?_;rw[e1.1,e2.1];simp only[Instr.index,conc,asIntOf,aT,aO,aZ,aR hu,Sem.run_ite,Ar hjn,and_self,if_true,eA hs,Int.toNat_natCast];exact rR hag hr
    ·rw[ah hjn]at hg;cases(show(none:Option V)=some x from hg)
   ·cases(show(none:Option V)=some x from hg)
  ·cases hc
 ·rename_i xa xi hu h1 h2;have e1:=h.ev h1;have e2:=h.ev h2;obtain rfl:QO.ixS xa xi=q:=by simpa [Ev.q]using hc
  obtain⟨n,s,hv,hg⟩:=oW (show(tY (xa.ev t) .f fun n s=>Option.rec (motive:=fun _=>QR) .f (fun i=>od n s i) (sF (xi.ev t))).val=some x from hx);cases hj:sF (xi.ev t)with
  |none=>rw[hj]at hg;cases(show(none:Option V)=some x from hg)
  |some j=>
   rw[hj]at hg;obtain⟨k,hk⟩:=lA hj;have hg':(Bool.rec (motive:=fun _=>QR) .f (fN (Nat.mod (Nat.div s (jn j)) 256) fun c=> .v (.i .u8 (.ofNat c))) (Nat.blt j n)).val=some x:=hg;rw[bb,eT,b9]at hg';by_cases hjn:j<n
   ·rw[ae (by simpa using hjn)]at hg';obtain rfl:=ag hg';rw[hv]at e1;rw[hk]at e2;refine⟨?_,trivial⟩;simp only[execOp,hop];refine bf ?_;rw[e1.1,e2.1];have hget:(ba n s)[j]?=some (UInt8.ofNat (s/256^j%256)):=by
     have:=Ei n s j hjn;have hsz:j<(ba n s).size:=by rw[ec];exact hjn
     rw[getElem?_pos (ba n s) j hsz];have:(bl n s)[j]?=some ((ba n s)[j]):=by
      rw[List.getElem?_eq_getElem (by rw[lD];exact hjn)];rfl
     rw[←this,Ei n s j hjn]
    simp only[Instr.index,conc,asIntOf,aT,aO,aZ,aR hu,Int.natCast_nonneg,if_true,Int.toNat_natCast,hget]
    congr 2
    rw[UInt8.toNat_ofNat'];simp[jn];rfl
   ·rw[ab (by simpa using hjn)]at hg';cases(show(none:Option V)=some x from hg')
 ·cases hc
end
end
end Go.Proofs.YtcnblipfcihcpaaGreatDoor.Ev
