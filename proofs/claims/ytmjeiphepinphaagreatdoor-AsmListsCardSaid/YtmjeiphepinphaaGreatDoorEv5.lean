/- What is proved here: pieces of the evaluator's soundness: if the evaluator comes to a value, the model's run comes to it, for every world and tape; no conditions beyond the hypotheses of each theorem. -/
import Derived.Test.YtmjeiphepinphaaGreatDoorEv4
import Derived.Stop.LaidErr
import Derived.KernelRfl
set_option linter.unusedSimpArgs false
set_option linter.unusedVariables false
set_option linter.defProp false
set_option maxRecDepth 10000
set_option maxHeartbeats 16000000
namespace Go.Proofs.YtmjeiphepinphaaGreatDoor.Ev
open Go Go.RowKit Go.ChangeShapes
noncomputable section
abbrev a0:aF:= .h
abbrev z0:X:= .t a0
abbrev a1:aF:= .l a0
abbrev z1:X:= .t a1
abbrev a2:aF:= .r a0
abbrev z2:X:= .t a2
abbrev a3:aF:= .l a1
abbrev z3:X:= .t a3
abbrev a4:aF:= .r a1
abbrev z4:X:= .t a4
abbrev a5:aF:= .l a2
abbrev z5:X:= .t a5
abbrev a6:aF:= .r a2
abbrev z6:X:= .t a6
abbrev a7:aF:= .l a3
abbrev z7:X:= .t a7
abbrev a8:aF:= .r a3
abbrev z8:X:= .t a8
abbrev a9:aF:= .l a4
abbrev z9:X:= .t a9
abbrev cE:aF:= .r a4
abbrev cT:X:= .t cE
abbrev cW:aF:= .l a5
abbrev cM:X:= .t cW
abbrev dh:aF:= .r a5
abbrev cH:X:= .t dh
abbrev d8:aF:= .l a6
abbrev cI:X:= .t d8
abbrev dK:aF:= .r a6
abbrev dM:X:= .t dK
abbrev dL:aF:= .l a7
abbrev dA:X:= .t dL
abbrev dJ:aF:= .r a7
abbrev dX:X:= .t dJ
abbrev eD:aF:= .l a8
abbrev eJ:X:= .t eD
abbrev eZ:aF:= .r a8
abbrev fh:X:= .t eZ
abbrev eN:aF:= .l a9
abbrev fL:X:= .t eN
abbrev fq:aF:= .r a9
abbrev fO:X:= .t fq
abbrev ej:aF:= .l cE
abbrev gD:X:= .t ej
abbrev eE:aF:= .r cE
abbrev gw:X:= .t eE
abbrev eT:aF:= .l cW
abbrev ia:X:= .t eT
abbrev ga:aF:= .r cW
abbrev ib:X:= .t ga
abbrev fP:aF:= .l dh
abbrev gV:X:= .t fP
abbrev ft:aF:= .r dh
abbrev gy:X:= .t ft
abbrev ie:aF:= .l d8
abbrev iU:X:= .t ie
abbrev gz:aF:= .r d8
abbrev iK:X:= .t gz
abbrev fJ:aF:= .l dK
abbrev j8:X:= .t fJ
abbrev gR:aF:= .r dK
abbrev iV:X:= .t gR
abbrev gW:aF:= .l dL
abbrev iX:X:= .t gW
abbrev ig:aF:= .r dL
abbrev jR:X:= .t ig
abbrev iE:aF:= .l dJ
abbrev kC:X:= .t iE
abbrev fj:aF:= .r dJ
abbrev kQ:X:= .t fj
abbrev fQ:aF:= .l eD
abbrev jY:X:= .t fQ
abbrev kc:aF:= .r eD
abbrev lM:X:= .t kc
abbrev kd:aF:= .l eZ
abbrev lN:X:= .t kd
abbrev kE:aF:= .r eZ
abbrev lO:X:= .t kE
abbrev jS:aF:= .l eN
abbrev lF:X:= .t jS
abbrev gC:aF:= .r eN
abbrev lG:X:= .t gC
abbrev kR:aF:= .l fq
abbrev lQ:X:= .t kR
abbrev lJ:aF:= .r fq
abbrev n6:X:= .t lJ
abbrev kW:aF:= .l ej
abbrev og:X:= .t kW
abbrev kS:aF:= .r ej
abbrev oq:X:= .t kS
abbrev kT:aF:= .l eE
abbrev mU:X:= .t kT
abbrev kU:aF:= .r eE
abbrev oT:X:= .t kU
abbrev mG:aF:= .l eT
abbrev n7:X:= .t mG
abbrev jV:aF:= .r eT
abbrev ot:X:= .t jV
abbrev ke:aF:= .l ga
abbrev n8:X:= .t ke
abbrev mH:aF:= .r ga
abbrev mV:X:= .t mH
abbrev kX:aF:= .l fP
abbrev ng:X:= .t kX
abbrev jW:aF:= .r fP
abbrev oU:X:= .t jW
abbrev gb:aF:= .l ft
abbrev pG:X:= .t gb
abbrev ow:aF:= .r ft
abbrev qB:X:= .t ow
abbrev oy:aF:= .l ie
abbrev pf:X:= .t oy
abbrev kF:aF:= .r ie
abbrev qC:X:= .t kF
abbrev kY:aF:= .l gz
abbrev qE:X:= .t kY
abbrev lK:aF:= .r gz
abbrev pg:X:= .t lK
abbrev nn:aF:= .l fJ
abbrev pH:X:= .t nn
abbrev pM:aF:= .r fJ
abbrev rV:X:= .t pM
abbrev oz:aF:= .l gR
abbrev um:X:= .t oz
abbrev n9:aF:= .r gR
abbrev tS:X:= .t n9
abbrev kZ:aF:= .l gW
abbrev rW:X:= .t kZ
abbrev oX:aF:= .r gW
abbrev rX:X:= .t oX
abbrev oA:aF:= .l ig
abbrev rP:X:= .t oA
abbrev pN:aF:= .r ig
abbrev pI:X:= .t pN
abbrev oB:aF:= .l iE
abbrev rY:X:= .t oB
abbrev lL:aF:= .r iE
abbrev uo:X:= .t lL
abbrev oY:aF:= .l fj
abbrev uQ:X:= .t oY
abbrev sf:aF:= .r fj
abbrev uR:X:= .t sf
abbrev pO:aF:= .l fQ
abbrev uS:X:= .t pO
abbrev rR:aF:= .r fQ
abbrev xn:X:= .t rR
abbrev sg:aF:= .l kc
abbrev xp:X:= .t sg
abbrev ur:aF:= .r kc
abbrev xR:X:= .t ur
abbrev va:aF:= .l kd
abbrev yW:X:= .t va
abbrev rS:aF:= .r kd
abbrev AR:X:= .t rS
abbrev rT:aF:= .l kE
abbrev AU:X:= .t rT
abbrev vc:aF:= .r kE
abbrev AV:X:= .t vc
abbrev xw:aF:= .l jS
abbrev AY:X:= .t xw
abbrev pP:aF:= .r jS
abbrev AZ:X:= .t pP
abbrev zD:aF:= .l gC
abbrev Dq:X:= .t zD
abbrev AW:aF:= .r gC
abbrev FY:X:= .t AW
abbrev oC:aF:= .l kR
abbrev FZ:X:= .t oC
abbrev pi:aF:= .r kR
abbrev G0:X:= .t pi
abbrev ut:aF:= .l lJ
abbrev Dr:X:= .t ut
abbrev AX:aF:= .r lJ
abbrev G3:X:= .t AX
abbrev Ba:aF:= .l kW
abbrev JD:X:= .t Ba
abbrev Bb:aF:= .r kW
abbrev JE:X:= .t Bb
abbrev xX:aF:= .l kS
abbrev JF:X:= .t xX
abbrev Dk:aF:= .r kS
abbrev LY:X:= .t Dk
abbrev Dl:aF:= .l kT
abbrev LZ:X:= .t Dl
abbrev Dm:aF:= .r kT
abbrev M7:X:= .t Dm
abbrev xY:aF:= .l kU
abbrev M8:X:= .t xY
abbrev DC:aF:= .r kU
abbrev Mh:X:= .t DC
abbrev DD:aF:= .l mG
abbrev Mi:X:= .t DD
abbrev DE:aF:= .r mG
abbrev Mj:X:= .t DE
abbrev Ga:aF:= .l jV
abbrev Mk:X:= .t Ga
abbrev Mc:aF:= .r jV
abbrev ZU:X:= .t Mc
abbrev Gb:aF:= .l ke
abbrev Ml:X:= .t Gb
abbrev tT:aF:= .r ke
abbrev wW:X:= .t tT
abbrev sc:aF:= .l mH
abbrev wX:X:= .t sc
abbrev pL:aF:= .r mH
abbrev xO:X:= .t pL
abbrev mY:aF:= .l kX
abbrev xP:X:= .t mY
abbrev uY:aF:= .r kX
abbrev xQ:X:= .t uY
abbrev uZ:aF:= .l jW
abbrev wY:X:= .t uZ
abbrev za:aF:= .r jW
abbrev CL:X:= .t za
abbrev zb:aF:= .l gb
abbrev CM:X:= .t zb
abbrev jU:aF:= .r gb
abbrev CN:X:= .t jU
abbrev xu:aF:= .l ow
abbrev CP:X:= .t xu
abbrev zc:aF:= .r ow
abbrev FT:X:= .t zc
abbrev zd:aF:= .l oy
abbrev FU:X:= .t zd
abbrev tU:aF:= .r oy
abbrev CQ:X:= .t tU
abbrev ze:aF:= .l kF
abbrev CR:X:= .t ze
abbrev zf:aF:= .r kF
abbrev CS:X:= .t zf
abbrev v7:aF:= .l kY
abbrev CT:X:= .t v7
abbrev zg:aF:= .r kY
abbrev CU:X:= .t zg
abbrev v8:aF:= .l lK
abbrev CV:X:= .t v8
abbrev zh:aF:= .r lK
abbrev CW:X:= .t zh
abbrev zi:aF:= .l nn
abbrev CX:X:= .t zi
abbrev zj:aF:= .r nn
abbrev CY:X:= .t zj
abbrev nl:aF:= .l pM
abbrev CZ:X:= .t nl
abbrev zk:aF:= .r pM
abbrev D0:X:= .t zk
abbrev zl:aF:= .l oz
abbrev D1:X:= .t zl
abbrev zm:aF:= .r oz
abbrev D2:X:= .t zm
abbrev tV:aF:= .l n9
abbrev AQ:X:= .t tV
abbrev jA:aF:= .r n9
abbrev D3:X:= .t jA
abbrev zn:aF:= .l kZ
abbrev D4:X:= .t zn
abbrev tW:aF:= .r kZ
abbrev D5:X:= .t tW
abbrev zo:aF:= .l oX
abbrev D6:X:= .t zo
abbrev tX:aF:= .r oX
abbrev D7:X:= .t tX
abbrev zp:aF:= .l oA
abbrev D8:X:= .t zp
abbrev zq:aF:= .r oA
abbrev D9:X:= .t zq
abbrev zr:aF:= .l pN
abbrev Da:X:= .t zr
abbrev oW:aF:= .r pN
abbrev FV:X:= .t oW
abbrev tY:aF:= .l oB
abbrev Db:X:= .t tY
abbrev zt:aF:= .r oB
abbrev Dc:X:= .t zt
abbrev zu:aF:= .l lL
abbrev Dd:X:= .t zu
abbrev se:aF:= .r lL
abbrev De:X:= .t se
abbrev zw:aF:= .l oY
abbrev Df:X:= .t zw
abbrev v9:aF:= .r oY
abbrev Dg:X:= .t v9
abbrev B2:aF:= .l sf
abbrev FW:X:= .t B2
abbrev B4:aF:= .r sf
abbrev FX:X:= .t B4
abbrev Dy:aF:= .l pO
abbrev LU:X:= .t Dy
abbrev qG:aF:= .r pO
abbrev LV:X:= .t qG
abbrev Dz:aF:= .l rR
abbrev LW:X:= .t Dz
abbrev DA:aF:= .r rR
abbrev ZA:X:= .t DA
abbrev DB:aF:= .l sg
abbrev LX:X:= .t DB
abbrev zx:aF:= .r sg
abbrev ZB:X:= .t zx
abbrev JJ:aF:= .l ur
abbrev ZC:X:= .t JJ
abbrev JK:aF:= .r ur
abbrev ZD:X:= .t JK
abbrev JL:aF:= .l va
abbrev ZE:X:= .t JL
abbrev JM:aF:= .r va
abbrev ZF:X:= .t JM
abbrev B9:aF:= .l rS
abbrev ZG:X:= .t B9
abbrev JN:aF:= .r rS
abbrev ZH:X:= .t JN
abbrev zy:aF:= .l rT
abbrev ZI:X:= .t zy
abbrev JO:aF:= .r rT
abbrev ZJ:X:= .t JO
abbrev zz:aF:= .l vc
abbrev ZK:X:= .t zz
abbrev JP:aF:= .r vc
abbrev ZL:X:= .t JP
abbrev JQ:aF:= .l xw
abbrev ZM:X:= .t JQ
abbrev JR:aF:= .r xw
abbrev ZN:X:= .t JR
abbrev JS:aF:= .l pP
abbrev ZO:X:= .t JS
abbrev zA:aF:= .r pP
abbrev ZP:X:= .t zA
abbrev JT:aF:= .l zD
abbrev ZQ:X:= .t JT
abbrev JU:aF:= .r zD
abbrev ZR:X:= .t JU
abbrev zC:aF:= .l AW
abbrev ZS:X:= .t zC
abbrev JV:aF:= .r AW
abbrev ZT:X:= .t JV
abbrev a04:aF:= .l oC
abbrev au6:X:= .t a04
abbrev a05:aF:= .r oC
abbrev bX6:X:= .t a05
abbrev a06:aF:= .l pi
abbrev bX7:X:= .t a06
abbrev a07:aF:= .r pi
abbrev bX8:X:= .t a07
abbrev a08:aF:= .l ut
abbrev bX9:X:= .t a08
abbrev bs0:aF:= .r ut
abbrev cN1:X:= .t bs0
abbrev bs1:aF:= .l AX
abbrev cN2:X:= .t bs1
abbrev bs2:aF:= .r AX
abbrev cN3:X:= .t bs2
abbrev bs3:aF:= .l Ba
abbrev cN4:X:= .t bs3
abbrev bs4:aF:= .r Ba
abbrev cN5:X:= .t bs4
abbrev bs5:aF:= .l Bb
abbrev cN6:X:= .t bs5
abbrev c05:aF:= .r Bb
abbrev de8:X:= .t c05
abbrev c06:aF:= .l xX
abbrev de9:X:= .t c06
abbrev c07:aF:= .r xX
abbrev df0:X:= .t c07
abbrev c08:aF:= .l Dk
abbrev df1:X:= .t c08
abbrev c09:aF:= .r Dk
abbrev df2:X:= .t c09
abbrev c59:aF:= .l Dl
abbrev df3:X:= .t c59
abbrev c93:aF:= .r Dl
abbrev df4:X:= .t c93
abbrev ca0:aF:= .l Dm
abbrev df5:X:= .t ca0
abbrev ca2:aF:= .r Dm
abbrev df6:X:= .t ca2
abbrev ca4:aF:= .l xY
abbrev df7:X:= .t ca4
abbrev ca5:aF:= .r xY
abbrev df8:X:= .t ca5
abbrev ca6:aF:= .l DC
abbrev df9:X:= .t ca6
abbrev ca7:aF:= .r DC
abbrev dg0:X:= .t ca7
abbrev ca8:aF:= .l DD
abbrev dg1:X:= .t ca8
abbrev ca9:aF:= .r DD
abbrev dg2:X:= .t ca9
abbrev cb0:aF:= .l DE
abbrev dg3:X:= .t cb0
abbrev cb2:aF:= .r DE
abbrev dg4:X:= .t cb2
abbrev cb4:aF:= .l Ga
abbrev dg5:X:= .t cb4
abbrev sk1:T:= .n .e none .e
abbrev jq:T:= .n sk1 none sk1
abbrev eX:T:= .n jq none jq
abbrev kV:T:= .n eX none eX
abbrev nW:T:= .n kV none kV
abbrev nX:T:= .n nW none nW
abbrev sk7:T:= .n nX none nX
abbrev pd(u:List (Option V))(a:Nat):T:= .n .e (uO u a) .e
abbrev j7(u:List (Option V))(a b c:Nat):T:= .n (pd u a) (uO u b) (pd u c)
abbrev aO(u:List (Option V))(a b c d e f g:Nat):T:= .n (j7 u a b c) (uO u d) (j7 u e f g)
abbrev qq(d:aF)(o:QO):CO:=⟨some d,.q o,none⟩
abbrev cX2(d:aF)(o:AO)(g:aF):CO:=⟨some d,.a o,some (g,true)⟩
abbrev X3(d:aF)(o:EO)(g:aF):CO:=⟨some d,.e o,some (g,false)⟩
abbrev dZ(d:aF)(o:EO)(g:aF):CO:=⟨some d,.e o,some (g,true)⟩
abbrev bk(d:aF)(o:QO)(g:aF):CO:=⟨some d,.q o,some (g,false)⟩
abbrev aj(d:aF)(o:QO)(g:aF):CO:=⟨some d,.q o,some (g,true)⟩
abbrev aa(d:aF)(o:AO):CO:=⟨some d,.a o,none⟩
abbrev ee(d:aF)(o:EO):CO:=⟨some d,.e o,none⟩
abbrev ez(o:EO):CO:=⟨none,.e o,none⟩
abbrev x6(n:Int):X:= .c (.i .i64 n)
abbrev xT:X:= .c (.b true)
abbrev xF:X:= .c (.b false)
theorem wu{b b1:CC}(h:b=b1)(k:Kn)(s:St)(R:Ex→St→Prop):Wp b k s R=Wp b1 k s R:=congrArg (fun x=>Wp x k s R) h
def X1{x0:Option V}(l:List (Option V)):List (Option V):=x0::l
def G1(l:List (Option V)):List (Option V):=none::l
def X2{x0 x1:Option V}(l:List (Option V)):List (Option V):=x0::x1::l
def G2(l:List (Option V)):List (Option V):=none::none::l
def X4{x0 x1 x2 x3:Option V}(l:List (Option V)):List (Option V):=x0::x1::x2::x3::l
def G4(l:List (Option V)):List (Option V):=none::none::none::none::l
def X8{x0 x1 x2 x3 x4 x5 x6 x7:Option V}(l:List (Option V)):List (Option V):=x0::x1::x2::x3::x4::x5::x6::x7::l
def eG{x0 x1 x2 x3 x4 x5 x6 x7 x8 x9 x10 x11 x12 x13 x14 x15:Option V}(l:List (Option V)):List (Option V):=x0::x1::x2::x3::x4::x5::x6::x7::x8::x9::x10::x11::x12::x13::x14::x15::l
def gu{x0 x1 x2 x3 x4 x5 x6 x7 x8 x9 x10 x11 x12 x13 x14 x15 x16 x17 x18 x19 x20 x21 x22 x23 x24 x25 x26 x27 x28 x29 x30 x31:Option V}(l:List (Option V)):List (Option V):=x0::x1::x2::x3::x4::x5::x6::x7::x8::x9::x10::x11::x12::x13::x14::x15::x16::x17::x18::x19::x20::x21::x22::x23::x24::x25::x26::x27::x28::x29::x30::x31::l
def ka{x0 x1 x2 x3 x4 x5 x6 x7 x8 x9 x10 x11 x12 x13 x14 x15 x16 x17 x18 x19 x20 x21 x22 x23 x24 x25 x26 x27 x28 x29 x30 x31 x32 x33 x34 x35 x36 x37 x38 x39 x40 x41 x42 x43 x44 x45 x46 x47 x48 x49 x50 x51 x52 x53 x54 x55 x56 x57 x58 x59 x60 x61 x62 x63:Option V}(l:List (Option V)):List (Option V):=x0::x1::x2::x3::x4::x5::x6::x7::x8::x9::x10::x11::x12::x13::x14::x15::x16::x17::x18::x19::x20::x21::x22::x23::x24::x25::x26::x27::x28::x29::x30::x31::x32::x33::x34::x35::x36::x37::x38::x39::x40::x41::x42::x43::x44::x45::x46::x47::x48::x49::x50::x51::x52::x53::x54::x55::x56::x57::x58::x59::x60::x61::x62::x63::l
def bT(L:List gk)(h:List V→Option V):RO→List V→Mem→Nat→RC:=fun F args M c=>bif bE F L then ofO (h args) M c else .f
theorem dC{L:List gk}{F:RO}(ht:bE F L=true)(h:List V→Option V)(args:List V)(M:Mem)(c:Nat):bT L h F args M c=ofO (h args) M c:=by
 show(bif bE F L then ofO (h args) M c else .f)=_
 rw[ht];rfl
theorem YE{F:RO}{M:Mem}{L:List gk}(ht:bE F L=true)(hap:∀b,(be F b).isSome→M.get b=none){g:Nat}{k:IntKind}{zs:List Int}(hm:(g,k,zs)∈L){i:Nat}{z:Int}(hz:zs[i]?=some z):load1 F M g i=some (.i k z):=by
 obtain⟨_,hin⟩:=mB ht _ hm
 unfold rL at hin
 split at hin
 ·rename_i ty n fz d cs hF;rw[aJ]at hin;obtain⟨h1,h2⟩:=mz hin.2
  have hg:M.get g=none:=hap g (by
   show(be F g).isSome=true;rw[show be F g=_ from hF];rfl)
  unfold load1;rw[aM hg,show be F g=_ from hF];have:=h2 i z hz
  rwa [Nat.zero_add]at this
 ·cases hin
theorem am6{L:List gk}{ty:Nat→Nat}{ct:Nat}(hL:∀t∈L,t.1<1000)(hc:1000≤ct):dH (pc L ty) .e ct:=by
 refine⟨fun b _=>rfl,fun b hb=>?_,fun b _=>rfl,hc⟩
 cases h:be (pc L ty) b with
 |none=>rfl
 |some x=>
  obtain⟨t,ht,e,_⟩:=wM h;have:=hL t ht;omega
theorem ly{P:Program}(hm:P.follows .mixedOrders=true){Φ:Nat→Option CF}(hΦ:eO P Φ){f:Nat}{L:List gk}{h:List V→Option V}
 (hh:∀args v ct ty,h args=some v→1000≤ct→bd (fun _=>False) v∧Calls Φ (pc L ty) f args .e ct fun r _ _=>r=v):b7 P f (bT L h):=by
 intro F args M ct v N ct' hg E c w hr hglob hbig hf ha
 have hW:=br0 hr hbig hf ha
 cases ht:bE F L with
 |false=>
  have hg':(bif bE F L then ofO (h args) M ct else .f)= .k v N ct':=hg;rw[ht]at hg';cases hg'
 |true=>
  rw[dC ht]at hg;cases hx:h args with
  |none=>rw[hx]at hg;cases hg
  |some x=>
   rw[hx]at hg;have hg2:RC.k x M ct= .k v N ct':=hg;injection hg2 with e1 e2 e3
   subst e1 e2 e3;obtain⟨ty,hrel⟩:=ww hr hglob ht;obtain⟨hbv,r,M1,ct1,hcall,rfl⟩:=hh args x ct ty hx hW.ge;obtain⟨fn,h1,h2,h3,hC⟩:=ix (rd:=none) (fn:=0) (F₀:=[]) hΦ (Eb hm hΦ) (pc L ty) f args .e ct r M1 ct1 hcall E c w (hrel.more fun b hb=>hbig b hb) hglob hbig hf ha;refine⟨fn,h1,h2,h3,hC.mono ?_⟩;rintro e w' ⟨E',c',rfl,hS,hb,hG⟩;have hfr:∀r,r<w.heap.size→w'.heap[r]?=w.heap[r]?:=fun r hr'=>hS.frame r hr' (fun b hb=>by cases hb);have hhas:∀b blk,look F M b=some blk→c b∧fF c blk∧ ∃o,w'.heap[E.ρ b]?=some o∧eY P E b blk o:=by
    intro b blk hb;obtain⟨g1,g2,o,ho,g3⟩:=hr.has b blk hb;exact⟨g1,g2,o,by rw[hfr _ (Array.getElem?_eq_some_iff.1 ho).1];exact ho,g3⟩
   refine⟨E,c,?_,⟨.refl c E,fun _ h=>h,⟨hhas,hr.inj,hr.apart⟩,fun b hb=> .inl ⟨b,hb,rfl⟩,fun r hr' _=>hfr r hr',hS.size,hS.os,hS.output,hS.tape⟩,dF (fun b hb=>hb.elim) r hbv,.refl _ _⟩;rw[eR hS.ext r (dF (fun b hb=>hb.elim) r hbv)]
section
variable{Φ:Nat→Option CF}{rd:Option Nat}{fn:Nat}{F:RO}
def bE0:V→Option V
 | .p b o=>some (.p b o)
 | .f g h c=>some (.f g h c)
 | .y l=>some (.y l)
 | .a t v=>some (.a t v)
 |_=>none
theorem jf(x:X)(M:Mem)(t:T):(cZ (.nck x) F M t).val=bE0 (x.ev t):=by
 show(nR x F M t).val=_
 unfold nR
 cases x.ev t<;>rfl
theorem ec(b o:Nat):bE0 (.p b o)=some (.p b o):=Eq.trans rfl (Eq.refl _)
theorem lZ(x:X)(M:Mem)(t:T):nw (.nck x) F M t=oV (bE0 (x.ev t)):=by
 refine(il ?_).trans (congrArg oV (jf (F:=F) x M t))
 intro F' M'
 refine mQ ?_
 show(nR x F' M' t= .f∨ ∃y,nR x F' M' t= .v y)
 unfold nR
 cases x.ev t<;>first|exact .inl rfl|exact .inr ⟨_,rfl⟩
def cpV:V→Option V
 | .l0=>some (.i .i64 0)
 | .l _ _ _ c=>some (.i .i64 (c:Int))
 |_=>none
theorem dc7(x:X)(M:Mem)(t:T):(cZ (.cp x) F M t).val=cpV (x.ev t):=by
 show(wm x F M t).val=_
 unfold wm
 cases x.ev t<;>rfl
theorem E8:cpV .l0=some (.i .i64 0):=Eq.trans rfl (Eq.refl _)
theorem WC(x:X)(M:Mem)(t:T):nw (.cp x) F M t=oV (cpV (x.ev t)):=by
 refine(il ?_).trans (congrArg oV (dc7 (F:=F) x M t))
 intro F' M'
 refine mQ ?_
 show(wm x F' M' t= .f∨ ∃y,wm x F' M' t= .v y)
 unfold wm
 cases x.ev t<;>first|exact .inl rfl|exact .inr ⟨_,rfl⟩
def sdV:V→Option V
 | .l0=>some .p0
 | .l b o _ c=>if c=0 then none else some (.p b o)
 | .u b o _ el kn=>if el<kn then some (.p b o)else none
 |_=>none
theorem Ao(x:X)(M:Mem)(t:T):wp x F M t=oV (sdV (x.ev t)):=by
 unfold wp
 cases x.ev t with
 |l b o n c=>
  show(bif Nat.beq c 0 then QR.f else .v (.p b o))=oV (if c=0 then none else some (.p b o));rw[bF];by_cases h:c=0
  ·rw[af h,ac h];rfl
  ·rw[ag h,ab h];rfl
 |u b o n el kn=>
  show(bif Nat.blt el kn then QR.v (.p b o)else .f)=oV (if el<kn then some (.p b o)else none);rw[eF];by_cases h:el<kn
  ·rw[af h,ac h];rfl
  ·rw[ag h,ab h];rfl
 |_=>rfl
theorem XL(o:Option V):(oV o).val=o:=by cases o<;>rfl
theorem dd0(x:X)(M:Mem)(t:T):(cZ (.sd x) F M t).val=sdV (x.ev t):=by
 show(wp x F M t).val=_
 rw[Ao,XL]
theorem WD(x:X)(M:Mem)(t:T):nw (.sd x) F M t=oV (sdV (x.ev t)):=by
 refine(il ?_).trans (congrArg oV (dd0 (F:=F) x M t))
 intro F' M'
 show wp x F' M' t=oV (wp x [] .e t).val
 rw[Ao,Ao,XL]
theorem bG4:sdV .l0=some .p0:=Eq.trans rfl (Eq.refl _)
theorem bk7{b o n el kn:Nat}(h:el<kn):sdV (.u b o n el kn)=some (.p b o):=ac h
def upV(F:RO)(M:Mem)(x:V):Option V:=(cZ (.up (.c x)) F M .e).val
theorem dd1(x:X)(M:Mem)(t:T):(cZ (.up x) F M t).val=upV F M (x.ev t):=Eq.trans rfl (Eq.refl _)
theorem ar0{M:Mem}{b o ty n:Nat}{ex str:Bool}{fz:Nat}{d:List V}{t:T}(h:M.get b=some (.cells ty n ex fz str d t))(ho:o<n):upV F M (.p b o)=some (.p b o):=by
 show(qI (look F M b) QR.f fun n _ _=>bif Nat.blt o n then QR.r (.p b o) b else .f).val=_
 rw[au h]
 show(bif Nat.blt o n then QR.r (.p b o) b else .f).val=_
 rw[eF,af ho];rfl
def dnV(ty sz:Nat)(F:RO)(M:Mem)(x:V):Option V:=(cZ (.dn ty sz (.c x)) F M .e).val
theorem dc8(ty sz:Nat)(x:X)(M:Mem)(t:T):(cZ (.dn ty sz x) F M t).val=dnV ty sz F M (x.ev t):=Eq.trans rfl (Eq.refl _)
theorem ae6{M:Mem}{b ty n:Nat}{str:Bool}{fz:Nat}{d:List V}{t:T}(h:M.get b=some (.cells ty n true fz str d t)):dnV ty n F M (.p b 0)=some (.p b 0):=by
 show(bx6 ty n b (look F M b)).val=_
 rw[au h]
 show(bif Nat.beq ty ty&&Nat.beq n n then QR.r (.p b 0) b else .f).val=_
 rw[Nat.beq_refl,Nat.beq_refl];rfl
def QV(r:QR):Prop:=r= .f∨ ∃y,r= .v y
theorem sY{r:QR}(b:Bool)(h:QV r):QV (bif b then r else .f):=by
 cases b with
 |false=>exact .inl rfl
 |true=>exact h
theorem Ja{r s:QR}(b:Bool)(h:QV r)(h':QV s):QV (bif b then r else s):=by
 cases b with
 |false=>exact h'
 |true=>exact h
theorem Y0(b o n c:Nat):QV (mkL b o n c):= .inr ⟨_,ER b o n c⟩
theorem Y1(b o n e k:Nat):QV (mkU b o n e k):= .inr ⟨_,Ac b o n e k⟩
theorem aq2(sz:Nat)(v:V)(a b d:Option Nat):QV (Cs sz v a b d):=by
 unfold Cs
 refine sY _ ?_
 cases v with
 |l b0 o len cap=>exact sY _ (Y0 _ _ _ _)
 |l0=>exact sY _ (.inr ⟨_,rfl⟩)
 |u b0 o len el kn=>
  cases d with
  |none=>exact sY _ (Ja _ (Y1 _ _ _ _ _) (Ja _ (Y1 _ _ _ _ _) (.inr ⟨_,by rw[aQ]⟩)))
  |some m=>exact sY _ (Y0 _ _ _ _)
 |ue b0 o0 o=>exact sY _ (.inr ⟨_,rfl⟩)
 |_=>exact .inl rfl
theorem by4(sz:Nat)(x:X)(lo hi mx:Option X)(M:Mem)(t:T):nw (.slL sz x lo hi mx) F M t=oV (Fo sz (x.ev t) (lo.map fun x=>x.ev t) (hi.map fun x=>x.ev t) (mx.map fun x=>x.ev t)):=by
 refine(il ?_).trans (congrArg oV (bl6 (F:=F) sz x lo hi mx M t))
 intro F' M'
 refine mQ ?_
 show QV (sX sz (x.ev t) (optNN t lo) (optNN t hi) (optNN t mx))
 cases optNN t lo with
 |none=>exact .inl rfl
 |some a=>
  cases optNN t hi with
  |none=>exact .inl rfl
  |some b=>
   cases optNN t mx with
   |none=>exact .inl rfl
   |some d=>exact aq2 _ _ _ _ _
def av1(o:Option (V×bw))(base i:Nat)(p:aF)(r:List (Nat×Nat×CO))(k:Kn)(t:T)(M:Mem)(c:Nat)(pend:List (Nat×Nat×bw))(reads:List (Nat×Nat))(R:DS→Prop):Prop:=match o with
 |some x=>pK base r k (.mk (t.setP p x.1) M c ((i,base+i,x.2)::pend) reads) R
 |none=>False
theorem IR(v:V)(b:bw)(base i:Nat)(p:aF)(r:List (Nat×Nat×CO))(k:Kn)(t:T)(M:Mem)(c:Nat)(pend:List (Nat×Nat×bw))(reads:List (Nat×Nat))(R:DS→Prop):
 av1 (some (v,b)) base i p r k t M c pend reads R=pK base r k (.mk (t.setP p v) M c ((i,base+i,b)::pend) reads) R:=Eq.trans rfl (Eq.refl _)
theorem at4(base i mask:Nat)(p:aF)(o:AO)(r:List (Nat×Nat×CO))(t:T)(M:Mem)(c:Nat)(pend:List (Nat×Nat×bw))(reads:List (Nat×Nat))(R:DS→Prop)(hl:(look F M (base+i)).isNone=true)(hr:dU (base+i) reads=true):
 pK base ((i,mask,.mk (some p) (.a o) none)::r) (K Φ rd fn F) (.mk t M c pend reads) R=av1 (jX o (base+i) t) base i p r (K Φ rd fn F) t M c pend reads R:=by
 have he:xf (K Φ rd fn F) base (i,mask,.mk (some p) (.a o) none) (.mk t M c pend reads)=Ea i (base+i) (some p) t M c pend reads (jX o (base+i) t):=by
  show(fN (Nat.add base i) fun b=>bif (look F M b).isNone&&dU b reads then Ea i b (some p) t M c pend reads (jX o b t)else none)=_;rw[aQ];show(bif (look F M (base+i)).isNone&&dU (base+i) reads then Ea i (base+i) (some p) t M c pend reads (jX o (base+i) t)else none)=_;rw[hl,hr];rfl
 apply propext
 rw[gP,he]
 cases jX o (base+i) t with
 |none=>exact⟨fun⟨s',h,_⟩=>(by cases h),False.elim⟩
 |some x=>
  have h2:Ea i (base+i) (some p) t M c pend reads (some x)=some (.mk (t.setP p x.1) M c ((i,base+i,x.2)::pend) reads):=by
   show((setT t (some p) x.1).force fun t=>some (DS.mk t M c ((i,base+i,x.2)::pend) reads))=_;rw[Tr.force_eq];rfl
  rw[h2];constructor
  ·rintro⟨s',h,q⟩;obtain rfl:=ae h;exact q
  ·exact fun q=>⟨_,rfl,q⟩
theorem kK(i b:Nat)(x:bw)(r:List (Nat×Nat×bw))(M:Mem):dS ((i,b,x)::r) M=dS r (M.set b x):=by
 show(M.set b x).force (fun M=>dS r M)=_
 rw[Tr.force_eq]
theorem jo(b:Nat):dU b []=true:=Eq.trans rfl (Eq.refl _)
theorem ed(b i b':Nat)(r:List (Nat×Nat))(h:b'≠b):dU b ((i,b')::r)=dU b r:=by
 show(bif Nat.beq b' b then false else dU b r)=_
 rw[bF,ag h];rfl
def t0(ty n:Nat)(row:List V):bw:= .cells ty n false 0 false [] (j5 row)
def nzA(ty:Nat)(l:V)(b:Nat):Option (V×bw):=jX (.nz ty (.c l)) b .e
theorem bs7(ty:Nat)(l:X)(b:Nat)(t:T):jX (.nz ty l) b t=nzA ty (l.ev t) b:=Eq.trans rfl (Eq.refl _)
theorem cr7(ty n b:Nat)(h:n≤1099511627776):nzA ty (.i .i64 (n:Int)) b=some (.u b 0 n 0 n,t0 ty n []):=by
 show(match Gi (.i .i64 (n:Int))with|some n=>bif Nat.ble n 1099511627776 then some (V.u b 0 n 0 n,bw.cells ty n false 0 false [] .e)else none|none=>none)=_
 show(bif Nat.ble n 1099511627776 then some (V.u b 0 n 0 n,bw.cells ty n false 0 false [] .e)else none)=_
 rw[bQ,af h];rfl
theorem Ln{n:Nat}{row:List V}(h:row.length≤n)(i:Nat)(hi:i<row.length):cell n [] (j5 row) i=row[i]?:=by
 rw[cN,ac (by omega)]
 unfold j5
 rw[dq,ac (by omega)]
 simp only[Nat.sub_zero]
 rw[List.getElem?_eq_getElem hi]
theorem wB{M:Mem}{b ty n:Nat}{row:List V}(h:M.get b=some (t0 ty n row))(hn:row.length≤n):cQ F M b 0 row:=fun k hk=>by
 rw[Nat.zero_add]
 unfold Ev.load1
 rw[au h]
 exact Ln hn k hk
theorem Ff{M:Mem}{b ty n:Nat}{row vs:List V}(h:M.get b=some (t0 ty n row))(hn:row.length+vs.length≤n)(h1:bh vs=true):du M b row.length vs=some (M.set b (t0 ty n (row++vs))):=by
 rw[t7 h hn (aP _) h1]
 unfold t0 j5
 have:=nJ row vs 0 .e
 rw[Nat.zero_add]at this
 rw[this]
def tl(M:Mem)(c0 c b:Nat)(v:V)(l:List UInt8):Prop:=
 (l=[]∧v= .l0)∨(c0≤b∧b<c∧ ∃n,(l.length≤n∧0<n)∧v= .u b 0 l.length 0 n∧M.get b=some (t0 5 n (l.map bV)))
theorem tl.up{M M':Mem}{c0 c c' b:Nat}{v:V}{l:List UInt8}(h:tl M c0 c b v l)(hc:c≤c')(hb:b<c→M'.get b=M.get b):tl M' c0 c' b v l:=by
 rcases h with h|⟨h1,h2,n,h3,h4,h5⟩
 ·exact .inl h
 ·exact .inr ⟨h1,by omega,n,h3,h4,by rw[hb h2];exact h5⟩
theorem bv1{M0 M:Mem}{c0 c b:Nat}{v:V}{l s:List UInt8}(h:tl M c0 c b v l)(hg:Gr c0 M0 c M)(hr:pa (l.length+s.length) 1=true):
 xe (tZ F M c 5 1 1 v (sV s)) fun v' M' c'=>∃b',tl M' c0 c' b' v' (l++s)∧Gr c0 M0 c' M'∧c≤c'∧(∀x,x<c→x≠b→M'.get x=M.get x)∧(b'=b∨c≤b'):=by
 unfold tZ
 rw[aq7]
 have e1:mc F M c 5 1 1 v (some (s.length,s.map bV))=app F M c 5 1 1 v s.length (s.map bV):=by
  show(bif bh (s.map bV)&&Nat.beq (s.map bV).length (Nat.mul s.length 1)then _ else _)=_;rw[gG,bF,af (show(s.map bV).length=Nat.mul s.length 1 by rw[List.length_map];exact(Nat.mul_one _).symm)];rfl
 rw[e1]
 have hmap:(l++s).map bV=l.map bV++s.map bV:=List.map_append
 by_cases hz:s=[]
 ·subst hz;have e2:app F M c 5 1 1 v 0 []= .k v M c:=by
   show(bif Nat.beq 0 0 then(bif yu v then RC.k v M c else .f)else _)=_;have:yu v=true:=by
    rcases h with⟨_,rfl⟩|⟨_,_,n,⟨hn,_⟩,rfl,_⟩
    ·rfl
    ·show Nat.ble l.length (Nat.sub n 0)=true;rw[bQ];exact af hn
   rw[this];rfl
  exact⟨v,M,c,e2,b,by rw[dw];exact h,hg,ak _,fun _ _ _=>rfl,.inl rfl⟩
 ·have hn0:s.length≠0:=fun e=>hz (List.length_eq_zero_iff.1 e);have grownEq:∀(N:Mem) (vs:List V) (k:Nat),pa k 1=true→vs.length=k→jc N c 5 1 k 0 false vs= .k (.u c 0 k 0 k) (N.set c (t0 5 k vs)) (c+1):=by
   intro N vs k hk hv;rw[qZ N c 5 1 k vs hk];unfold Ya t0;rw[hv]
  rcases h with⟨rfl,rfl⟩|⟨ha,hb,n,⟨hn,hn1⟩,rfl,hM⟩
  ·rw[eP,Nat.zero_add]at hr;refine⟨_,_,_,(Gg hn0).trans (grownEq M (s.map bV) s.length hr (List.length_map ..)),c,.inr ⟨hg.le,by omega,s.length,⟨ak _,by omega⟩,rfl,?_⟩,hg.set c _ hg.le (by omega) (by omega),by omega,fun x hx _=>am _ _ (by omega),.inr (ak _)⟩;rw[Tr.get_set,ac rfl];rfl
  ·by_cases hfit:l.length+s.length≤n
   ·have hst:=Ff hM (vs:=s.map bV) (by rw[List.length_map,List.length_map];exact hfit) (gG s);rw[List.length_map]at hst;have e3:pj F M c 5 1 1 b 0 l.length 0 n s.length (s.map bV)= .k (.u b 0 (l.length+s.length) 0 n) (M.set b (t0 5 n (l.map bV++s.map bV))) c:=by
     unfold pj;rw[bQ,af (show Nat.add (Nat.add 0 l.length) s.length≤n by show 0+l.length+s.length≤n;omega),cond_true];unfold y5;rw[show Nat.add 0 (Nat.mul l.length 1)=l.length by show 0+l.length*1=l.length;omega,hst];show fN (l.length+s.length) (fun len=>RC.k (.u b 0 len 0 n) _ c)=_;rw[aQ]
    refine⟨_,_,_,(DI hn0).trans e3,b,.inr ⟨ha,hb,n,⟨by rw[aV];exact hfit,hn1⟩,by rw[aV],?_⟩,hg.set b _ ha hb (ak _),ak _,fun x _ hxb=>am _ _ hxb,.inl rfl⟩;rw[Tr.get_set,ac rfl,hmap]
   ·have hcl:=(wB (F:=F) hM (by rw[List.length_map];exact hn))
    have hcl2:cQ F M b 0 (l.map fun x=>[bV x]).flatten:=by rw[gf];exact hcl
    obtain⟨r,hrd⟩:=nS Nat.one_pos (es:=l.map fun x=>[bV x]) (fun e he=>by obtain⟨x,_,rfl⟩:=List.mem_map.1 he;rfl) hcl2;rw[List.length_map,gf]at hrd;have hmw:gK M b 5 (Nat.add 0 (Nat.mul l.length 1)) (Nat.add 0 (Nat.mul (Nat.sub n 0) 1))=some (0,false):=by
     unfold gK;rw[hM];show(bif Nat.beq 5 5&&Nat.beq n (0+(n-0)*1)&&Nat.ble 0 (0+l.length*1)&&Nat.ble (0+l.length*1) (0+(n-0)*1)then some (0,false)else none)=_;rw[bF,bF,bQ,bQ,af (show 5=5 from rfl),af (show n=0+(n-0)*1 by omega),af (aP _),af (show 0+l.length*1≤0+(n-0)*1 by omega)];rfl
    have e3:pj F M c 5 1 1 b 0 l.length 0 n s.length (s.map bV)=jc (M.del b) c 5 1 (l.length+s.length) 0 false (l.map bV++s.map bV):=by
     unfold pj;rw[bQ,ag (show¬Nat.add (Nat.add 0 l.length) s.length≤n by show¬0+l.length+s.length≤n;omega),cond_false,hmw];show sI (M.del b) c 5 1 (l.length+s.length) 0 false (s.map bV) (readB F M 1 l.length b 0)=_;rw[hrd];rfl
    refine⟨_,_,_,((DI hn0).trans e3).trans (grownEq _ _ _ hr (by rw[aV,List.length_map,List.length_map])),c,.inr ⟨by omega,by omega,l.length+s.length,⟨by rw[aV];exact ak _,by omega⟩,by rw[aV],?_⟩,(hg.del b ha).set c _ (by omega) (by omega) (by omega),by omega,fun x hx hxb=>?_,.inr (ak _)⟩
    ·rw[Tr.get_set,ac rfl,hmap]
    ·rw[am _ _ (by omega),Tr.get_del,ab hxb]
def bw6(F:RO)(M:Mem)(c sz:Nat)(x y:V):RC:=Bu sz (.c x) (.c y) F M c .e
theorem CI(sz:Nat)(x y:X)(M:Mem)(c:Nat)(t:T):hU (.cpy sz x y) (K Φ rd fn F) M c t=bw6 F M c sz (x.ev t) (y.ev t):=Eq.trans rfl (Eq.refl _)
theorem bw7(M:Mem)(c sz b o e k:Nat):bw6 F M c sz (.u b o 0 e k) .l0= .k (.i .i64 0) M c:=by
 show fN (bif Nat.ble 0 0 then 0 else 0) (fun n=>bif Nat.beq n 0 then RC.k (.i .i64 0) M c else bw9 M c n (.u b o 0 e k) (pW F M sz n .l0))=_
 rw[aQ];rfl
end
section
variable{Φ:Nat→Option CF}{rd:Option Nat}{fn:Nat}{F:RO}
def c00(M M':Mem)(F F':RO)(s:List (Nat×bw)):Prop:=
 (∀b,(∃blk,(b,blk)∈s∧M'.get b=none∧M.get b=some blk)∨((∀blk,(b,blk)∉s)∧M'.get b=M.get b))∧(∀b,(be F' b).isSome→(∃blk,(b,blk)∈s)∨(be F b).isSome)∧(∀b blk,(b,blk)∈s→M.get b=some blk)
theorem jm(mask:Nat)(M0:Mem)(F0:RO):∀(reads:List (Nat×Nat)) (F:RO) (M:Mem) (s:List (Nat×bw)),c00 M0 M F0 F s→ ∃F' M' s',cj mask reads F M s=Pr.mk F' M' s'∧c00 M0 M' F0 F' s'
 |[],F,M,s,h=>⟨F,M,s,rfl,h⟩
 |(i,b)::r,F,M,s,h=>by
  rw[cj];cases testBit mask i with
  |true=>exact jm mask M0 F0 r F M s h
  |false=>
   rw[cond_false];cases hb:M.get b with
   |none=>exact jm mask M0 F0 r F M s h
   |some blk=>
    show∃F' M' s',(M.del b).force (fun M=>cj mask r ((b,blk)::F) M ((b,blk)::s))=Pr.mk F' M' s'∧_;rw[Tr.force_eq];refine jm mask M0 F0 r _ _ _ ⟨fun x=>?_,fun x hx=>?_,fun x y hxy=>?_⟩
    ·rw[Tr.get_del];rcases h.1 x with⟨y,h1,h2,h3⟩|⟨h1,h2⟩
     ·refine .inl ⟨y,bK _ h1,?_,h3⟩;split
      ·rfl
      ·exact h2
     ·by_cases e:x=b
      ·subst e;rw[ac rfl];exact .inl ⟨blk,cd ..,rfl,by rw[←h2];exact hb⟩
      ·rw[ab e];refine .inr ⟨fun y hy=>?_,h2⟩;rcases bj.1 hy with hy|hy
       ·injection hy with e1 _;exact e e1
       ·exact h1 y hy
    ·rw[dD]at hx;by_cases e:b=x
     ·subst e;exact .inl ⟨blk,cd ..⟩
     ·rw[ab e]at hx;rcases h.2.1 x hx with⟨y,hy⟩|hy
      ·exact .inl ⟨y,bK _ hy⟩
      ·exact .inr hy
    ·rcases bj.1 hxy with hxy|hxy
     ·injection hxy with e1 e2
      subst e1 e2;rcases h.1 x with⟨z,k1,k2,k3⟩|⟨k1,k2⟩
      ·rw[k2]at hb;cases hb
      ·rw[←k2];exact hb
     ·exact h.2.2 x y hxy
theorem iH:∀(s:List (Nat×bw)) (N:Mem) (b:Nat),(∀blk,(b,blk)∉s)→(bB s N).get b=N.get b
 |[],N,b,h=>rfl
 |(x,y)::r,N,b,h=>by
  show((N.set x y).force fun N=>bB r N).get b=_;rw[Tr.force_eq,iH r _ b fun blk hb=>h blk (bK _ hb),am];intro e;subst e;exact h y (cd ..)
theorem pF:∀(s:List (Nat×bw)) (N:Mem) (b:Nat) (blk:bw),(b,blk)∈s→(∀y,(b,y)∈s→y=blk)→(bB s N).get b=some blk
 |[],N,b,blk,h,_=>by cases h
 |(x,y)::r,N,b,blk,h,hu=>by
  show((N.set x y).force fun N=>bB r N).get b=_;rw[Tr.force_eq];by_cases hr:∃z,(b,z)∈r
  ·obtain⟨z,hz⟩:=hr;have:z=blk:=hu z (bK _ hz);subst this;exact pF r _ b z hz fun y hy=>hu y (bK _ hy)
  ·rw[iH r _ b fun z hz=>hr ⟨z,hz⟩];rcases bj.1 h with h|h
   ·injection h with e1 e2;subst e1 e2;exact av _ _ _
   ·exact absurd ⟨blk,h⟩ hr
theorem Zn{f:Nat}{v:V}{blk:bw}(base i mask:Nat)(dst:Option aF)(as:List X)(r:List (Nat×Nat×CO))(t:T)(M:Mem)(c:Nat)(reads:List (Nat×Nat))(R:DS→Prop)(ok:dH F M c)
 (hf:∀(F':RO) (M':Mem),fc (mK Φ) F' f (evs as t) M' c (Φ f)= .k v (M'.set c blk) (c+1))
 (hk:∀N:Mem,N.get c=some blk→(∀b,b≠c→N.get b=M.get b)→pK base r (K Φ rd fn F) (.mk (setT t dst v) N (c+1) [] reads) R):
 pK base ((i,mask,.mk dst (.e (.call f as)) none)::r) (K Φ rd fn F) (.mk t M c [] reads) R:=by
 obtain⟨F',M',s,hp,h1,h2,h3⟩:=jm mask M F reads F M [] ⟨fun b=> .inr ⟨fun _ h=>(by cases h),rfl⟩,fun b h=> .inr h,fun b blk h=>(by cases h)⟩
 have hcs:∀y,(c,y)∉s:=by
  intro y hy;rcases h1 c with⟨z,g1,g2,g3⟩|⟨g1,g2⟩
  ·rw[ok.hiM c (ak _)]at g3;cases g3
  ·exact g1 y hy
 have hro:bz (M'.set c blk) F'=true:=sZ _ _ fun b hb=>by
  have hbc:b≠c:=by
   intro e;subst e;rcases h2 b hb with⟨y,hy⟩|hy
   ·exact hcs y hy
   ·rw[ok.hiF b (ak _)]at hy;cases hy
  rw[am _ _ hbc];rcases h1 b with⟨z,g1,g2,g3⟩|⟨g1,g2⟩
  ·exact g2
  ·rcases h2 b hb with⟨y,hy⟩|hy
   ·exact absurd hy (g1 y)
   ·rw[g2];exact ok.ap b hy
 have he:xf (K Φ rd fn F) base (i,mask,.mk dst (.e (.call f as)) none) (.mk t M c [] reads)=some (.mk (setT t dst v) (bB s (M'.set c blk)) (c+1) [] reads):=by
  show vv (.call f as) (K Φ rd fn F) dst t c [] reads (cj mask reads F M [])=_;rw[hp];show(bif cY F' M' []then pX F' dst t [] reads s (fc (mK Φ) F' f (evs as t) M' c (Φ f))else none)=_;rw[hf];show(bif bz (M'.set c blk) F'&&cY F' (M'.set c blk) []then(bB s (M'.set c blk)).force fun M=>(setT t dst v).force fun t=>some (DS.mk t M (c+1) [] reads)else none)=_;rw[hro];show(bB s (M'.set c blk)).force (fun M=>(setT t dst v).force fun t=>some (DS.mk t M (c+1) [] reads))=_;rw[Tr.force_eq,Tr.force_eq]
 rw[gP]
 refine⟨_,he,hk _ ?_ fun b hb=>?_⟩
 ·rw[iH _ _ _ hcs];exact av _ _ _
 ·rcases h1 b with⟨z,g1,g2,g3⟩|⟨g1,g2⟩
  ·rw[pF s _ b z g1 fun y hy=>?_,g3];have:=h3 b y hy;rw[g3]at this;exact(ae this).symm
  ·rw[iH _ _ _ g1,am _ _ hb,g2]
end
def siB(s:List UInt8)(pos:Nat):bw:= .siter s.length (bP s) pos
def cx4(v:V)(b:Nat):Option (V×bw):=pB v none fun n s=>some (.p b 0,.siter n s 0)
theorem aa4(x:X)(b:Nat)(t:T):jX (.rgs x) b t=cx4 (x.ev t) b:=Eq.trans rfl (Eq.refl _)
theorem bG2(l:List UInt8)(b:Nat):cx4 (sV l) b=some (.p b 0,siB l 0):=Eq.trans rfl (Eq.refl _)
theorem ap2(s:ByteArray)(i:Nat)(h:128≤(s.get! i).toNat):128≤(Utf8.decode s i).1:=by
 unfold Utf8.decode
 simp only[cX,Utf8.runeError]
 rw[ab (by omega)]
 repeat' split
 all_goals first|omega|(simp_all;done)|(simp_all;omega)
def al7(M:Mem)(c:Nat):V→RC
 | .p b 0=>yC M c b (M.get b)
 |_=> .f
theorem uN{Φ:Nat→Option CF}{rd:Option Nat}{fn:Nat}{F:RO}(x:X)(M:Mem)(c:Nat)(t:T):hU (.nxs x) (K Φ rd fn F) M c t=al7 M c (x.ev t):=Eq.trans rfl (Eq.refl _)
theorem al9{M:Mem}{b:Nat}{l:List UInt8}(c:Nat)(h:M.get b=some (siB l l.length)):al7 M c (.p b 0)= .k (.t [.b false]) M c:=by
 show yC M c b (M.get b)=_
 rw[h]
 show(bif Nat.blt l.length l.length then _ else RC.k (.t [.b false]) M c)=_
 rw[eF,ag (Nat.lt_irrefl _),cond_false]
theorem bE6{M:Mem}{b:Nat}{l:List UInt8}{i:Nat}(c:Nat)(h:M.get b=some (siB l i))(hi:i<l.length)(hc:l[i].toNat<128):al7 M c (.p b 0)= .k (.t [.b true,.i .i64 (i:Int),.i .i32 (l[i].toNat:Int)]) (M.set b (siB l (i+1))) c:=by
 show yC M c b (M.get b)=_
 rw[h]
 show(bif Nat.blt i l.length then(fN (Nat.mod (Nat.div (bP l) (j4 i)) 256) fun ch=>bif Nat.blt ch 128 then _ else _)else _)=_
 rw[eF,af hi,cond_true,aQ,show Nat.mod (Nat.div (bP l) (j4 i)) 256=l[i].toNat from rH l i hi,eF,af hc,cond_true,aQ,g8];rfl
theorem bE5{M:Mem}{b:Nat}{l:List UInt8}{i:Nat}(c:Nat)(h:M.get b=some (siB l i))(hi:i<l.length)(hc:128≤l[i].toNat):∃r p:Nat,128≤r∧al7 M c (.p b 0)= .k (.t [.b true,.i .i64 (i:Int),.i .i32 (r:Int)]) (M.set b (siB l p)) c:=by
 refine⟨(Utf8.decode (ba l.length (bP l)) i).1,i+(Utf8.decode (ba l.length (bP l)) i).2,ap2 _ _ (by rw[W4 hi,rH l i hi];exact hc),?_⟩
 show yC M c b (M.get b)=_
 rw[h]
 show(bif Nat.blt i l.length then(fN (Nat.mod (Nat.div (bP l) (j4 i)) 256) fun ch=>bif Nat.blt ch 128 then _ else al8 M c b l.length (bP l) i (Utf8.decode (ba l.length (bP l)) i))else _)=_
 rw[eF,af hi,cond_true,aQ,show Nat.mod (Nat.div (bP l) (j4 i)) 256=l[i].toNat from rH l i hi,eF,ag (by omega),cond_false]
 unfold al8
 rw[aQ,aQ,g8];rfl
theorem cL8{Φ:Nat→Option CF}{rd:Option Nat}{fn:Nat}{F:RO}(base i mask j b:Nat)(blk:bw)(dst:Option aF)(o:EO)(r:List (Nat×Nat×CO))(t:T)(M:Mem)(c:Nat)(reads:List (Nat×Nat))(R:DS→Prop)(hj:(mask/2^j%2==1)=true)(hb:DN mask reads=true):
 pK base ((i,mask,.mk dst (.e o) none)::r) (K Φ rd fn F) (.mk t M c [(j,b,blk)] reads) R=G8 (hU o (K Φ rd fn F) (M.set b blk) c t) F dst base r (K Φ rd fn F) t reads R:=by
 have hp:=lU hb
 have hj':testBit mask j=true:=by
  show Nat.beq (Nat.mod (Nat.div mask (Nat.pow 2 j)) 2) 1=true;rw[bF];exact af (show mask/2^j%2=1 by simpa using hj)
 have hmg:jd mask [(j,b,blk)] M=(M.set b blk,[]):=by
  show(bif testBit mask j then(M.set b blk).force (fun M=>jd mask [] M)else _)=_;rw[hj',cond_true,Tr.force_eq];rfl
 have he:xf (K Φ rd fn F) base (i,mask,.mk dst (.e o) none) (.mk t M c [(j,b,blk)] reads)=pX F dst t [] reads [] (hU o (K Φ rd fn F) (M.set b blk) c t):=by
  show Bp o (K Φ rd fn F) mask dst t c reads (jd mask [(j,b,blk)] M)=_;rw[hmg];show vv o (K Φ rd fn F) dst t c [] reads (cj mask reads F (M.set b blk) [])=_;rw[hp];rfl
 apply propext
 rw[gP,he]
 cases hd:hU o (K Φ rd fn F) (M.set b blk) c t with
 |f=>exact⟨fun⟨s',h,_⟩=>(by cases h),False.elim⟩
 |k v M' c'=>
  have h2:pX F dst t [] reads [] (.k v M' c')=if bz M' F=true then some (DS.mk (setT t dst v) M' c' [] reads)else none:=by
   show(bif bz M' F&&cY F M' []then(bB [] M').force fun M=>(setT t dst v).force fun t=>some (DS.mk t M c' [] reads)else none)=_;cases hr:bz M' F with
   |false=>rfl
   |true=>
    show((bB [] M').force fun M=>(setT t dst v).force fun t=>some (DS.mk t M c' [] reads))=_;rw[Tr.force_eq,Tr.force_eq];rfl
  rw[h2];show _↔(bz M' F=true∧pK base r (K Φ rd fn F) (.mk (setT t dst v) M' c' [] reads) R);cases hr:bz M' F with
  |false=>exact⟨fun⟨s',h,_⟩=>(by simp at h),fun h=>(by cases h.1)⟩
  |true=>
   constructor
   ·rintro⟨s',h,q⟩;simp only[if_true]at h;obtain rfl:=ae h;exact⟨rfl,q⟩
   ·exact fun h=>⟨_,rfl,h.2⟩
def cD(F:RO)(g:Nat):Prop:=∃t b o,∀M:Mem,M.get g=none→load1 F M g 0=some (.a t (.p b o))
theorem E4{W:World}{a:Addr}{v:Value}(h:W.cell? a=some v):∃r o,a=⟨r,o,none⟩∧r<W.heap.size:=by
 obtain⟨r,o,sp⟩:=a
 unfold World.cell? at h
 split at h
 ·rename_i cs ty fr hh;have hlt:r<W.heap.size:=(Array.getElem?_eq_some_iff.1 hh).1;cases sp with
  |none=>exact⟨r,o,rfl,hlt⟩
  |some k=>simp at h
 ·cases h
def pZ(F:RO)(g:Nat):Option (Nat×Nat×Nat×Nat):=match be F g with
 |some (.cells ty n false fz true d c)=>bif Nat.beq n 1&&Nat.beq fz 1 then(match cell 1 d c 0 with
  |some (.a t (.p b o))=>some (ty,t,b,o)
  |_=>none)else none
 |_=>none
theorem yk{F:RO}{g ty t b o:Nat}(h:pZ F g=some (ty,t,b,o)):∃d c,be F g=some (.cells ty 1 false 1 true d c)∧cell 1 d c 0=some (.a t (.p b o)):=by
 unfold pZ at h
 split at h
 ·rename_i ty' n fz d c hF;cases hh:Nat.beq n 1&&Nat.beq fz 1 with
  |false=>rw[hh]at h;cases h
  |true=>
   rw[hh,cond_true]at h;rw[aJ,bF,bF]at hh;obtain rfl:=b9 hh.1;obtain rfl:=b9 hh.2;split at h
   ·rename_i t' b' o' hc;injection h with h;injection h with h1 h;injection h with h2 h;injection h with h3 h4
    subst h1 h2 h3 h4;exact⟨d,c,hF,hc⟩
   ·cases h
 ·cases h
def jH(F:RO):List Nat→Bool
 |[]=>true
 |g::r=>Nat.blt g 1000&&((pZ F g).isSome&&jH F r)
theorem qb{F:RO}:∀{L:List Nat},jH F L=true→ ∀g∈L,g<1000∧ ∃ty t b o,pZ F g=some (ty,t,b,o)
 |[],_,g,hg=>by cases hg
 |x::r,h,g,hg=>by
  have h':(Nat.blt x 1000&&((pZ F x).isSome&&jH F r))=true:=h;rw[aJ,aJ,eF]at h';rcases bj.1 hg with e|hg'
  ·subst e;obtain⟨⟨ty,t,b,o⟩,hq⟩:=bC.1 h'.2.1;exact⟨b9 h'.1,ty,t,b,o,hq⟩
  ·exact qb h'.2.2 g hg'
theorem Kp{F:RO}{g:Nat}(h:(pZ F g).isSome=true):cD F g:=by
 obtain⟨⟨ty,t,b,o⟩,hq⟩:=bC.1 h
 obtain⟨d,c,hF,hc⟩:=yk hq
 refine⟨t,b,o,fun M hM=>?_⟩
 unfold Ev.load1
 rw[aM hM,hF]
 exact hc
def Ei(ty t k o:Nat):bw:= .cells ty 1 false 1 true [.a t (.p k o)] .e
def BA(F:RO)(q:Nat→Nat×Nat×Nat):List Nat→Nat→RO
 |[],_=>F
 |g::r,k=>(g,Ei (q g).1 (q g).2.1 k (q g).2.2)::BA F q r (Nat.succ k)
theorem vE{F:RO}{q:Nat→Nat×Nat×Nat}:∀{L:List Nat} {k b:Nat} {blk:bw},be (BA F q L k) b=some blk→be F b=some blk∨ ∃i,L[i]?=some b∧blk=Ei (q b).1 (q b).2.1 (k+i) (q b).2.2
 |[],k,b,blk,h=> .inl h
 |g::r,k,b,blk,h=>by
  have h':Bool.rec (motive:=fun _=>Option bw) (be (BA F q r (k+1)) b) (some (Ei (q g).1 (q g).2.1 k (q g).2.2)) (Nat.beq g b)=some blk:=h;rw[bb,bF]at h';by_cases e:g=b
  ·rw[ac (by simpa using e)]at h';subst e;exact .inr ⟨0,rfl,(ae h').symm⟩
  ·rw[ab (by simpa using e)]at h';rcases vE h' with h|⟨i,h1,h2⟩
   ·exact .inl h
   ·exact .inr ⟨i+1,h1,by rw[h2,show k+1+i=k+(i+1) by omega]⟩
def Ej(F:RO)(L:List Nat)(i:Nat):Nat:=match L[i]? with
 |some g=>(match pZ F g with|some (_,_,b,_)=>b|none=>0)
 |none=>0
def u5(E:d7)(F:RO)(L:List Nat):d7:=⟨fun x=>if x<1000 then E.ρ x else E.ρ (Ej F L (x-1000)),fun x=>if x<1000 then E.β x else E.β (Ej F L (x-1000)),fun x=>if x<1000 then E.κ x else E.κ (Ej F L (x-1000))⟩
theorem iO(E:d7)(F:RO)(L:List Nat):qD (fun x=>x<1000) E (u5 E F L):=⟨fun b hb=>ac hb,fun b hb=>ac hb,fun b hb=>ac hb⟩
theorem Y4{P:Program}{E:d7}{F:RO}{M:Mem}{c:Nat→Prop}{w:World}{L:List gk}{gs:List Nat}(hr:kD P E F M c w)(hglob:∀g,g<1000→E.ρ g=g∧E.β g=0)(h:bE F L=true)(he:jH F gs=true):
 ∃ty q,kD P (u5 E F gs) (BA (pc L ty) q gs 1000) .e (fun x=>x<1000+gs.length) w:=by
 obtain⟨ty,hT⟩:=ww hr hglob h
 have hall:=qb he
 have hgl:∀g,g<1000→(u5 E F gs).ρ g=g:=fun g hg=>((iO E F gs).ρ g hg).trans (hglob g hg).1
 refine⟨ty,fun g=>match pZ F g with|some (ty,t,_,o)=>(ty,t,o)|none=>(0,0,0),⟨?_,?_,fun b hb=>rfl⟩⟩
 ·intro b blk hb;rw[aM (show(Tr.e:Mem).get b=none from rfl)]at hb;rcases vE hb with hb|⟨i,hi,rfl⟩
  ·obtain⟨h1,h2,o,h3,h4⟩:=hT.has b blk (by rw[aM (show(Tr.e:Mem).get b=none from rfl)];exact hb);have h1':b<1000:=h1;exact⟨Nat.lt_of_lt_of_le h1' (Nat.le_add_right _ _),fk (fun x (hx:x<1000)=>Nat.lt_of_lt_of_le hx (Nat.le_add_right _ _)) blk h2,o,by rw[hgl b h1',←(hglob b h1').1];exact h3,h4.ext (iO E F gs) h1' h2⟩
  ·have hm:=List.mem_of_getElem? hi;obtain⟨hb1,ty',t,b',o,hq⟩:=hall b hm;obtain⟨d,cc,hF,hc⟩:=yk hq;have hl:look F M b=some (.cells ty' 1 false 1 true d cc):=by
    rw[aM (hr.apart b (by rw[hF];rfl))];exact hF
   obtain⟨_,hbd,obj,ho,arr,fr,rfl,hC⟩:=hr.has _ _ hl;have hil:i<gs.length:=(List.getElem?_eq_some_iff.1 hi).1;have hn:Ej F gs i=b':=by unfold Ej;rw[hi];simp only[hq]
   simp only[hq];refine⟨Nat.lt_of_lt_of_le hb1 (Nat.le_add_right _ _),?_,_,by rw[hgl b hb1,←(hglob b hb1).1];exact ho,arr,fr,rfl,?_,?_,?_,fun hh=>by cases hh⟩
   ·intro k v hv;rw[cN]at hv;split at hv
    ·obtain rfl:k=0:=by omega
     obtain rfl:=ae hv;show 1000+i<1000+gs.length;omega
    ·cases hv
   ·intro k v hv;rw[cN]at hv;split at hv
    ·obtain rfl:k=0:=by omega
     obtain rfl:=ae hv;have:=hC.cell 0 _ hc;rw[(iO E F gs).β b hb1,this];show some (Value.iface t (.pointer (some ⟨E.ρ b',E.β b'+o,none⟩)))=some (Value.iface t (.pointer (some ⟨(u5 E F gs).ρ (1000+i),(u5 E F gs).β (1000+i)+o,none⟩)));have e1:(u5 E F gs).ρ (1000+i)=E.ρ b':=by
      show(if 1000+i<1000 then _ else E.ρ (Ej F gs (1000+i-1000)))=_;rw[ab (by omega),show 1000+i-1000=i by omega,hn]
     have e2:(u5 E F gs).β (1000+i)=E.β b':=by
      show(if 1000+i<1000 then _ else E.β (Ej F gs (1000+i-1000)))=_;rw[ab (by omega),show 1000+i-1000=i by omega,hn]
     rw[e1,e2]
    ·cases hv
   ·have:=hC.size;show arr.size=(u5 E F gs).β b+1+(u5 E F gs).κ b*_;rw[(iO E F gs).β b hb1,(iO E F gs).κ b hb1];exact this
   ·rw[(iO E F gs).β b hb1];exact hC.free
 ·intro b b' h1 h2 e
  have lt:∀x,(look (BA (pc L ty) (fun g=>match pZ F g with|some (ty,t,_,o)=>(ty,t,o)|none=>(0,0,0)) gs 1000) .e x).isSome→x<1000:=by
   intro x hx;obtain⟨y,hy⟩:=bC.1 hx;rw[aM (show(Tr.e:Mem).get x=none from rfl)]at hy;rcases vE hy with hy|⟨i,hi,_⟩
   ·exact(hT.has x y (by rw[aM (show(Tr.e:Mem).get x=none from rfl)];exact hy)).1
   ·exact(hall x (List.mem_of_getElem? hi)).1
  rw[hgl b (lt b h1),hgl b' (lt b' h2)]at e;exact e
def vY(L:List gk)(gs:List Nat):RO→List V→Mem→Nat→RC:=fun F args M ct=>match args with|[]=>bif bE F L&&jH F gs then .k (.b true) M ct else .f|_=> .f
theorem EG{F:RO}{L:List gk}{gs:List Nat}(h:bE F L=true)(h':jH F gs=true)(M:Mem)(c:Nat):vY L gs F [] M c= .k (.b true) M c:=by
 show(bif bE F L&&jH F gs then RC.k (.b true) M c else .f)=_
 rw[h,h'];rfl
def cx5(Φ:Nat→Option CF)(fuel:Nat)(F:RO)(f n:Nat):RC:=fc (exec Φ fuel) F f [] .e n (Φ f)
theorem uh{P:Program}(hm:P.follows .mixedOrders=true){Φ:Nat→Option CF}(hΦ:eO P Φ){fuel f n:Nat}{L:List gk}{gs:List Nat}(hn:1000+gs.length=n)(h:∀ty q,isT (cx5 Φ fuel (BA (pc L ty) q gs 1000) f n)=true):
 b7 P f (vY L gs):=by
 subst hn
 intro F args M ct v N ct' hg E c w hr hglob hbig hf ha
 cases args with
 |cons a r=>cases hg
 |nil=>
  have hg':(bif bE F L&&jH F gs then RC.k (.b true) M ct else .f)= .k v N ct':=hg;cases ht:bE F L&&jH F gs with
  |false=>rw[ht]at hg';cases hg'
  |true=>
   rw[ht]at hg';rw[aJ]at ht;have hg2:RC.k (.b true) M ct= .k v N ct':=hg';injection hg2 with e1 e2 e3
   subst e1 e2 e3;obtain⟨ty,q,hrel⟩:=Y4 hr hglob ht.1 ht.2;obtain⟨M',ct2,hk⟩:=Xm (h ty q);have hgl:∀g,g<1000→(u5 E F gs).ρ g=g∧(u5 E F gs).β g=0:=fun g hg=>⟨((iO E F gs).ρ g hg).trans (hglob g hg).1,((iO E F gs).β g hg).trans (hglob g hg).2⟩;obtain⟨fn,h1,h2,h3,hC⟩:=ix (rd:=none) (fn:=0) (F₀:=[]) hΦ (vF hm hΦ fuel) (BA (pc L ty) q gs 1000) f [] .e (1000+gs.length) (.b true) M' ct2 hk (u5 E F gs) (fun x=>x<1000+gs.length) w hrel hgl (fun g hg=>Nat.lt_of_lt_of_le hg (Nat.le_add_right _ _)) (fun b hb hc=>Nat.lt_irrefl _ (Nat.lt_of_lt_of_le hc hb)) trivial;refine⟨fn,h1,h2,h3,hC.mono ?_⟩;rintro e w' ⟨E',c',rfl,hS,hb,hG⟩;have hfr:∀r,r<w.heap.size→w'.heap[r]?=w.heap[r]?:=fun r hr'=>hS.frame r hr' (fun b hb=>by cases hb);have hhas:∀b blk,look F M b=some blk→c b∧fF c blk∧ ∃o,w'.heap[E.ρ b]?=some o∧eY P E b blk o:=by
    intro b blk hb;obtain⟨g1,g2,o,ho,g3⟩:=hr.has b blk hb;exact⟨g1,g2,o,by rw[hfr _ (Array.getElem?_eq_some_iff.1 ho).1];exact ho,g3⟩
   exact⟨E,c,rfl,⟨.refl c E,fun _ h=>h,⟨hhas,hr.inj,hr.apart⟩,fun b hb=> .inl ⟨b,hb,rfl⟩,fun r hr' _=>hfr r hr',hS.size,hS.os,hS.output,hS.tape⟩,trivial,.refl _ _⟩
theorem Ic{P:Program}{n nm:String}{text:List UInt8}{r:List (String×DataW Unit)}{W:World}{C g:Nat}{ti tp te ts:TypeId}{ms:Array (String×TypeId)}{f:Field}
 (hC:W.heap.size≤C) (h:laidMet P ((n,.iface nm (.ptr (.agg [.lit (.string text)])))::r) W)
 (hg:P.globalNamed n=some g) (ht:(P.globals[g]?).map (·.type)=some ti) (hi:P.underlying ti=some (.interface ms)) (hrow:∀u,P.typeName? 3 u=some nm→u=tp)
 (hp:P.underlying tp=some (.pointer te)) (he:P.underlying te=some (.struct #[f])) (hft:f.type=ts) (hfo:f.offset=0) (hs:P.underlying ts=some .string) (hc:P.cellsOf te=1) (hcs:P.cellsOf ts=1):
 (pZ (dR W C) g).isSome=true:=by
 obtain⟨a,s,hv,hca,_,_⟩:=laid_sentinel h hg ht hi hrow hp he hft hfo hs hc hcs
 obtain⟨rb,o,rfl,hlt⟩:=E4 hca
 have hv2:xM C (.iface tp (.pointer (some ⟨rb,o,none⟩)))=some (.a tp (.p rb o)):=ac (Nat.lt_of_lt_of_le hlt hC)
 unfold World.var? at hv
 rw[hg]at hv
 simp only[Option.bind_some]at hv
 split at hv
 ·rename_i cs ty fr hh;obtain rfl:=ae hv;have hcell:cell (#[Value.iface tp (.pointer (some ⟨rb,o,none⟩))]).size [] (mP ((#[Value.iface tp (.pointer (some ⟨rb,o,none⟩))]).toList.map (xM C)) 0 .e) 0=some (.a tp (.p rb o)):=(lj (ty:=ty)).2 ⟨_,rfl,hv2⟩;unfold pZ;rw[lh];have hh':W.heap[g]?=some (.cells #[Value.iface tp (.pointer (some ⟨rb,o,none⟩))] ty fr):=hh;rw[hh'];show Option.isSome (bif Nat.beq 1 1&&Nat.beq 1 1 then(match cell 1 [] (mP ((#[Value.iface tp (.pointer (some ⟨rb,o,none⟩))]).toList.map (xM C)) 0 .e) 0 with
   |some (.a t (.p b o))=>some (ty,t,b,o)
   |_=>none)else none)=true
  have hcell':cell 1 [] (mP ((#[Value.iface tp (.pointer (some ⟨rb,o,none⟩))]).toList.map (xM C)) 0 .e) 0=some (.a tp (.p rb o)):=hcell;rw[hcell'];rfl
 ·cases hv
section
variable{Φ:Nat→Option CF}{rd:Option Nat}{fn:Nat}{F:RO}
def Fg(I:Nat→Nat→St→Prop)(n:Nat)(Q:Ex→St→Prop):Ex→St→Prop
 | .gto l,s=>∃m,m<n∧I m l s
 |e,s=>Q e s
theorem Fh(I:Nat→Nat→St→Prop)(n:Nat)(Q:Ex→St→Prop)(s:St):Fg I n Q .ret s=Q .ret s:=Eq.trans rfl (Eq.refl _)
theorem LQ{tbl:CC}{Q:Ex→St→Prop}(I:Nat→Nat→St→Prop)(h:∀n l s,I n l s→ ∃c,jb l tbl=some c∧Wp c (K Φ rd fn F) s (Fg I n Q)):
 ∀n b s,Wp b (K Φ rd fn F) s (Fg I n Q)→Wp (.scope b tbl) (K Φ rd fn F) s Q:=by
 intro n
 induction n using Nat.strongRecOn with
 |_ n ih=>
  rintro b s ⟨e,s',he,q⟩;have h0:aT (.scope b tbl) (K Φ rd fn F) s=iG tbl (K Φ rd fn F) (aT b (K Φ rd fn F) s):=rfl;cases e with
  |gto l=>
   obtain⟨m,hm,hI⟩:=q;obtain⟨c,hc,hw⟩:=h m l s' hI;obtain⟨e2,s2,h2,q2⟩:=ih m hm c s' hw;refine⟨e2,s2,?_,q2⟩;rw[h0,he];show qt tbl (K Φ rd fn F) s' (jb l tbl)=_;rw[hc];show qH (K Φ rd fn F) (.scope c tbl) s'=_;rw[←h2];exact sB Φ rd fn F (.scope c tbl) s'
  |nrm=>exact⟨_,_,by rw[h0,he];rfl,q⟩
  |ret=>exact⟨_,_,by rw[h0,he];rfl,q⟩
  |ext id=>exact⟨_,_,by rw[h0,he];rfl,q⟩
end
section
variable{Φ:Nat→Option CF}{rd:Option Nat}{fn:Nat}{F:RO}
theorem mq{c:Nat}(mask:Nat):∀(reads:List (Nat×Nat)) (F:RO) (M:Mem) (s:List (Nat×bw)),bz M F=true→(∀x,c≤x→M.get x=none)→
 ∃F' M' s2,cj mask reads F M s=Pr.mk F' M' (s2++s)∧bz M' F'=true∧(∀b,look F' M' b=look F M b)∧(∀x,c≤x→M'.get x=none)∧ ∀N:Mem,(∀x,x<c→N.get x=M'.get x)→ ∀x,(bB s2 N).get x=if x<c then M.get x else N.get x
 |[],F,M,s,h2,h3=>⟨F,M,[],rfl,h2,fun _=>rfl,h3,fun N hN x=>by
  show N.get x=_;split
  ·rename_i h;exact hN x h
  ·rfl⟩
 |(i,x)::r,F,M,s,h2,h3=>by
  rw[cj];cases ht:testBit mask i with
  |true=>exact mq mask r F M s h2 h3
  |false=>
   show∃F' M' s2,(match M.get x with|none=>cj mask r F M s|some blk=>(M.del x).force fun M=>cj mask r ((x,blk)::F) M ((x,blk)::s))=_∧_;cases hb:M.get x with
   |none=>exact mq mask r F M s h2 h3
   |some blk=>
    have hxc:x<c:=by
     apply Classical.byContradiction;intro hx;rw[h3 x (by omega)]at hb;cases hb
    have hfr:bz (M.del x) ((x,blk)::F)=true:=by
     rw[gp,Tr.get_del,ac rfl,qo x h2];rfl
    obtain⟨F',M',s2,g1,g2,g3,g4,g5⟩:=mq mask r ((x,blk)::F) (M.del x) ((x,blk)::s) hfr (fun y hy=>by rw[Tr.get_del];split<;>first|rfl|exact h3 y hy);refine⟨F',M',s2++[(x,blk)],?_,g2,fun b=>?_,g4,fun N hN z=>?_⟩
    ·show((M.del x).force fun M=>cj mask r ((x,blk)::F) M ((x,blk)::s))=_;rw[Tr.force_eq,g1,oD];rfl
    ·rw[g3];by_cases e:b=x
     ·subst e;rw[au hb,aM (by rw[Tr.get_del,ac rfl]),dD,ac rfl]
     ·cases hM:M.get b with
      |some y=>rw[au hM,au (by rw[Tr.get_del,ab e];exact hM)]
      |none=>rw[aM hM,aM (by rw[Tr.get_del,ab e];exact hM),dD,ab (fun h=>e h.symm)]
    ·have key:∀(s2:List (Nat×bw)) (N:Mem),bB (s2++[(x,blk)]) N=(bB s2 N).set x blk:=by
      intro s2
      induction s2 with
      |nil=>intro N;show(N.set x blk).force (fun M=>M)=_;rw[Tr.force_eq];rfl
      |cons a s2 ih=>intro N;show(N.set a.1 a.2).force (fun M=>bB (s2++[(x,blk)]) M)=_;rw[Tr.force_eq,ih];show _=((N.set a.1 a.2).force fun M=>bB s2 M).set x blk;rw[Tr.force_eq]
     rw[key,Tr.get_set,g5 N hN];by_cases e1:z=x
     ·subst e1;rw[ac rfl,ac hxc,hb]
     ·rw[ab e1,Tr.get_del,ab e1]
theorem cL7(base i mask:Nat)(dst:Option aF)(o:EO)(r:List (Nat×Nat×CO))(t:T)(M:Mem)(c:Nat)(reads:List (Nat×Nat))(R:DS→Prop)(ok:dH F M c)
 (h:∀F' M',dH F' M' c→(∀b,look F' M' b=look F M b)→xe (hU o (K Φ rd fn F') M' c t) fun v M2 c2=>Gr c M' c2 M2∧ ∀M3,Gr c M c2 M3→(∀x,c≤x→M3.get x=M2.get x)→pK base r (K Φ rd fn F) (.mk (setT t dst v) M3 c2 [] reads) R):
 pK base ((i,mask,.mk dst (.e o) none)::r) (K Φ rd fn F) (.mk t M c [] reads) R:=by
 obtain⟨F',M',s2,g1,g2,g3,g4,g5⟩:=mq (c:=c) mask reads F M [] ok.free ok.hiM
 have ok':dH F' M' c:=by
  refine⟨g4,fun b hb=>?_,fun b hb=>?_,ok.ge⟩
  ·have:=g3 b;rw[aM (g4 b hb),ok.look hb]at this;exact this
  ·have:∃blk,(b,blk)∈F':=by
    clear g1 g2 g3 g5 h
    induction F' with
    |nil=>cases hb
    |cons a F' ih=>
     obtain⟨k,z⟩:=a;rw[dD]at hb;split at hb
     ·rename_i e;have e:k=b:=e;exact⟨z,by rw[e];exact cd ..⟩
     ·obtain⟨blk,hm⟩:=ih hb;exact⟨blk,bK _ hm⟩
   obtain⟨blk,hm⟩:=this;exact qp F' g2 b blk hm
 obtain⟨v,M2,c2,hd,hg,hR⟩:=h F' M' ok' g3
 have hun:=g5 M2 hg.old
 have he:xf (K Φ rd fn F) base (i,mask,.mk dst (.e o) none) (.mk t M c [] reads)=some (.mk (setT t dst v) (bB s2 M2) c2 [] reads):=by
  show vv o (K Φ rd fn F) dst t c [] reads (cj mask reads F M [])=_;rw[g1];show pX F' dst t [] reads (s2++[]) (hU o (K Φ rd fn F') M' c t)=_;rw[hd,dw];show(bif bz M2 F'&&true then(bB s2 M2).force fun M=>(setT t dst v).force fun t=>some (DS.mk t M c2 [] reads)else none)=_;rw[(hg.ok ok').free];show((bB s2 M2).force fun M=>(setT t dst v).force fun t=>some (DS.mk t M c2 [] reads))=_;rw[Tr.force_eq,Tr.force_eq]
 rw[gP]
 have hle:=hg.le
 exact⟨_,he,hR _ ⟨hle,fun b hb=>by rw[hun,ac hb],fun b hb=>by rw[hun,ab (by omega)];exact hg.new b hb⟩ (fun x hx=>by rw[hun,ab (by omega)])⟩
end
section
variable{Φ:Nat→Option CF}{rd:Option Nat}{fn:Nat}{F:RO}
end
section
variable{Φ:Nat→Option CF}{rd:Option Nat}{fn:Nat}{F:RO}
structure Dv(h:Nat→Prop)(c:Nat)(M:Mem)(c':Nat)(M':Mem):Prop where
 le:c≤c'
 old:∀b,b<c→ ¬h b→M'.get b=M.get b
 new:∀b,c'≤b→M'.get b=none
theorem Dv.of{h:Nat→Prop}{c c':Nat}{M M':Mem}(g:Gr c M c' M'):Dv h c M c' M':=⟨g.le,fun b hb _=>g.old b hb,g.new⟩
theorem Dv.trans{h:Nat→Prop}{M M1 M2:Mem}{c c1 c2:Nat}(g:Dv h c M c1 M1)(g2:Dv h c1 M1 c2 M2):Dv h c M c2 M2:=
 ⟨bp g.le g2.le,fun b hb hn=>(g2.old b (Nat.lt_of_lt_of_le hb g.le) hn).trans (g.old b hb hn),g2.new⟩
theorem Dv.wk{h h':Nat→Prop}{M M1:Mem}{c c1:Nat}(g:Dv h c M c1 M1)(hh:∀b,b<c→h b→h' b):Dv h' c M c1 M1:=
 ⟨g.le,fun b hb hn=>g.old b hb fun hx=>hn (hh b hb hx),g.new⟩
theorem Dv.gr{h:Nat→Prop}{M M1:Mem}{c0 c c1:Nat}(g:Dv h c M c1 M1)(h0:c0≤c)(hh:∀b,b<c0→ ¬h b):Gr c0 M c1 M1:=
 ⟨bp h0 g.le,fun b hb=>g.old b (by omega) (hh b hb),g.new⟩
theorem Dv.ok{h:Nat→Prop}{M M1:Mem}{c c1:Nat}(g:Dv h c M c1 M1)(ho:dH F M c)(hh:∀b,b<c→h b→ ∃x,M.get b=some x):dH F M1 c1:=by
 refine⟨g.new,fun b hb=>ho.hiF b (bp g.le hb),fun b hb=>?_,bp ho.ge g.le⟩
 have hlt:b<c:=by
  by_cases hc:b<c
  ·exact hc
  ·rw[ho.hiF b (by omega)]at hb;cases hb
 rw[g.old b hlt fun hx=>?_]
 ·exact ho.ap b hb
 ·obtain⟨x,hx⟩:=hh b hlt hx;rw[ho.ap b hb]at hx;cases hx
end
structure Dw where
 op:Int
 d:Int
 a:Int
 b:Int
 i:Int
def ED(x:Dw):List V:=[.i .i64 x.op,.i .i64 x.d,.i .i64 x.a,.i .i64 x.b,.i .i64 x.i]
theorem pC(p q:aF)(x y:V)(t:T):d5 [p,q] [x,y] t=some ((t.setP p x).setP q y):=by
 show(t.setP p x).force (fun t=>(t.setP q y).force fun t=>some t)=_
 rw[Tr.force_eq,Tr.force_eq]
def Np:CC:=(.reg [(qq a4 (.mv (x6 0)))])
def Nq:CC:=(.reg [(qq a5 (.mv z0)),(qq a6 (.mv z1)),(qq a7 (.xib z5 z6)),(qq a4 (.mv z7))])
def ac1:CF:= .mk 4 [.t a4] (.seq Np (.seq Nq .ret))
theorem cV8(v0 v1:V):aN 4 [v0,v1]=(.n (.n jq (some v1) jq) (some v0) eX):=rfl
def cS7:=ai @cV8 (ai (wu Np.eq_1) (wu Nq.eq_1))
def MO:CC:=(.reg [(qq a4 (.mv (x6 0)))])
def MP:CC:=(.reg [(qq dK (.mv z1)),(qq dL (.ln .str dM)),(qq a5 (.mv dA))])
def MQ:CC:=(.reg [(qq eD (.mv z5)),(qq eZ (.bi .eql eJ (x6 0))),(qq eN (.mv fh)),(bk fq (.mv z1) eN),(bk ej (.mv z0) eN),(bk eE (.bi .eql fO gD) eN),(qq eT (.pk fL xT gw)),(qq dJ (.mv ia))])
def MR:CC:=(.reg [(qq a4 (.mv (x6 0)))])
def MS:CC:=(.reg [(qq fP (.mv z5)),(qq ft (.bi .eql gV (x6 1))),(qq ga (.mv gy))])
def MT:CC:=(.reg [(qq ie (.mv z0)),(qq gz (.mv z1)),(qq fJ (.ixS iK (x6 0))),(ee gR (.call 120 [iU,j8])),(qq a4 (.mv iV))])
def MU:CC:=(.reg [(qq ig (.mv z5)),(qq iE (.mv z0)),(qq fj (.ln .str kC)),(qq fQ (.bi .geq jR kQ)),(qq gW (.mv jY))])
def MV:CC:=(.reg [(qq a4 (.mv (x6 (-1))))])
def MW:CC:=(.reg [(qq kd (.mv z5)),(qq kE (.ld1 (.c (.p 0 0)))),(qq jS (.bi .leq lN lO)),(qq gC (.mv lF)),(aj kR (.mv z0) gC),(aj lJ (.ln .str lQ) gC),(aj kW (.bi .leq n6 (x6 64)) gC),(qq kS (.pk lG og xF)),(qq kc (.mv oq))])
def Gk:CC:=(.reg [(qq kT (.mv z0)),(qq kU (.mv z1)),(qq mG (.bad)),(qq a4 (.mv n7))])
def Gl:CC:=(.cond lM (.seq Gk .ret) .skip)
def Gm:CC:=(.cond iX (.seq MV .ret) (.seq MW Gl))
def Gn:CC:=(.cond ib (.seq MT .ret) (.seq MU Gm))
def Gp:CC:=(.cond dX (.seq MR .ret) (.seq MS Gn))
def Gq:CC:=(.reg [(qq jV (.mv z1)),(qq ke (.ixS ot (x6 0))),(qq a6 (.mv n8))])
def Gs:CC:=(.reg [(qq mH (.mv z1)),(qq kX (.ixS mV (x6 1))),(qq a7 (.mv ng))])
def Gt:CC:=(.reg [(qq a8 (.mv (x6 0)))])
def Gu:CC:=(.reg [(qq jW (.mv z0)),(qq gb (.ln .str oU)),(qq ow (.mv z5)),(qq oy (.bi .sub pG qB)),(qq kF (.bi .add pf (x6 1))),(qq a9 (.mv qC))])
def Gv:CC:=(.reg [(qq cE (.mv (x6 0)))])
def Gw:CC:=(.reg [(qq kY (.mv z8)),(qq lK (.mv z9)),(qq nn (.bi .lss qE pg))])
def Gx:CC:=(.seq Gw (.cond pH .skip (.exit 1)))
def Gy:CC:=(.reg [(qq pM (.mv z0)),(qq oz (.mv z8)),(qq n9 (.ixS rV um)),(qq kZ (.mv z6)),(qq oX (.bi .neq tS rW))])
def Gz:CC:=(.reg [(qq oA (.mv z0)),(qq pN (.mv z8)),(qq oB (.bi .add pI (x6 1))),(qq lL (.mv z9)),(qq oY (.slS rP (some rY) (some uo))),(qq sf (.mv z6)),(ee pO (.call 120 [uQ,uR])),(qq cW (.mv uS))])
def GA:CC:=(.reg [(qq rR (.mv cM)),(qq sg (.bi .lss xn (x6 0)))])
def GB:CC:=(.reg [(qq a4 (.mv (x6 (-1))))])
def GC:CC:=(.cond xp (.seq GB .ret) .skip)
def GD:CC:=(.reg [(qq ur (.mv z8)),(qq va (.mv cM)),(qq rS (.bi .add yW (x6 1))),(qq rT (.bi .add xR AR)),(qq a8 (.mv AU))])
def GE:CC:=(.cond rX (.seq Gz (.seq (.seq GA GC) GD)) .skip)
def GF:CC:=(.reg [(qq vc (.mv z0)),(qq xw (.mv z8)),(qq pP (.bi .add AY (x6 1))),(qq zD (.ixS AV AZ)),(qq AW (.mv z7)),(qq oC (.bi .eql Dq FY)),(qq pi (.mv FZ)),(aj ut (.mv z0) pi),(aj AX (.mv z8) pi),(aj Ba (.mv z8) pi),(aj Bb (.mv z5) pi),(aj xX (.bi .add JD JE) pi),(aj Dk (.slS Dr (some G3) (some JF)) pi),(aj Dl (.mv z1) pi),(aj Dm (.bi .eql LY LZ) pi),(qq xY (.pk G0 M7 xF))])
def GG:CC:=(.reg [(qq DC (.mv z8)),(qq a4 (.mv Mh))])
def GH:CC:=(.cond M8 (.seq GG .ret) .skip)
def GI:CC:=(.reg [(qq DD (.mv z8)),(qq DE (.bi .add Mi (x6 1))),(qq a8 (.mv Mj))])
def GJ:CC:=(.reg [(qq Ga (.mv cT)),(qq Mc (.bi .add Mk (x6 1))),(qq cE (.mv ZU))])
def GK:CC:=(.reg [(qq Gb (.mv z5)),(qq tT (.ld1 (.c (.p 0 0)))),(qq sc (.bi .leq Ml wW)),(qq pL (.mv wX)),(aj mY (.mv cT) pL),(aj uY (.mv z8) pL),(dZ uZ (.call 122 [xQ]) pL),(aj za (.bi .gtr xP wY) pL),(qq zb (.pk xO CL xF))])
def GL:CC:=(.reg [(qq jU (.mv z0)),(qq xu (.mv z8)),(qq zc (.slS CN (some CP) none)),(qq zd (.mv z1)),(qq tU (.bad)),(qq dh (.mv CQ))])
def GM:CC:=(.reg [(qq ze (.mv cH)),(qq zf (.bi .geq CR (x6 0)))])
def GN:CC:=(.reg [(qq v7 (.mv cH)),(qq zg (.mv z8)),(qq v8 (.bi .add CT CU)),(qq a4 (.mv CV))])
def GO:CC:=(.cond CS (.seq GN .ret) .skip)
def GP:CC:=(.reg [(qq a4 (.mv (x6 (-1))))])
def GQ:CC:=(.seq GL (.seq (.seq GM GO) (.seq GP .ret)))
def GR:CC:=(.reg [(qq zh (.mv z5)),(qq zi (.ld1 (.c (.p 0 0)))),(qq zj (.bi .gtr CW CX)),(qq nl (.mv CY)),(aj zk (.mv cT) nl),(aj zl (.mv z8) nl),(aj zm (.bi .shr D1 (.c (.i .u64 4))) nl),(aj tV (.bi .add (x6 4) D2) nl),(aj jA (.bi .geq D0 AQ) nl),(qq zn (.pk CZ D3 xF)),(qq tW (.mv D4)),(aj zo (.mv z8) tW),(aj tX (.mv z9) tW),(aj zp (.bi .lss D6 D7) tW),(qq zq (.pk D5 D8 xF))])
def GS:CC:=(.reg [(qq zr (.mv z0)),(qq oW (.mv z8)),(qq tY (.slS Da (some FV) none)),(qq zt (.mv z1)),(ee zu (.call 123 [Db,Dc])),(qq d8 (.mv Dd))])
def GT:CC:=(.reg [(qq se (.mv cI)),(qq zw (.bi .lss De (x6 0)))])
def GU:CC:=(.reg [(qq a4 (.mv (x6 (-1))))])
def GV:CC:=(.cond Df (.seq GU .ret) .skip)
def GW:CC:=(.reg [(qq v9 (.mv z8)),(qq B2 (.mv cI)),(qq B4 (.bi .add Dg FW)),(qq a4 (.mv FX))])
def GX:CC:=(.seq GS (.seq (.seq GT GV) (.seq GW .ret)))
def GY:CC:=(.cond D9 GX .skip)
def GZ:CC:=(.cond CM GQ (.seq GR GY))
def H0:CC:=(.seq (.seq GF GH) (.seq GI (.seq GJ (.seq GK GZ))))
def H1:CC:=(.seq Gx (.block 2 (.seq (.seq Gy GE) H0)))
def H2:CC:=(.reg [(qq a4 (.mv (x6 (-1))))])
def H3:CC:=(.seq Gv (.seq (.block 1 (.loop H1)) (.seq H2 .ret)))
def H4:CC:=(.seq Gq (.seq Gs (.seq Gt (.seq Gu H3))))
def H5:CC:=(.seq MP (.seq (.block 0 (.seq MQ Gp)) H4))
def ab6:CF:= .mk 8 [.t a4] (.seq MO H5)
theorem cV3(v0 v1:V):aN 8 [v0,v1]=(.n (.n nX (some v1) nX) (some v0) sk7):=rfl
def bZ1:=ai @cV3 (ai (wu MO.eq_1) (ai (wu MP.eq_1) (ai (wu MQ.eq_1) (ai (wu MR.eq_1) (ai (wu MS.eq_1) (ai (wu MT.eq_1) (ai (wu MU.eq_1) (ai (wu MV.eq_1) (ai (wu MW.eq_1) (ai (wu Gk.eq_1) (ai (wu Gl.eq_1) (ai (wu Gm.eq_1) (ai (wu Gn.eq_1) (ai (wu Gp.eq_1) (ai (wu Gq.eq_1) (ai (wu Gs.eq_1) (ai (wu Gt.eq_1) (ai (wu Gu.eq_1) (ai (wu Gv.eq_1) (ai (wu Gw.eq_1) (ai (wu Gx.eq_1) (ai (wu Gy.eq_1) (ai (wu Gz.eq_1) (ai (wu GA.eq_1) (ai (wu GB.eq_1) (ai (wu GC.eq_1) (ai (wu GD.eq_1) (ai (wu GE.eq_1) (ai (wu GF.eq_1) (ai (wu GG.eq_1) (ai (wu GH.eq_1) (ai (wu GI.eq_1) (ai (wu GJ.eq_1) (ai (wu GK.eq_1) (ai (wu GL.eq_1) (ai (wu GM.eq_1) (ai (wu GN.eq_1) (ai (wu GO.eq_1) (ai (wu GP.eq_1) (ai (wu GQ.eq_1) (ai (wu GR.eq_1) (ai (wu GS.eq_1) (ai (wu GT.eq_1) (ai (wu GU.eq_1) (ai (wu GV.eq_1) (ai (wu GW.eq_1) (ai (wu GX.eq_1) (ai (wu GY.eq_1) (ai (wu GZ.eq_1) (ai (wu H0.eq_1) (ai (wu H1.eq_1) (ai (wu H2.eq_1) (ai (wu H3.eq_1) (ai (wu H4.eq_1) (wu H5.eq_1)))))))))))))))))))))))))))))))))))))))))))))))))))))))
def b44:CC:=(.reg [(qq a4 (.mv (.c (.s 0 0)))),(qq a5 (.mv (.c (.s 0 0)))),(qq a6 (.mv xF))])
def b45:CC:=(.reg [(qq a8 (.mv z0)),(qq a9 (.mv z1)),(ee cE (.call 106 [z8,z9])),(qq a7 (.mv cT))])
def b46:CC:=(.reg [(qq cW (.mv z7)),(qq dh (.bi .geq cM (x6 0)))])
def b47:CC:=(.dreg 12 [(0,0,(qq d8 (.mv z0))),(1,0,(qq dK (.mv z7))),(2,3,(qq dL (.slS cI none (some dM)))),(3,0,(qq dJ (.mv z0))),(4,0,(qq eD (.mv z7))),(5,0,(qq eZ (.mv z1))),(6,32,(qq eN (.ln .str fh))),(7,112,(qq fq (.bi .add eJ fL))),(8,248,(qq ej (.slS dX (some fO) none))),(9,7,(qq a4 (.mv dA))),(10,1023,(qq a5 (.mv gD))),(11,2047,(qq a6 (.mv xT)))])
def b48:CC:=(.seq b46 (.cond cH (.seq b47 .ret) .skip))
def b49:CC:=(.reg [(qq eE (.mv z0)),(qq a4 (.mv gw)),(qq a5 (.mv (.c (.s 0 0)))),(qq a6 (.mv xF))])
def c72:CF:= .mk 5 [.t a4,.t a5,.t a6] (.seq b44 (.seq (.seq b45 b48) (.seq b49 .ret)))
theorem e72(v0 v1:V):aN 5 [v0,v1]=(.n (.n eX (some v1) eX) (some v0) kV):=rfl
def B72:=ai @e72 (ai (wu b44.eq_1) (ai (wu b45.eq_1) (ai (wu b46.eq_1) (ai (wu b47.eq_1) (ai (wu b48.eq_1) (wu b49.eq_1))))))
def aO9:CC:=(.reg [(qq a4 (.mv (.c (.s 0 0)))),(qq a5 (.mv (.c (.s 0 0)))),(qq a6 (.mv xF))])
def aP0:CC:=(.reg [(qq a7 (.mv z0)),(qq a8 (.mv z1)),(ee a9 (.call 72 [z7,z8])),(qq cE (.ex 0 z9)),(qq cW (.ex 1 z9)),(qq dh (.ex 2 z9)),(qq a4 (.mv cT)),(qq a5 (.mv cM)),(qq a6 (.mv cH))])
def c44:CF:= .mk 4 [.t a4,.t a5,.t a6] (.seq aO9 (.seq aP0 .ret))
theorem e44(v0 v1:V):aN 4 [v0,v1]=(.n (.n jq (some v1) jq) (some v0) eX):=rfl
def B44:=ai @e44 (ai (wu aO9.eq_1) (wu aP0.eq_1))
def NR:CC:=(.reg [(qq a4 (.mv xF))])
def NS:CC:=(.reg [(qq a5 (.mv z0)),(qq a6 (.ln .str z5)),(qq a7 (.mv z1)),(qq a8 (.ln .str z7)),(qq a9 (.bi .geq z6 z8)),(qq cE (.mv z9)),(aj cW (.mv z0) cE),(aj dh (.mv z1) cE),(aj d8 (.ln .str cH) cE),(aj dK (.slS cM none (some cI)) cE),(aj dL (.mv z1) cE),(aj dJ (.bi .eql dM dA) cE),(qq eD (.pk cT dX xF)),(qq a4 (.mv eJ))])
def ac3:CF:= .mk 5 [.t a4] (.seq NR (.seq NS .ret))
theorem cW2(v0 v1:V):aN 5 [v0,v1]=(.n (.n eX (some v1) eX) (some v0) kV):=rfl
def bZ4:=ai @cW2 (ai (wu NR.eq_1) (wu NS.eq_1))
def Nb:CC:=(.reg [(qq a4 (.mv (.c (.s 0 0))))])
def Nc:CC:=(.reg [(qq a5 (.mv z0)),(qq a6 (.mv z1)),(ee a7 (.call 127 [z5,z6]))])
def Nd:CC:=(.reg [(qq a8 (.mv z0)),(qq a9 (.mv z1)),(qq cE (.ln .str z9)),(qq cW (.slS z8 (some cT) none)),(qq a4 (.mv cM))])
def Nf:CC:=(.seq Nc (.cond z7 (.seq Nd .ret) .skip))
def Ng:CC:=(.reg [(qq dh (.mv z0)),(qq a4 (.mv cH))])
def ab9:CF:= .mk 4 [.t a4] (.seq Nb (.seq Nf (.seq Ng .ret)))
theorem cV6(v0 v1:V):aN 4 [v0,v1]=(.n (.n jq (some v1) jq) (some v0) eX):=rfl
def bZ2:=ai @cV6 (ai (wu Nb.eq_1) (ai (wu Nc.eq_1) (ai (wu Nd.eq_1) (ai (wu Nf.eq_1) (wu Ng.eq_1)))))
def bd2:CC:=(.reg [(qq a4 (.mv (.c (.s 0 0))))])
def bd3:CC:=(.reg [(qq a5 (.mv z0)),(qq a6 (.mv z1)),(ee a7 (.call 110 [z5,z6])),(qq a4 (.mv z7))])
def c80:CF:= .mk 4 [.t a4] (.seq bd2 (.seq bd3 .ret))
theorem e80(v0 v1:V):aN 4 [v0,v1]=(.n (.n jq (some v1) jq) (some v0) eX):=rfl
def B80:=ai @e80 (ai (wu bd2.eq_1) (wu bd3.eq_1))
def pl:V→Option (List UInt8)
 | .s n x=>if bP (bl n x)=x then some (bl n x)else none
 |_=>none
theorem kf(l:List UInt8):pl (sV l)=some l:=by
 show(if bP (bl l.length (bP l))=bP l then some (bl l.length (bP l))else none)=_
 rw[my,ac rfl]
theorem bE8{v:V}{l:List UInt8}(h:pl v=some l):v=sV l:=by
 unfold pl at h
 split at h
 ·rename_i n x;split at h
  ·rename_i hx;obtain rfl:=ae h;show V.s n x=V.s (bl n x).length (bP (bl n x));rw[hx,eU]
  ·cases h
 ·cases h
def nc(c:UInt8):List UInt8→Nat→Option Nat
 |[],_=>none
 |x::r,i=>if x=c then some i else nc c r (i+1)
theorem zX{c:UInt8}:∀{l:List UInt8} {i k:Nat},nc c l i=some k→i≤k∧k<i+l.length
 |[],i,k,h=>by cases h
 |x::r,i,k,h=>by
  unfold nc at h;split at h
  ·obtain rfl:=ae h;simp
  ·have:=zX h;rw[bq];omega
theorem Ig(c:UInt8):∀(l:List UInt8) (i:Nat),nD c.toNat l.length (bP l) i=nc c l i
 |[],i=>rfl
 |x::r,i=>by
  have hx:=UInt8.toNat_lt x;show(bif Nat.beq ((x.toNat+256*bP r)%256) c.toNat then some i else nD c.toNat r.length ((x.toNat+256*bP r)/256) (Nat.succ i))=_;rw[show(x.toNat+256*bP r)%256=x.toNat by omega,show(x.toNat+256*bP r)/256=bP r by omega,bF,nc];by_cases h:x=c
  ·subst h;rw[af rfl,ac rfl];rfl
  ·rw[ag (fun e=>h (UInt8.toNat_inj.1 e)),ab h,cond_false];exact Ig c r (i+1)
def cM8(x c:V):Option V:=(cZ (.xib (.c x) (.c c)) [] .e .e).val
theorem cD4{F:RO}(x c:X)(M:Mem)(t:T):(cZ (.xib x c) F M t).val=cM8 (x.ev t) (c.ev t):=Eq.trans rfl (Eq.refl _)
def ll:Option Nat→Int
 |some k=>(k:Int)
 |none=> -1
theorem bX3(l:List UInt8)(c:UInt8):cM8 (sV l) (bV c)=some (.i .i64 (ll (nc c l 0))):=by
 show(F7 (nD (Nat.mod c.toNat 256) l.length (bP l) 0)).val=_
 have:=UInt8.toNat_lt c
 rw[show Nat.mod c.toNat 256=c.toNat from Nat.mod_eq_of_lt (by omega),Ig]
 cases nc c l 0<;>rfl
theorem db7(Φ:Nat→Option CF)(h:Φ 120=some ac1)(l:List UInt8)(b:UInt8)(ct:Nat):To Φ 120 [sV l,bV b] ct (.i .i64 (ll (nc b l 0))):=by
 refine bX h ?_
 simp only[WX,cS7,cD4,bX3]
def asB:V→Option UInt8
 | .i .u8 (.ofNat n)=>if n<256 then some (UInt8.ofNat n)else none
 |_=>none
theorem av8(b:UInt8):asB (bV b)=some b:=by
 have:=UInt8.toNat_lt b
 show(if b.toNat<256 then some (UInt8.ofNat b.toNat)else none)=_
 rw[ac (by omega),UInt8.ofNat_toNat]
theorem bE7{v:V}{b:UInt8}(h:asB v=some b):v=bV b:=by
 unfold asB at h
 split at h
 ·rename_i n;split at h
  ·obtain rfl:=ae h;show V.i .u8 (n:Int)=V.i .u8 ((UInt8.ofNat n).toNat:Int);rw[UInt8.toNat_ofNat',Nat.mod_eq_of_lt (by omega)]
  ·cases h
 ·cases h
def vN:List V→Option V
 |[v,w]=>(pl v).bind fun l=>(asB w).bind fun b=>some (.i .i64 (ll (nc b l 0)))
 |_=>none
theorem ah1(l:List UInt8)(b:UInt8):vN [sV l,bV b]=some (.i .i64 (ll (nc b l 0))):=by
 show(pl (sV l)).bind (fun l=>(asB (bV b)).bind fun b=>some (V.i .i64 (ll (nc b l 0))))=_
 rw[kf,Option.bind_some,av8,Option.bind_some]
theorem cX4(b:UInt8):uf (sV [b]) (.i .i64 0)=some (bV b):=BR [b] .i64 0 (by simp)
theorem db2(Φ:Nat→Option CF)(h:Φ 106=some ab6)(vN:Φ 120=some (.orc (ah vN)))(l:List UInt8)(b:UInt8)(ct:Nat):To Φ 106 [sV l,sV [b]] ct (.i .i64 (ll (nc b l 0))):=by
 refine bX h ?_
 have e:((([b]:List UInt8).length:Nat):Int)=1:=rfl
 have d0:decide (((([b]:List UInt8).length:Nat):Int)=0)=false:=rfl
 have d1:decide (((([b]:List UInt8).length:Nat):Int)=1)=true:=rfl
 by_cases hl:[b]=l
 ·have dl:decide ([b]=l)=true:=af hl;have hf:nc b l 0=some 0:=by rw[←hl];simp[nc]
  simp only[WX,Int.reduceEq,bZ1,Int.ofNat_one,dl,hf];rfl
 ·have dl:decide ([b]=l)=false:=ag hl;simp only[WX,Int.reduceEq,bZ1,Int.ofNat_one,dl,vN,cX4,ah1]
def ua:List V→Option V
 |[v,w]=>(pl v).bind fun l=>(pl w).bind fun s=>match s with|[b]=>some (.i .i64 (ll (nc b l 0)))|_=>none
 |_=>none
theorem Im(l:List UInt8)(b:UInt8):ua [sV l,sV [b]]=some (.i .i64 (ll (nc b l 0))):=by
 show(pl (sV l)).bind (fun l=>(pl (sV [b])).bind fun s=>match s with|[b]=>some (V.i .i64 (ll (nc b l 0)))|_=>none)=_
 rw[kf,Option.bind_some,kf,Option.bind_some]
def sA(c:UInt8)(l:List UInt8):V:=match nc c l 0 with
 |some k=> .t [sV (l.take k),sV (l.drop (k+1)),.b true]
 |none=> .t [sV l,.s 0 0,.b false]
theorem Ee{F:RO}(x:X)(lo hi:Option X)(M:Mem)(t:T):nw (.slS x lo hi) F M t=oV (Fp (x.ev t) (lo.map fun x=>x.ev t) (hi.map fun x=>x.ev t)):=by
 refine(il ?_).trans (congrArg oV (bl7 (F:=F) x lo hi M t))
 intro F' M'
 refine mQ ?_
 show((pB (x.ev t) QR.f fun n s=>jM n s (optN t 0 lo) (optN t n hi))= .f∨ ∃y,(pB (x.ev t) QR.f fun n s=>jM n s (optN t 0 lo) (optN t n hi))= .v y)
 cases x.ev t with
 |s n s=>
  show QV (jM n s (optN t 0 lo) (optN t n hi));generalize optN t 0 lo=a;generalize optN t n hi=b;cases a with
  |none=>exact .inl rfl
  |some a=>
   cases b with
   |none=>exact .inl rfl
   |some b=>
    show QV (Bool.rec (motive:=fun _=>QR) .f (Bool.rec (motive:=fun _=>QR) .f (vS (b-a) (s/256^a%256^(b-a))) (Nat.ble b n)) (Nat.ble a b));cases Nat.ble a b with
    |false=>exact .inl rfl
    |true=>
     cases Nat.ble b n with
     |false=>exact .inl rfl
     |true=>exact .inr ⟨_,by show vS _ _=_;unfold vS;rw[aQ,aQ]⟩
 |_=>exact .inl rfl
theorem t72(Φ:Nat→Option CF)(h:Φ 72=some c72)(ua:Φ 106=some (.orc (ah ua)))(l:List UInt8)(b:UInt8)(hl:l.length≤1073741824)(ct:Nat):To Φ 72 [sV l,sV [b]] ct (sA b l):=by
 refine bX h ?_
 unfold sA
 cases hf:nc b l 0 with
 |none=>
  have d:decide ((0:Int)≤ll none)=false:=rfl;simp only[WX,B72,ua,Im,hf,d]
 |some k=>
  have hk:=(zX hf).2;have d:decide ((0:Int)≤(k:Int))=true:=af (by omega);have hz:ll (some k)=(k:Int):=rfl;have e:((([b]:List UInt8).length:Nat):Int)=1:=rfl;have q1:aK .add (.i .i64 (k:Int)) (.i .i64 1)=some (.i .i64 ((k+1:Nat):Int)):=by rw[bH _ _ (by omega) (by omega)];simp
  have s1:=Yu l .i64 k (by omega);have s2:=yM l .i64 (k+1) (by omega);simp only[WX,B72,ua,Im,hf,d,hz,Int.ofNat_one,q1,s1,s2,Ee]
def uy:List V→Option V
 |[v,w]=>(pl v).bind fun l=>(pl w).bind fun s=>match s with|[b]=>if l.length≤1073741824 then some (sA b l)else none|_=>none
 |_=>none
theorem EA(l:List UInt8)(b:UInt8)(hl:l.length≤1073741824):uy [sV l,sV [b]]=some (sA b l):=by
 show(pl (sV l)).bind (fun l=>(pl (sV [b])).bind fun s=>match s with|[b]=>if l.length≤1073741824 then some (sA b l)else none|_=>none)=_
 rw[kf,Option.bind_some,kf,Option.bind_some]
 exact ac hl
theorem bx0(b:UInt8)(l:List UInt8):∃x y z,sA b l= .t [x,y,z]:=by
 unfold sA
 cases nc b l 0<;>exact⟨_,_,_,rfl⟩
theorem t44(Φ:Nat→Option CF)(h:Φ 44=some c44)(uy:Φ 72=some (.orc (ah uy)))(l:List UInt8)(b:UInt8)(hl:l.length≤1073741824)(ct:Nat):To Φ 44 [sV l,sV [b]] ct (sA b l):=by
 refine bX h ?_
 have h1:=EA l b hl
 obtain⟨x,y,z,hc⟩:=bx0 b l
 rw[hc]at h1⊢
 simp only[WX,B44,uy,h1]
def kw(l p:List UInt8):List UInt8:=if p.length≤l.length∧l.take p.length=p then l.drop p.length else l
theorem db8(Φ:Nat→Option CF)(h:Φ 127=some ac3)(l p:List UInt8)(ct:Nat):To Φ 127 [sV l,sV p] ct (.b (decide (p.length≤l.length∧l.take p.length=p))):=by
 refine bX h ?_
 by_cases h1:p.length≤l.length
 ·have d1:decide ((p.length:Int)≤(l.length:Int))=true:=af (by omega);have s1:=Yu l .i64 p.length h1;have e:decide (p.length≤l.length∧l.take p.length=p)=decide (l.take p.length=p):=by simp[h1]
  rw[e];simp only[WX,bZ4,d1,s1]
 ·have d1:decide ((p.length:Int)≤(l.length:Int))=false:=ag (by omega);have e:decide (p.length≤l.length∧l.take p.length=p)=false:=ag (fun hh=>h1 hh.1);rw[e];simp only[WX,bZ4,d1]
def ub:List V→Option V
 |[v,w]=>(pl v).bind fun l=>(pl w).bind fun p=>some (.b (decide (p.length≤l.length∧l.take p.length=p)))
 |_=>none
theorem Iq(l p:List UInt8):ub [sV l,sV p]=some (.b (decide (p.length≤l.length∧l.take p.length=p))):=by
 show(pl (sV l)).bind (fun l=>(pl (sV p)).bind fun p=>some (V.b (decide (p.length≤l.length∧l.take p.length=p))))=_
 rw[kf,Option.bind_some,kf,Option.bind_some]
theorem db5(Φ:Nat→Option CF)(h:Φ 110=some ab9)(ub:Φ 127=some (.orc (ah ub)))(l p:List UInt8)(ct:Nat):To Φ 110 [sV l,sV p] ct (sV (kw l p)):=by
 refine bX h ?_
 unfold kw
 by_cases hp:p.length≤l.length∧l.take p.length=p
 ·have d1:decide (p.length≤l.length∧l.take p.length=p)=true:=af hp;have s1:=yM l .i64 p.length hp.1;rw[ac hp];simp only[WX,bZ2,ub,Iq,d1,s1]
 ·have d1:decide (p.length≤l.length∧l.take p.length=p)=false:=ag hp;rw[ab hp];simp only[WX,bZ2,ub,Iq,d1]
def kJ:List V→Option V
 |[v,w]=>(pl v).bind fun l=>(pl w).bind fun p=>some (sV (kw l p))
 |_=>none
theorem Io(l p:List UInt8):kJ [sV l,sV p]=some (sV (kw l p)):=by
 show(pl (sV l)).bind (fun l=>(pl (sV p)).bind fun p=>some (sV (kw l p)))=_
 rw[kf,Option.bind_some,kf,Option.bind_some]
theorem t80(Φ:Nat→Option CF)(h:Φ 80=some c80)(kJ:Φ 110=some (.orc (ah kJ)))(l p:List UInt8)(ct:Nat):To Φ 80 [sV l,sV p] ct (sV (kw l p)):=by
 refine bX h ?_
 simp only[WX,B80,kJ,Io]
def bf5:CC:=(.reg [(qq a3 (.mv z0)),(qq a4 (.bi .geq z3 (.c (.i .u64 4294967296))))])
def bf6:CC:=(.reg [(qq a5 (.mv z0)),(qq a6 (.bi .shr z5 (.c (.i .u64 32)))),(qq a0 (.mv z6))])
def bf7:CC:=(.seq bf6 (.reg [(qq a2 (.mv (x6 32)))]))
def bf8:CC:=(.reg [(qq a7 (.mv z0)),(qq a8 (.bi .geq z7 (.c (.i .u64 65536))))])
def bf9:CC:=(.reg [(qq a9 (.mv z0)),(qq cE (.bi .shr z9 (.c (.i .u64 16)))),(qq a0 (.mv cT))])
def bg0:CC:=(.reg [(qq cW (.mv z2)),(qq dh (.bi .add cM (x6 16))),(qq a2 (.mv cH))])
def bg1:CC:=(.seq bf8 (.cond z8 (.seq bf9 bg0) .skip))
def bg2:CC:=(.reg [(qq d8 (.mv z0)),(qq dK (.bi .geq cI (.c (.i .u64 256))))])
def bg3:CC:=(.reg [(qq dL (.mv z0)),(qq dJ (.bi .shr dA (.c (.i .u64 8)))),(qq a0 (.mv dX))])
def VY:CC:=(.reg [(qq eD (.mv z2)),(qq eZ (.bi .add eJ (x6 8))),(qq a2 (.mv fh))])
def VZ:CC:=(.seq bg2 (.cond dM (.seq bg3 VY) .skip))
def W0:CC:=(.reg [(qq eN (.mv z2)),(qq fq (.mv z0)),(qq ej (.ci .u8 fO)),(qq eE (.ixS (.c (.s 256 1013866857139168856493015739252390649739422828853819106890363778118420553376247557433637691341895324351018602695588957474325319502760499485336098898398377509666851054660423406800006203933793007272033180812049178612605246075062580585469430410618860250057463399279570354286669047577758927328864388992123306212451509403152394148136105363817402562688186708175358218852349079190158732807302672745370040257219644697201681238697346923541678507645485296520536209706771857694240900605172937619415410180424934769249448772944216470541052485265558808433676546390051204254346932932316488017972311616136051587427851453983453479168)) gD)),(qq eT (.ci .i64 gw)),(qq ga (.bi .add fL ia)),(qq a2 (.mv ib))])
def W1:CC:=(.seq (.seq bf5 (.cond z4 bf7 .skip)) (.seq bg1 (.seq VZ (.seq W0 .ret))))
def W2:CC:=(.seq (.reg [(qq a2 (.mv (x6 0)))]) W1)
def c92:CF:= .mk 5 [.t a2] W2
theorem e92(v0:V):aN 5 [v0]=(.n kV (some v0) kV):=rfl
def B92:=ai @e92 (ai (wu bf5.eq_1) (ai (wu bf6.eq_1) (ai (wu bf7.eq_1) (ai (wu bf8.eq_1) (ai (wu bf9.eq_1) (ai (wu bg0.eq_1) (ai (wu bg1.eq_1) (ai (wu bg2.eq_1) (ai (wu bg3.eq_1) (ai (wu VY.eq_1) (ai (wu VZ.eq_1) (ai (wu W0.eq_1) (ai (wu W1.eq_1) (wu W2.eq_1))))))))))))))
def MG:CC:=(.reg [(qq a3 (.mv z0)),(qq a4 (.bi .mul z3 (x6 78913))),(qq a5 (.bi .shr z4 (.c (.i .u64 18)))),(qq a2 (.mv z5))])
def MH:CC:=(.seq (.reg [(qq a2 (.mv (x6 0)))]) (.seq MG .ret))
def ab3:CF:= .mk 3 [.t a2] MH
theorem cV0(v0:V):aN 3 [v0]=(.n jq (some v0) jq):=rfl
def cS2:=ai @cV0 (ai (wu MG.eq_1) (wu MH.eq_1))
def MI:CC:=(.seq (.reg [(qq a2 (.mv (x6 1)))]) .ret)
def MJ:CC:=(.seq (.reg [(qq a3 (.mv z0))]) (.cond z3 MI .skip))
def MK:CC:=(.seq (.reg [(qq a2 (.mv (x6 0)))]) .ret)
def ML:CC:=(.seq (.reg [(qq a2 (.mv (x6 0)))]) (.seq MJ MK))
def ab4:CF:= .mk 3 [.t a2] ML
theorem cV1(v0:V):aN 3 [v0]=(.n jq (some v0) jq):=rfl
def bZ0:=ai @cV1 (ai (wu MI.eq_1) (ai (wu MJ.eq_1) (ai (wu MK.eq_1) (wu ML.eq_1))))
def aZ7:CC:=(.reg [(qq a4 (.mv z0)),(ee a5 (.call 92 [z4])),(ee a6 (.call 101 [z5])),(qq a3 (.mv z6))])
def aZ8:CC:=(.reg [(qq a7 (.mv z3)),(qq a8 (.mv z0)),(qq a9 (.mv z3)),(qq cE (.iaA 20 1 (.c (.p 1 0)) z9)),(qq cW (.ld1 cT)),(qq dh (.bi .geq z8 cM)),(ee d8 (.call 102 [cH])),(qq dK (.bi .add z7 cI)),(qq a2 (.mv dM))])
def aZ9:CC:=(.seq (.reg [(qq a2 (.mv (x6 0)))]) (.seq aZ7 (.seq aZ8 .ret)))
def c66:CF:= .mk 4 [.t a2] aZ9
theorem e66(v0:V):aN 4 [v0]=(.n eX (some v0) eX):=rfl
def B66:=ai @e66 (ai (wu aZ7.eq_1) (ai (wu aZ8.eq_1) (wu aZ9.eq_1)))
def aZ2:CC:=(.reg [(qq a3 (.mv z0)),(qq a4 (.bi .lss z3 (x6 10)))])
def aZ3:CC:=(.reg [(qq a5 (.mv z0)),(qq a6 (.mv z0)),(qq a7 (.bi .add z6 (x6 1))),(qq a8 (.slS (.c (.s 36 237927390410950444456928663707796224754864904193074819559483181009558347043374296609072)) (some z5) (some z7))),(qq a2 (.mv z8))])
def aZ4:CC:=(.seq aZ2 (.cond z4 (.seq aZ3 .ret) .skip))
def aZ5:CC:=(.reg [(qq a9 (.mv z0)),(qq cE (.bi .mul z9 (x6 2))),(qq cW (.mv z0)),(qq dh (.bi .mul cM (x6 2))),(qq d8 (.bi .add cH (x6 2))),(qq dK (.slS (.c (.s 200 9938655150514779720929161263213647789093395803754561035662628441001274968862597953692946393464194303251501229616933063375291039650253924995779037586872666250072396106842829501851083234932712366962979930255066872747696324303968523733872590022915936937156789320557469720923390131174387415513794469201054844961267015441141542819553679203788501627738430154234325528792480477051962324423099068299719245009424585859096469223093538032153047611602695245052081125123941502624659711709950000)) (some cT) (some cI))),(qq a2 (.mv dM))])
def aZ6:CC:=(.seq (.reg [(qq a2 (.mv (.c (.s 0 0))))]) (.seq aZ4 (.seq aZ5 .ret)))
def c65:CF:= .mk 4 [.t a2] aZ6
theorem e65(v0:V):aN 4 [v0]=(.n eX (some v0) eX):=rfl
def B65:=ai @e65 (ai (wu aZ2.eq_1) (ai (wu aZ3.eq_1) (ai (wu aZ4.eq_1) (ai (wu aZ5.eq_1) (wu aZ6.eq_1)))))
def dO:Nat→Nat→List UInt8
 |0,_=>[]
 |k+1,n=>dO k (n/10)++[UInt8.ofNat (48+n%10)]
def nd(n:Nat):Nat:=if n<10 then 1 else if n<100 then 2 else if n<1000 then 3 else if n<10000 then 4 else if n<100000 then 5 else if n<1000000 then 6 else if n<10000000 then 7 else if n<100000000 then 8 else if n<1000000000 then 9 else 10
def bn(n:Nat):List UInt8:=dO (nd n) n
def cz:Int→List UInt8
 | .ofNat n=>bn n
 | .negSucc n=>45::bn (n+1)
theorem dG:∀k n,(dO k n).length=k
 |0,n=>rfl
 |k+1,n=>by rw[dO,aV,dG k];rfl
def l8N:Nat:=1013866857139168856493015739252390649739422828853819106890363778118420553376247557433637691341895324351018602695588957474325319502760499485336098898398377509666851054660423406800006203933793007272033180812049178612605246075062580585469430410618860250057463399279570354286669047577758927328864388992123306212451509403152394148136105363817402562688186708175358218852349079190158732807302672745370040257219644697201681238697346923541678507645485296520536209706771857694240900605172937619415410180424934769249448772944216470541052485265558808433676546390051204254346932932316488017972311616136051587427851453983453479168
def smN:Nat:=9938655150514779720929161263213647789093395803754561035662628441001274968862597953692946393464194303251501229616933063375291039650253924995779037586872666250072396106842829501851083234932712366962979930255066872747696324303968523733872590022915936937156789320557469720923390131174387415513794469201054844961267015441141542819553679203788501627738430154234325528792480477051962324423099068299719245009424585859096469223093538032153047611602695245052081125123941502624659711709950000
def dgN:Nat:=237927390410950444456928663707796224754864904193074819559483181009558347043374296609072
def h9(x:Nat):Nat:=if x<1 then 0 else if x<2 then 1 else if x<4 then 2 else if x<8 then 3 else if x<16 then 4 else if x<32 then 5 else if x<64 then 6 else if x<128 then 7 else 8
theorem KJ:(List.range 256).all (fun x=>l8N/256^x%256==h9 x)=true:=by decide+kernel
theorem bG5:(List.range 100).all (fun x=>(smN/256^(2*x)%256==48+x/10)&&(smN/256^(2*x+1)%256==48+x%10)&&(smN/256^(2*x)%256^2==(48+x/10)+256*(48+x%10)))=true:=by decide+kernel
theorem bx5:(List.range 10).all (fun x=>dgN/256^x%256^1==48+x)=true:=by decide+kernel
theorem Xs(x:Nat)(h:x<256):l8N/256^x%256=h9 x:=by
 have:=List.all_eq_true.1 KJ x (List.mem_range.2 h)
 simpa using this
theorem Yw(x:Nat)(h:x<100):smN/256^(2*x)%256=48+x/10∧smN/256^(2*x+1)%256=48+x%10∧smN/256^(2*x)%256^2=(48+x/10)+256*(48+x%10):=by
 have:=List.all_eq_true.1 bG5 x (List.mem_range.2 h)
 simp only[aJ,beq_iff_eq]at this
 exact⟨this.1.1,this.1.2,this.2⟩
theorem cj9(x:Nat)(h:x<10):dgN/256^x%256^1=48+x:=by
 have:=List.all_eq_true.1 bx5 x (List.mem_range.2 h)
 simpa using this
theorem A5(n s i:Nat)(k:IntKind)(h:i<n):uf (.s n s) (.i k (i:Int))=some (.i .u8 ((s/256^i%256:Nat):Int)):=by
 show(nQ n s i).val=_
 show(Bool.rec (motive:=fun _=>QR) QR.f (fN (Nat.mod (Nat.div s (j4 i)) 256) fun c=>QR.v (.i .u8 (.ofNat c))) (Nat.blt i n)).val=_
 rw[bb,eF,ac (by simpa using h),aQ];rfl
theorem Ix(x:Nat)(k:IntKind)(h:x<256):uf (.s 256 1013866857139168856493015739252390649739422828853819106890363778118420553376247557433637691341895324351018602695588957474325319502760499485336098898398377509666851054660423406800006203933793007272033180812049178612605246075062580585469430410618860250057463399279570354286669047577758927328864388992123306212451509403152394148136105363817402562688186708175358218852349079190158732807302672745370040257219644697201681238697346923541678507645485296520536209706771857694240900605172937619415410180424934769249448772944216470541052485265558808433676546390051204254346932932316488017972311616136051587427851453983453479168) (.i k (x:Int))=some (.i .u8 ((h9 x:Nat):Int)):=by
 have:=A5 256 l8N x k h
 rw[Xs x h]at this
 exact this
theorem eQ(n:Nat)(h:n<256):bV (UInt8.ofNat n)= .i .u8 (n:Int):=by
 show V.i .u8 ((UInt8.ofNat n).toNat:Int)=_
 rw[UInt8.toNat_ofNat',Nat.mod_eq_of_lt h]
theorem cq(x:Nat)(k:IntKind)(h:x<100):uf (.s 200 9938655150514779720929161263213647789093395803754561035662628441001274968862597953692946393464194303251501229616933063375291039650253924995779037586872666250072396106842829501851083234932712366962979930255066872747696324303968523733872590022915936937156789320557469720923390131174387415513794469201054844961267015441141542819553679203788501627738430154234325528792480477051962324423099068299719245009424585859096469223093538032153047611602695245052081125123941502624659711709950000) (.i k ((2*x:Nat):Int))=some (bV (UInt8.ofNat (48+x/10))):=by
 have:=A5 200 smN (2*x) k (by omega)
 rw[(Yw x h).1]at this
 rw[eQ _ (by omega)];exact this
theorem cu(x:Nat)(k:IntKind)(h:x<100):uf (.s 200 9938655150514779720929161263213647789093395803754561035662628441001274968862597953692946393464194303251501229616933063375291039650253924995779037586872666250072396106842829501851083234932712366962979930255066872747696324303968523733872590022915936937156789320557469720923390131174387415513794469201054844961267015441141542819553679203788501627738430154234325528792480477051962324423099068299719245009424585859096469223093538032153047611602695245052081125123941502624659711709950000) (.i k ((2*x+1:Nat):Int))=some (bV (UInt8.ofNat (48+x%10))):=by
 have:=A5 200 smN (2*x+1) k (by omega)
 rw[(Yw x h).2.1]at this
 rw[eQ _ (by omega)];exact this
theorem Jl(n s i j:Nat)(k k':IntKind)(h:i≤j)(h2:j≤n):Fp (.s n s) (some (.i k (i:Int))) (some (.i k' (j:Int)))=some (.s (j-i) (s/256^i%256^(j-i))):=by
 show(jM n s (some i) (some j)).val=_
 show(Bool.rec (motive:=fun _=>QR) .f (Bool.rec (motive:=fun _=>QR) .f (vS (j-i) (s/256^i%256^(j-i))) (Nat.ble j n)) (Nat.ble i j)).val=_
 rw[bb,bb,bQ,bQ,ac (by simpa using h),ac (by simpa using h2)]
 show(fN (j-i) fun n=>fN (s/256^i%256^(j-i)) fun x=>QR.v (.s n x)).val=_
 rw[aQ,aQ];rfl
theorem cx9(x:Nat)(h:x<10):Fp (.s 36 237927390410950444456928663707796224754864904193074819559483181009558347043374296609072) (some (.i .i64 (x:Int))) (some (.i .i64 ((x+1:Nat):Int)))=some (sV (bn x)):=by
 have:=Jl 36 dgN x (x+1) .i64 .i64 (by omega) (by omega)
 rw[show x+1-x=1 by omega,cj9 x h]at this
 refine this.trans ?_
 have e:bn x=[UInt8.ofNat (48+x)]:=by
  unfold bn nd;rw[ac h];show[UInt8.ofNat (48+x%10)]=_;rw[Nat.mod_eq_of_lt h]
 rw[e]
 show _=some (V.s 1 ((UInt8.ofNat (48+x)).toNat+256*0))
 rw[UInt8.toNat_ofNat',Nat.mod_eq_of_lt (by omega)];rfl
theorem cy0(x:Nat)(h:x<100)(h1:10≤x):Fp (.s 200 9938655150514779720929161263213647789093395803754561035662628441001274968862597953692946393464194303251501229616933063375291039650253924995779037586872666250072396106842829501851083234932712366962979930255066872747696324303968523733872590022915936937156789320557469720923390131174387415513794469201054844961267015441141542819553679203788501627738430154234325528792480477051962324423099068299719245009424585859096469223093538032153047611602695245052081125123941502624659711709950000) (some (.i .i64 ((2*x:Nat):Int))) (some (.i .i64 ((2*x+2:Nat):Int)))=some (sV (bn x)):=by
 have:=Jl 200 smN (2*x) (2*x+2) .i64 .i64 (by omega) (by omega)
 rw[show 2*x+2-2*x=2 by omega,(Yw x h).2.2]at this
 refine this.trans ?_
 have e:bn x=[UInt8.ofNat (48+x/10),UInt8.ofNat (48+x%10)]:=by
  unfold bn nd;rw[ab (by omega),ac h];show[UInt8.ofNat (48+x/10%10)]++[UInt8.ofNat (48+x%10)]=_;rw[Nat.mod_eq_of_lt (show x/10<10 by omega)];rfl
 rw[e]
 show _=some (V.s 2 ((UInt8.ofNat (48+x/10)).toNat+256*((UInt8.ofNat (48+x%10)).toNat+256*0)))
 rw[UInt8.toNat_ofNat',UInt8.toNat_ofNat',Nat.mod_eq_of_lt (show 48+x/10<2^8 by omega),Nat.mod_eq_of_lt (show 48+x%10<2^8 by omega)];rfl
def cg(n:Nat):Nat:=if n<256 then h9 n else if n<65536 then 8+h9 (n/256)else if n<16777216 then 16+h9 (n/65536)else 24+h9 (n/16777216)
theorem nr(x:Nat):h9 x≤8:=by
 unfold h9;repeat' split
 all_goals omega
theorem mE(a n:Nat)(hn:n≤64):aK .shr (.i .u64 (a:Int)) (.i .u64 (n:Int))=some (.i .u64 ((a/2^n:Nat):Int)):=by
 rw[DP]
 have:ek .u64 n=n:=by
  unfold ek;rw[bQ,af (show n≤jK .u64 from hn)];rfl
 rw[this,Int.fdiv_eq_ediv_of_nonneg _ (Int.natCast_nonneg _)];rfl
theorem j6(n:Nat)(h:n<256):IntKind.u8.wrap (n:Int)=(n:Int):=by rw[g9];omega
theorem ff(n:Nat)(h:n<9223372036854775808):IntKind.i64.wrap (n:Int)=(n:Int):=eC (by omega) (by omega)
theorem t92(Φ:Nat→Option CF)(h:Φ 92=some c92)(n:Nat)(hn:n<4294967296)(ct:Nat):To Φ 92 [.i .u64 (n:Int)] ct (.i .i64 (cg n:Int)):=by
 refine bX h ?_
 have d0:decide ((n:Int)≥4294967296)=false:=ag (by omega)
 have d0':decide ((4294967296:Int)≤(n:Int))=false:=ag (by omega)
 by_cases h1:n<256
 ·have d1:decide ((65536:Int)≤(n:Int))=false:=ag (by omega);have d2:decide ((256:Int)≤(n:Int))=false:=ag (by omega);have e:cg n=h9 n:=ac h1;have hb:=nr n;have ha:aK .add (.i .i64 0) (.i .i64 (h9 n:Int))=some (.i .i64 (h9 n:Int)):=by rw[bH _ _ (by omega) (by omega)];simp
  simp only[WX,B92,d0',d1,d2,j6 n h1,Ix n .u8 h1,ff (h9 n) (by omega),ha,e]
 ·by_cases h2:n<65536
  ·have d1:decide ((65536:Int)≤(n:Int))=false:=ag (by omega);have d2:decide ((256:Int)≤(n:Int))=true:=af (by omega);have e:cg n=8+h9 (n/256):=by unfold cg;rw[ab h1,ac h2]
   have hb:=nr (n/256);have hs:=mE n 8 (by omega);have ha0:aK .add (.i .i64 0) (.i .i64 8)=some (.i .i64 8):=bH 0 8 (by omega) (by omega);have ha:aK .add (.i .i64 8) (.i .i64 (h9 (n/256):Int))=some (.i .i64 ((8+h9 (n/256):Nat):Int)):=by rw[bH _ _ (by omega) (by omega)];simp
   rw[show((8:Nat):Int)=8 from rfl,show(2:Nat)^8=256 from rfl]at hs;simp only[WX,B92,d0',d1,d2,hs,ha0,j6 (n/256) (by omega),Ix (n/256) .u8 (by omega),ff (h9 (n/256)) (by omega),ha,e]
  ·by_cases h3:n<16777216
   ·have d1:decide ((65536:Int)≤(n:Int))=true:=af (by omega);have d2:decide ((256:Int)≤((n/65536:Nat):Int))=false:=ag (by omega);have e:cg n=16+h9 (n/65536):=by unfold cg;rw[ab h1,ab h2,ac h3]
    have hb:=nr (n/65536);have hs:=mE n 16 (by omega);have ha0:aK .add (.i .i64 0) (.i .i64 16)=some (.i .i64 16):=bH 0 16 (by omega) (by omega);have ha:aK .add (.i .i64 16) (.i .i64 (h9 (n/65536):Int))=some (.i .i64 ((16+h9 (n/65536):Nat):Int)):=by rw[bH _ _ (by omega) (by omega)];simp
    rw[show((16:Nat):Int)=16 from rfl,show(2:Nat)^16=65536 from rfl]at hs;simp only[WX,B92,d0',d1,d2,hs,ha0,j6 (n/65536) (by omega),Ix (n/65536) .u8 (by omega),ff (h9 (n/65536)) (by omega),ha,e]
   ·have d1:decide ((65536:Int)≤(n:Int))=true:=af (by omega);have d2:decide ((256:Int)≤((n/65536:Nat):Int))=true:=af (by omega);have e:cg n=24+h9 (n/16777216):=by unfold cg;rw[ab h1,ab h2,ab h3]
    have hb:=nr (n/16777216);have hs:=mE n 16 (by omega);have hs2:=mE (n/65536) 8 (by omega);have ha0:aK .add (.i .i64 0) (.i .i64 16)=some (.i .i64 16):=bH 0 16 (by omega) (by omega);have ha1:aK .add (.i .i64 16) (.i .i64 8)=some (.i .i64 24):=bH 16 8 (by omega) (by omega);have ha:aK .add (.i .i64 24) (.i .i64 (h9 (n/16777216):Int))=some (.i .i64 ((24+h9 (n/16777216):Nat):Int)):=by rw[bH _ _ (by omega) (by omega)];simp
    rw[show((16:Nat):Int)=16 from rfl,show(2:Nat)^16=65536 from rfl]at hs;rw[show((8:Nat):Int)=8 from rfl,show(2:Nat)^8=256 from rfl,Nat.div_div_eq_div_mul]at hs2;simp only[WX,B92,d0',d1,d2,hs,hs2,ha0,ha1,j6 (n/16777216) (by omega),Ix (n/16777216) .u8 (by omega),ff (h9 (n/16777216)) (by omega),ha,e]
def h92:List V→Option V
 |[.i .u64 (.ofNat n)]=>if n<4294967296 then some (.i .i64 (cg n:Int))else none
 |_=>none
theorem Xe{n:Nat}(h:n<4294967296):h92 [.i .u64 (n:Int)]=some (.i .i64 (cg n:Int)):=ac h
theorem ah4(a n:Nat)(hn:n≤64):aK .shr (.i .i64 (a:Int)) (.i .u64 (n:Int))=some (.i .i64 ((a/2^n:Nat):Int)):=by
 rw[DP]
 have:ek .i64 n=n:=by
  unfold ek;rw[bQ,af (show n≤jK .i64 from hn)];rfl
 rw[this,Int.fdiv_eq_ediv_of_nonneg _ (Int.natCast_nonneg _)];rfl
theorem da9(Φ:Nat→Option CF)(h:Φ 101=some ab3)(n:Nat)(hn:n<100)(ct:Nat):To Φ 101 [.i .i64 (n:Int)] ct (.i .i64 ((n*78913/262144:Nat):Int)):=by
 refine bX h ?_
 have h1:aK .mul (.i .i64 (n:Int)) (.i .i64 78913)=some (.i .i64 ((n*78913:Nat):Int)):=by rw[mi _ _ (by omega) (by omega)];simp
 have h2:=ah4 (n*78913) 18 (by omega)
 rw[show((18:Nat):Int)=18 from rfl,show(2:Nat)^18=262144 from rfl]at h2
 simp only[WX,cS2,h1,h2]
def u7:List V→Option V
 |[.i .i64 (.ofNat n)]=>if n<100 then some (.i .i64 ((n*78913/262144:Nat):Int))else none
 |_=>none
theorem Ij{n:Nat}(h:n<100):u7 [.i .i64 (n:Int)]=some (.i .i64 ((n*78913/262144:Nat):Int)):=ac h
theorem db0(Φ:Nat→Option CF)(h:Φ 102=some ab4)(b:Bool)(ct:Nat):To Φ 102 [.b b] ct (.i .i64 (if b=true then 1 else 0)):=by
 refine bX h ?_
 cases b
 ·simp only[WX,bZ0]
 ·simp only[WX,bZ0]
def u9:List V→Option V
 |[.b b]=>some (.i .i64 (if b=true then 1 else 0))
 |_=>none
theorem Il(b:Bool):u9 [.b b]=some (.i .i64 (if b=true then 1 else 0)):=rfl
theorem t65(Φ:Nat→Option CF)(h:Φ 65=some c65)(n:Nat)(hn:n<100)(ct:Nat):To Φ 65 [.i .i64 (n:Int)] ct (sV (bn n)):=by
 refine bX h ?_
 by_cases h1:n<10
 ·have d:decide ((n:Int)<10)=true:=af (by omega);have ha:aK .add (.i .i64 (n:Int)) (.i .i64 1)=some (.i .i64 ((n+1:Nat):Int)):=by rw[bH _ _ (by omega) (by omega)];simp
  simp only[WX,B65,d,ha,cx9 n h1]
 ·have d:decide ((n:Int)<10)=false:=ag (by omega);have hm:aK .mul (.i .i64 (n:Int)) (.i .i64 2)=some (.i .i64 ((2*n:Nat):Int)):=by rw[mi _ _ (by omega) (by omega)];simp;omega
  have ha:aK .add (.i .i64 ((2*n:Nat):Int)) (.i .i64 2)=some (.i .i64 ((2*n+2:Nat):Int)):=by rw[bH _ _ (by omega) (by omega)];simp
  simp only[WX,B65,d,hm,ha,cy0 n hn (by omega)]
def h65:List V→Option V
 |[.i .i64 (.ofNat n)]=>if n<100 then some (sV (bn n))else none
 |_=>none
theorem Xa{n:Nat}(h:n<100):h65 [.i .i64 (n:Int)]=some (sV (bn n)):=ac h
end
end Go.Proofs.YtmjeiphepinphaaGreatDoor.Ev
