/- What is proved here: pieces of the evaluator's soundness: if the evaluator comes to a value, the model's run comes to it, for every world and tape; no conditions beyond the hypotheses of each theorem. -/
import Derived.Test.YtcnblipfcihcpaaGreatDoorEv4
import Derived.Stop.LaidErr
import Derived.Shelf.Strings.Split
import Derived.Handed
import Derived.Shelf.Vars
set_option linter.unusedSimpArgs false
set_option linter.unusedVariables false
set_option linter.defProp false
set_option maxRecDepth 10000
set_option maxHeartbeats 4000000
namespace Go.Proofs.YtcnblipfcihcpaaGreatDoor.Ev
open Go Go.RowKit Go.ChangeShapes Go.Shelf Go.Proofs
noncomputable section
variable{Φ:Nat→Option CF}{F:RO}{L:List uN}{M M0 M' M1:Mem}{c c0 c' c1 b n sz ty o i ct:Nat}{v:V}{l:List UInt8}{es:List (List V)}{vs row:List V}{blk:bL}{t:T}{E:dj}{P:Program}
abbrev a0:aM:= .h
abbrev z0:X:= .t a0
abbrev a1:aM:= .l a0
abbrev z1:X:= .t a1
abbrev a2:aM:= .r a0
abbrev z2:X:= .t a2
abbrev a3:aM:= .l a1
abbrev z3:X:= .t a3
abbrev a4:aM:= .r a1
abbrev z4:X:= .t a4
abbrev a5:aM:= .l a2
abbrev z5:X:= .t a5
abbrev a6:aM:= .r a2
abbrev z6:X:= .t a6
abbrev a7:aM:= .l a3
abbrev z7:X:= .t a7
abbrev a8:aM:= .r a3
abbrev z8:X:= .t a8
abbrev a9:aM:= .l a4
abbrev z9:X:= .t a9
abbrev dp:aM:= .r a4
abbrev dx:X:= .t dp
abbrev dk:aM:= .l a5
abbrev dC:X:= .t dk
abbrev dy:aM:= .r a5
abbrev dX:X:= .t dy
abbrev dN:aM:= .l a6
abbrev dG:X:= .t dN
abbrev dL:aM:= .r a6
abbrev eu:X:= .t dL
abbrev dS:aM:= .l a7
abbrev dM:X:= .t dS
abbrev dY:aM:= .r a7
abbrev eF:X:= .t dY
abbrev eE:aM:= .l a8
abbrev eD:X:= .t eE
abbrev dT:aM:= .r a8
abbrev fm:X:= .t dT
abbrev eG:aM:= .l a9
abbrev fS:X:= .t eG
abbrev fF:aM:= .r a9
abbrev fD:X:= .t fF
abbrev eR:aM:= .l dp
abbrev gv:X:= .t eR
abbrev fv:aM:= .r dp
abbrev gb:X:= .t fv
abbrev fl:aM:= .l dk
abbrev gH:X:= .t fl
abbrev dU:aM:= .r dk
abbrev gM:X:= .t dU
abbrev eV:aM:= .l dy
abbrev gO:X:= .t eV
abbrev eb:aM:= .r dy
abbrev gw:X:= .t eb
abbrev fG:aM:= .l dN
abbrev gy:X:= .t fG
abbrev gi:aM:= .r dN
abbrev iz:X:= .t gi
abbrev gg:aM:= .l dL
abbrev iA:X:= .t gg
abbrev gQ:aM:= .r dL
abbrev iE:X:= .t gQ
abbrev j4:aM:= .l dS
abbrev jh:X:= .t j4
abbrev gj:aM:= .r dS
abbrev jL:X:= .t gj
abbrev iG:aM:= .l dY
abbrev kz:X:= .t iG
abbrev fT:aM:= .r dY
abbrev kC:X:= .t fT
abbrev j5:aM:= .l eE
abbrev kD:X:= .t j5
abbrev kv:aM:= .r eE
abbrev ll:X:= .t kv
abbrev jq:aM:= .l dT
abbrev kr:X:= .t jq
abbrev gR:aM:= .r dT
abbrev kW:X:= .t gR
abbrev j6:aM:= .l eG
abbrev lh:X:= .t j6
abbrev jr:aM:= .r eG
abbrev lm:X:= .t jr
abbrev kF:aM:= .l fF
abbrev lq:X:= .t kF
abbrev jM:aM:= .r fF
abbrev lr:X:= .t jM
abbrev j7:aM:= .l eR
abbrev mW:X:= .t j7
abbrev ky:aM:= .r eR
abbrev ny:X:= .t ky
abbrev js:aM:= .l fv
abbrev nG:X:= .t js
abbrev kX:aM:= .r fv
abbrev oD:X:= .t kX
abbrev kY:aM:= .l fl
abbrev nA:X:= .t kY
abbrev kB:aM:= .r fl
abbrev oE:X:= .t kB
abbrev iB:aM:= .l dU
abbrev nH:X:= .t iB
abbrev nC:aM:= .r dU
abbrev oF:X:= .t nC
abbrev kG:aM:= .l eV
abbrev pl:X:= .t kG
abbrev kH:aM:= .r eV
abbrev pS:X:= .t kH
abbrev j8:aM:= .l eb
abbrev pm:X:= .t j8
abbrev nK:aM:= .r eb
abbrev pU:X:= .t nK
abbrev nL:aM:= .l fG
abbrev qO:X:= .t nL
abbrev kI:aM:= .r fG
abbrev pn:X:= .t kI
abbrev lx:aM:= .l gi
abbrev qT:X:= .t lx
abbrev lT:aM:= .r gi
abbrev qU:X:= .t lT
abbrev qa:aM:= .l gg
abbrev sB:X:= .t qa
abbrev oI:aM:= .r gg
abbrev sw:X:= .t oI
abbrev qb:aM:= .l gQ
abbrev ug:X:= .t qb
abbrev pq:aM:= .r gQ
abbrev sy:X:= .t pq
abbrev pj:aM:= .l j4
abbrev tC:X:= .t pj
abbrev qc:aM:= .r j4
abbrev yA:X:= .t qc
abbrev qd:aM:= .l gj
abbrev uM:X:= .t qd
abbrev tG:aM:= .r gj
abbrev vn:X:= .t tG
abbrev tH:aM:= .l iG
abbrev xX:X:= .t tH
abbrev qQ:aM:= .r iG
abbrev xY:X:= .t qQ
abbrev um:aM:= .l fT
abbrev ya:X:= .t um
abbrev uo:aM:= .r fT
abbrev yb:X:= .t uo
abbrev qX:aM:= .l j5
abbrev yc:X:= .t qX
abbrev vE:aM:= .r j5
abbrev Bz:X:= .t vE
abbrev y6:aM:= .l kv
abbrev zL:X:= .t y6
abbrev y7:aM:= .r kv
abbrev BB:X:= .t y7
abbrev yl:aM:= .l jq
abbrev BC:X:= .t yl
abbrev y8:aM:= .r jq
abbrev BD:X:= .t y8
abbrev zT:aM:= .l gR
abbrev Dp:X:= .t zT
abbrev BN:aM:= .r gR
abbrev Gq:X:= .t BN
abbrev Gx:aM:= .l j6
abbrev z79:X:= .t Gx
abbrev Dl:aM:= .r j6
abbrev z80:X:= .t Dl
abbrev O3:aM:= .l jr
abbrev z81:X:= .t O3
abbrev O4:aM:= .r jr
abbrev z82:X:= .t O4
abbrev O5:aM:= .l kF
abbrev z83:X:= .t O5
abbrev vF:aM:= .r kF
abbrev z84:X:= .t vF
abbrev O6:aM:= .l jM
abbrev z85:X:= .t O6
abbrev O7:aM:= .r jM
abbrev z86:X:= .t O7
abbrev Ls:aM:= .l j7
abbrev z87:X:= .t Ls
abbrev O8:aM:= .r j7
abbrev z88:X:= .t O8
abbrev zU:aM:= .l ky
abbrev z89:X:= .t zU
abbrev OM:aM:= .r ky
abbrev z90:X:= .t OM
abbrev ON:aM:= .l js
abbrev z91:X:= .t ON
abbrev OO:aM:= .r js
abbrev z92:X:= .t OO
abbrev OP:aM:= .l kX
abbrev z93:X:= .t OP
abbrev Gy:aM:= .r kX
abbrev z94:X:= .t Gy
abbrev OQ:aM:= .l kY
abbrev z95:X:= .t OQ
abbrev OR:aM:= .r kY
abbrev z96:X:= .t OR
abbrev OS:aM:= .l kB
abbrev z97:X:= .t OS
abbrev OT:aM:= .r kB
abbrev z98:X:= .t OT
abbrev Gz:aM:= .l iB
abbrev z99:X:= .t Gz
abbrev vw:aM:= .r iB
abbrev Dg:X:= .t vw
abbrev pY:aM:= .l nC
abbrev yz:X:= .t pY
abbrev pZ:aM:= .r nC
abbrev Dh:X:= .t pZ
abbrev uj:aM:= .l kG
abbrev Gi:X:= .t uj
abbrev vz:aM:= .r kG
abbrev Gj:X:= .t vz
abbrev BG:aM:= .l kH
abbrev Gk:X:= .t BG
abbrev BH:aM:= .r kH
abbrev Gl:X:= .t BH
abbrev jV:aM:= .l j8
abbrev Gm:X:= .t jV
abbrev Dv:aM:= .r j8
abbrev Gn:X:= .t Dv
abbrev BI:aM:= .l nK
abbrev NE:X:= .t BI
abbrev BJ:aM:= .r nK
abbrev Gp:X:= .t BJ
abbrev yf:aM:= .l nL
abbrev ab3:X:= .t yf
abbrev Dw:aM:= .r nL
abbrev NF:X:= .t Dw
abbrev Dx:aM:= .l kI
abbrev NG:X:= .t Dx
abbrev Dy:aM:= .r kI
abbrev NH:X:= .t Dy
abbrev lw:aM:= .l lx
abbrev NI:X:= .t lw
abbrev yg:aM:= .r lx
abbrev NJ:X:= .t yg
abbrev Dz:aM:= .l lT
abbrev NK:X:= .t Dz
abbrev DA:aM:= .r lT
abbrev NL:X:= .t DA
abbrev DB:aM:= .l qa
abbrev NM:X:= .t DB
abbrev DC:aM:= .r qa
abbrev NN:X:= .t DC
abbrev pi:aM:= .l oI
abbrev NO:X:= .t pi
abbrev DD:aM:= .r oI
abbrev NP:X:= .t DD
abbrev DE:aM:= .l qb
abbrev NQ:X:= .t DE
abbrev yh:aM:= .r qb
abbrev NR:X:= .t yh
abbrev yi:aM:= .l pq
abbrev NS:X:= .t yi
abbrev DF:aM:= .r pq
abbrev NT:X:= .t DF
abbrev vA:aM:= .l pj
abbrev NU:X:= .t vA
abbrev yj:aM:= .r pj
abbrev NW:X:= .t yj
abbrev yk:aM:= .l qc
abbrev NX:X:= .t yk
abbrev DG:aM:= .r qc
abbrev NY:X:= .t DG
abbrev DH:aM:= .l qd
abbrev NZ:X:= .t DH
abbrev DI:aM:= .r qd
abbrev O0:X:= .t DI
abbrev Lj:aM:= .l tG
abbrev ab4:X:= .t Lj
abbrev zQ:aM:= .r tG
abbrev ab5:X:= .t zQ
abbrev Lk:aM:= .l tH
abbrev ab6:X:= .t Lk
abbrev Ll:aM:= .r tH
abbrev ab7:X:= .t Ll
abbrev Lm:aM:= .l qQ
abbrev ab8:X:= .t Lm
abbrev Ln:aM:= .r qQ
abbrev ab9:X:= .t Ln
abbrev zR:aM:= .l um
abbrev ac0:X:= .t zR
abbrev Lo:aM:= .r um
abbrev ac1:X:= .t Lo
abbrev Lq:aM:= .l uo
abbrev ac2:X:= .t Lq
abbrev Lr:aM:= .r uo
abbrev ac3:X:= .t Lr
abbrev Om:aM:= .l qX
abbrev aD6:X:= .t Om
abbrev BK:aM:= .r qX
abbrev aD7:X:= .t BK
abbrev On:aM:= .l vE
abbrev aD8:X:= .t On
abbrev Oo:aM:= .r vE
abbrev aD9:X:= .t Oo
abbrev Oq:aM:= .l y6
abbrev aE0:X:= .t Oq
abbrev Ot:aM:= .r y6
abbrev aE1:X:= .t Ot
abbrev uk:aM:= .l y7
abbrev aE2:X:= .t uk
abbrev Ou:aM:= .r y7
abbrev aE3:X:= .t Ou
abbrev Ov:aM:= .l yl
abbrev aE4:X:= .t Ov
abbrev Ow:aM:= .r yl
abbrev aE5:X:= .t Ow
abbrev Ox:aM:= .l y8
abbrev aE6:X:= .t Ox
abbrev zS:aM:= .r y8
abbrev aE7:X:= .t zS
abbrev vC:aM:= .l zT
abbrev aE8:X:= .t vC
abbrev Oy:aM:= .r zT
abbrev aE9:X:= .t Oy
abbrev Oz:aM:= .l BN
abbrev aF0:X:= .t Oz
abbrev OA:aM:= .r BN
abbrev aF1:X:= .t OA
abbrev OB:aM:= .l Gx
abbrev aF2:X:= .t OB
abbrev ul:aM:= .r Gx
abbrev aF3:X:= .t ul
abbrev OC:aM:= .l Dl
abbrev aF4:X:= .t OC
abbrev OD:aM:= .r Dl
abbrev aF5:X:= .t OD
abbrev OE:aM:= .l O3
abbrev aF6:X:= .t OE
abbrev OG:aM:= .r O3
abbrev aF7:X:= .t OG
abbrev vD:aM:= .l O4
abbrev aF8:X:= .t vD
abbrev OH:aM:= .r O4
abbrev aF9:X:= .t OH
abbrev ae6:aM:= .l O5
abbrev cd3:X:= .t ae6
abbrev ae7:aM:= .r O5
abbrev cd4:X:= .t ae7
abbrev OI:aM:= .l vF
abbrev cd5:X:= .t OI
abbrev DJ:aM:= .r vF
abbrev cd6:X:= .t DJ
abbrev ae8:aM:= .l O6
abbrev cd7:X:= .t ae8
abbrev ch1:aM:= .r O6
abbrev dC8:X:= .t ch1
abbrev ch2:aM:= .l O7
abbrev dC9:X:= .t ch2
abbrev ch3:aM:= .r O7
abbrev dD0:X:= .t ch3
abbrev ae9:aM:= .l Ls
abbrev dD1:X:= .t ae9
abbrev ch4:aM:= .r Ls
abbrev dD2:X:= .t ch4
abbrev ch5:aM:= .l O8
abbrev dD3:X:= .t ch5
abbrev ch6:aM:= .r O8
abbrev dD4:X:= .t ch6
abbrev BM:aM:= .l zU
abbrev dD5:X:= .t BM
abbrev ch7:aM:= .r zU
abbrev dD6:X:= .t ch7
abbrev ch8:aM:= .l OM
abbrev dD7:X:= .t ch8
abbrev ch9:aM:= .r OM
abbrev dD8:X:= .t ch9
abbrev ci0:aM:= .l ON
abbrev dD9:X:= .t ci0
abbrev ci1:aM:= .r ON
abbrev dE0:X:= .t ci1
abbrev ci2:aM:= .l OO
abbrev dE1:X:= .t ci2
abbrev ci3:aM:= .r OO
abbrev dE2:X:= .t ci3
abbrev af0:aM:= .l OP
abbrev dE3:X:= .t af0
abbrev ci4:aM:= .r OP
abbrev dE4:X:= .t ci4
abbrev ci5:aM:= .l Gy
abbrev dE5:X:= .t ci5
abbrev ci6:aM:= .r Gy
abbrev dE6:X:= .t ci6
abbrev af1:aM:= .l OQ
abbrev dE7:X:= .t af1
abbrev ci7:aM:= .r OQ
abbrev dE8:X:= .t ci7
abbrev ci8:aM:= .l OR
abbrev dE9:X:= .t ci8
abbrev ci9:aM:= .r OR
abbrev dF0:X:= .t ci9
abbrev OJ:aM:= .l OS
abbrev dF1:X:= .t OJ
abbrev cj0:aM:= .r OS
abbrev dF2:X:= .t cj0
abbrev cj1:aM:= .l OT
abbrev dF3:X:= .t cj1
abbrev cj2:aM:= .r OT
abbrev dF4:X:= .t cj2
abbrev cj3:aM:= .l Gz
abbrev dF5:X:= .t cj3
abbrev af2:aM:= .r Gz
abbrev dF6:X:= .t af2
abbrev cj4:aM:= .l vw
abbrev dF7:X:= .t cj4
abbrev cj5:aM:= .r vw
abbrev dF8:X:= .t cj5
abbrev cj6:aM:= .l pY
abbrev dF9:X:= .t cj6
abbrev OL:aM:= .r pY
abbrev dG0:X:= .t OL
abbrev cj7:aM:= .l pZ
abbrev dG1:X:= .t cj7
abbrev cj8:aM:= .r pZ
abbrev dG2:X:= .t cj8
abbrev cj9:aM:= .l uj
abbrev dG3:X:= .t cj9
abbrev ck0:aM:= .r uj
abbrev dG4:X:= .t ck0
abbrev sk1:T:= .n .e none .e
abbrev nF:T:= .n sk1 none sk1
abbrev iy:T:= .n nF none nF
abbrev lj:T:= .n iy none iy
abbrev mM:T:= .n lj none lj
abbrev sc:T:= .n mM none mM
abbrev sk7:T:= .n sc none sc
abbrev ia(u:List (Option V))(a:Nat):T:= .n .e (uO u a) .e
abbrev fu(u:List (Option V))(a b c:Nat):T:= .n (ia u a) (uO u b) (ia u c)
abbrev aq(u:List (Option V))(a b c d e f g:Nat):T:= .n (fu u a b c) (uO u d) (fu u e f g)
abbrev qq(d:aM)(o:QO):CO:=⟨some d,.q o,none⟩
abbrev XA(d:aM)(o:AO)(g:aM):CO:=⟨some d,.a o,some (g,true)⟩
abbrev Am(d:aM)(o:EO)(g:aM):CO:=⟨some d,.e o,some (g,false)⟩
abbrev eU(d:aM)(o:EO)(g:aM):CO:=⟨some d,.e o,some (g,true)⟩
abbrev aH(d:aM)(o:QO)(g:aM):CO:=⟨some d,.q o,some (g,false)⟩
abbrev av(d:aM)(o:QO)(g:aM):CO:=⟨some d,.q o,some (g,true)⟩
abbrev aa(d:aM)(o:AO):CO:=⟨some d,.a o,none⟩
abbrev ee(d:aM)(o:EO):CO:=⟨some d,.e o,none⟩
abbrev ez(o:EO):CO:=⟨none,.e o,none⟩
abbrev x6(n:Int):X:= .c (.i .i64 n)
abbrev xT:X:= .c (.b true)
abbrev xF:X:= .c (.b false)
theorem wu{b b1:CC}(h:b=b1)(k:Kn)(s:St)(R:Ex→St→Prop):Wp b k s R=Wp b1 k s R:=congrArg (fun x=>Wp x k s R) h
def X1{x0:Option V}(l:List (Option V)):List (Option V):=x0::l
def G1(l:List (Option V)):List (Option V):=none::l
def X2{x0 x1:Option V}(l:List (Option V)):List (Option V):=x0::x1::l
def G2(l:List (Option V)):List (Option V):=none::none::l
def X4{x0 x1 x2 x3:Option V}(l:List (Option V)):List (Option V):=x0::x1::x2::x3::l
def G4(l:List (Option V)):List (Option V):=none::none::none::none::l
def X8{x0 x1 x2 x3 x4 x5 x6 x7:Option V}(l:List (Option V)):List (Option V):=x0::x1::x2::x3::x4::x5::x6::x7::l
def cj{x0 x1 x2 x3 x4 x5 x6 x7 x8 x9 x10 x11 x12 x13 x14 x15:Option V}(l:List (Option V)):List (Option V):=x0::x1::x2::x3::x4::x5::x6::x7::x8::x9::x10::x11::x12::x13::x14::x15::l
def cw{x0 x1 x2 x3 x4 x5 x6 x7 x8 x9 x10 x11 x12 x13 x14 x15 x16 x17 x18 x19 x20 x21 x22 x23 x24 x25 x26 x27 x28 x29 x30 x31:Option V}(l:List (Option V)):List (Option V):=x0::x1::x2::x3::x4::x5::x6::x7::x8::x9::x10::x11::x12::x13::x14::x15::x16::x17::x18::x19::x20::x21::x22::x23::x24::x25::x26::x27::x28::x29::x30::x31::l
def bH{x0 x1 x2 x3 x4 x5 x6 x7 x8 x9 x10 x11 x12 x13 x14 x15 x16 x17 x18 x19 x20 x21 x22 x23 x24 x25 x26 x27 x28 x29 x30 x31 x32 x33 x34 x35 x36 x37 x38 x39 x40 x41 x42 x43 x44 x45 x46 x47 x48 x49 x50 x51 x52 x53 x54 x55 x56 x57 x58 x59 x60 x61 x62 x63:Option V}(l:List (Option V)):List (Option V):=x0::x1::x2::x3::x4::x5::x6::x7::x8::x9::x10::x11::x12::x13::x14::x15::x16::x17::x18::x19::x20::x21::x22::x23::x24::x25::x26::x27::x28::x29::x30::x31::x32::x33::x34::x35::x36::x37::x38::x39::x40::x41::x42::x43::x44::x45::x46::x47::x48::x49::x50::x51::x52::x53::x54::x55::x56::x57::x58::x59::x60::x61::x62::x63::l
def cI(L:List uN)(h:List V→Option V):RO→List V→Mem→Nat→RC:=fun F args M c=>bif bn F L then ofO (h args) M c else .f
theorem cP(ht:bn F L=true)(h:List V→Option V)(args:List V)(M:Mem)(c:Nat):cI L h F args M c=ofO (h args) M c:=by
 show(bif bn F L then ofO (h args) M c else .f)=_
 rw[ht];rfl
theorem Zh(ht:bn F L=true)(hap:∀b,(be F b).isSome→M.get b=none){g:Nat}{k:IntKind}{zs:List Int}(hm:(g,k,zs)∈L){z:Int}(hz:zs[i]?=some z):load1 F M g i=some (.i k z):=by
 obtain⟨_,hin⟩:=iT ht _ hm
 unfold kj at hin
 split at hin
 ·rename_i ty n fz d cs hF;rw[aC]at hin;obtain⟨h1,h2⟩:=mQ hin.2
  have hg:M.get g=none:=hap g (by
   show(be F g).isSome=true;rw[show be F g=_ from hF];rfl)
  unfold load1;rw[aQ hg,show be F g=_ from hF];have:=h2 i z hz
  rwa [Nat.zero_add]at this
 ·cases hin
theorem av7{ty:Nat→Nat}(hL:∀t∈L,t.1<1000)(hc:1000≤ct):cO (mR L ty) .e ct:=by
 refine⟨fun b _=>rfl,fun b hb=>?_,fun b _=>rfl,hc⟩
 cases h:be (mR L ty) b with
 |none=>rfl
 |some x=>
  obtain⟨t,ht,e,_⟩:=sj h;have:=hL t ht;omega
theorem lO(hm:P.follows .mixedOrders=true)(hΦ:fo P Φ){f:Nat}{h:List V→Option V}
 (hh:∀args v ct ty,h args=some v→1000≤ct→bd (fun _=>False) v∧Calls Φ (mR L ty) f args .e ct fun r _ _=>r=v):bY P f (cI L h):=by
 intro F args M ct v N ct' hg E c w hr hglob hbig hf ha
 have hW:=bx6 hr hbig hf ha
 cases ht:bn F L with
 |false=>
  have hg':(bif bn F L then ofO (h args) M ct else .f)= .k v N ct':=hg;rw[ht]at hg';cases hg'
 |true=>
  rw[cP ht]at hg;cases hx:h args with
  |none=>rw[hx]at hg;cases hg
  |some x=>
   rw[hx]at hg;have hg2:RC.k x M ct= .k v N ct':=hg;injection hg2 with e1 e2 e3
   subst e1 e2 e3;obtain⟨ty,hrel⟩:=xn hr hglob ht;obtain⟨hbv,r,M1,ct1,hcall,rfl⟩:=hh args x ct ty hx hW.ge;obtain⟨fn,h1,h2,h3,hC⟩:=iL (rd:=none) (fn:=0) (F₀:=[]) hΦ (EB hm hΦ) (mR L ty) f args .e ct r M1 ct1 hcall E c w (hrel.more fun b hb=>hbig b hb) hglob hbig hf ha;refine⟨fn,h1,h2,h3,hC.mono ?_⟩;rintro e w' ⟨E',c',rfl,hS,hb,hG⟩;have hfr:∀r,r<w.heap.size→w'.heap[r]?=w.heap[r]?:=fun r hr'=>hS.frame r hr' (fun b hb=>by cases hb);have hhas:∀b blk,look F M b=some blk→c b∧fw c blk∧ ∃o,w'.heap[E.ρ b]?=some o∧ft P E b blk o:=by
    intro b blk hb;obtain⟨g1,g2,o,ho,g3⟩:=hr.has b blk hb;exact⟨g1,g2,o,by rw[hfr _ (Array.getElem?_eq_some_iff.1 ho).1];exact ho,g3⟩
   refine⟨E,c,?_,⟨.refl c E,fun _ h=>h,⟨hhas,hr.inj,hr.apart⟩,fun b hb=> .inl ⟨b,hb,rfl⟩,fun r hr' _=>hfr r hr',hS.size,hS.os,hS.output,hS.tape⟩,dZ (fun b hb=>hb.elim) r hbv,.refl _ _⟩;rw[dO hS.ext r (dZ (fun b hb=>hb.elim) r hbv)]
section
variable{Φ:Nat→Option CF}{rd:Option Nat}{fn:Nat}{F:RO}
def bL2:V→Option V
 | .p b o=>some (.p b o)
 | .f g h c=>some (.f g h c)
 | .y l=>some (.y l)
 | .a t v=>some (.a t v)
 |_=>none
theorem sq(x:X)(M:Mem)(t:T):(dh (.nck x) F M t).val=bL2 (x.ev t):=by
 show(oe x F M t).val=_
 unfold oe
 cases x.ev t<;>rfl
theorem iN(b o:Nat):bL2 (.p b o)=some (.p b o):=Eq.trans rfl (Eq.refl _)
theorem sP(x:X)(M:Mem)(t:T):oM (.nck x) F M t=oV (bL2 (x.ev t)):=by
 refine(ij ?_).trans (congrArg oV (sq (F:=F) x M t))
 intro F' M'
 refine nq ?_
 show(oe x F' M' t= .f∨ ∃y,oe x F' M' t= .v y)
 unfold oe
 cases x.ev t<;>first|exact .inl rfl|exact .inr ⟨_,rfl⟩
def cpV:V→Option V
 | .l0=>some (.i .i64 0)
 | .l _ _ _ c=>some (.i .i64 (c:Int))
 |_=>none
theorem dy7(x:X)(M:Mem)(t:T):(dh (.cp x) F M t).val=cpV (x.ev t):=by
 show(wY x F M t).val=_
 unfold wY
 cases x.ev t<;>rfl
theorem Ew:cpV .l0=some (.i .i64 0):=Eq.trans rfl (Eq.refl _)
theorem Xh(x:X)(M:Mem)(t:T):oM (.cp x) F M t=oV (cpV (x.ev t)):=by
 refine(ij ?_).trans (congrArg oV (dy7 (F:=F) x M t))
 intro F' M'
 refine nq ?_
 show(wY x F' M' t= .f∨ ∃y,wY x F' M' t= .v y)
 unfold wY
 cases x.ev t<;>first|exact .inl rfl|exact .inr ⟨_,rfl⟩
def sdV:V→Option V
 | .l0=>some .p0
 | .l b o _ c=>if c=0 then none else some (.p b o)
 | .u b o _ el kn=>if el<kn then some (.p b o)else none
 |_=>none
theorem AL(x:X)(M:Mem)(t:T):xd x F M t=oV (sdV (x.ev t)):=by
 unfold xd
 cases x.ev t with
 |l b o n c=>
  show(bif Nat.beq c 0 then QR.f else .v (.p b o))=oV (if c=0 then none else some (.p b o));rw[bK];by_cases h:c=0
  ·rw[af h,ae h];rfl
  ·rw[ah h,ab h];rfl
 |u b o n el kn=>
  show(bif Nat.blt el kn then QR.v (.p b o)else .f)=oV (if el<kn then some (.p b o)else none);rw[eT];by_cases h:el<kn
  ·rw[af h,ae h];rfl
  ·rw[ah h,ab h];rfl
 |_=>rfl
theorem Yc(o:Option V):(oV o).val=o:=by cases o<;>rfl
theorem dz0(x:X)(M:Mem)(t:T):(dh (.sd x) F M t).val=sdV (x.ev t):=by
 show(xd x F M t).val=_
 rw[AL,Yc]
theorem Xi(x:X)(M:Mem)(t:T):oM (.sd x) F M t=oV (sdV (x.ev t)):=by
 refine(ij ?_).trans (congrArg oV (dz0 (F:=F) x M t))
 intro F' M'
 show xd x F' M' t=oV (xd x [] .e t).val
 rw[AL,AL,Yc]
theorem bO2:sdV .l0=some .p0:=Eq.trans rfl (Eq.refl _)
theorem bo4{el kn:Nat}(h:el<kn):sdV (.u b o n el kn)=some (.p b o):=ae h
def upV(F:RO)(M:Mem)(x:V):Option V:=(dh (.up (.c x)) F M .e).val
theorem dz1(x:X)(M:Mem)(t:T):(dh (.up x) F M t).val=upV F M (x.ev t):=Eq.trans rfl (Eq.refl _)
theorem aA7{ex str:Bool}{fz:Nat}{d:List V}(h:M.get b=some (.cells ty n ex fz str d t))(ho:o<n):upV F M (.p b o)=some (.p b o):=by
 show(lX (look F M b) QR.f fun n _ _=>bif Nat.blt o n then QR.r (.p b o) b else .f).val=_
 rw[ay h]
 show(bif Nat.blt o n then QR.r (.p b o) b else .f).val=_
 rw[eT,af ho];rfl
def dnV(ty sz:Nat)(F:RO)(M:Mem)(x:V):Option V:=(dh (.dn ty sz (.c x)) F M .e).val
theorem dy8(ty sz:Nat)(x:X)(M:Mem)(t:T):(dh (.dn ty sz x) F M t).val=dnV ty sz F M (x.ev t):=Eq.trans rfl (Eq.refl _)
theorem ap9{str:Bool}{fz:Nat}{d:List V}(h:M.get b=some (.cells ty n true fz str d t)):dnV ty n F M (.p b 0)=some (.p b 0):=by
 show(bG5 ty n b (look F M b)).val=_
 rw[ay h]
 show(bif Nat.beq ty ty&&Nat.beq n n then QR.r (.p b 0) b else .f).val=_
 rw[Nat.beq_refl,Nat.beq_refl];rfl
def QV(r:QR):Prop:=r= .f∨ ∃y,r= .v y
theorem tg{r:QR}(b:Bool)(h:QV r):QV (bif b then r else .f):=by
 cases b with
 |false=>exact .inl rfl
 |true=>exact h
theorem Ki{r s:QR}(b:Bool)(h:QV r)(h':QV s):QV (bif b then r else s):=by
 cases b with
 |false=>exact h'
 |true=>exact h
theorem Yy(b o n c:Nat):QV (mkL b o n c):= .inr ⟨_,F7 b o n c⟩
theorem Yz(b o n e k:Nat):QV (mkU b o n e k):= .inr ⟨_,AA b o n e k⟩
theorem az7(sz:Nat)(v:V)(a b d:Option Nat):QV (uK sz v a b d):=by
 unfold uK
 refine tg _ ?_
 cases v with
 |l b0 o len cap=>exact tg _ (Yy _ _ _ _)
 |l0=>exact tg _ (.inr ⟨_,rfl⟩)
 |u b0 o len el kn=>
  cases d with
  |none=>exact tg _ (Ki _ (Yz _ _ _ _ _) (Ki _ (Yz _ _ _ _ _) (.inr ⟨_,by rw[b9]⟩)))
  |some m=>exact tg _ (Yy _ _ _ _)
 |ue b0 o0 o=>exact tg _ (.inr ⟨_,rfl⟩)
 |_=>exact .inl rfl
theorem bH4(sz:Nat)(x:X)(lo hi mx:Option X)(M:Mem)(t:T):oM (.slL sz x lo hi mx) F M t=oV (D0 sz (x.ev t) (lo.map fun x=>x.ev t) (hi.map fun x=>x.ev t) (mx.map fun x=>x.ev t)):=by
 refine(ij ?_).trans (congrArg oV (bq6 (F:=F) sz x lo hi mx M t))
 intro F' M'
 refine nq ?_
 show QV (tf sz (x.ev t) (optNN t lo) (optNN t hi) (optNN t mx))
 cases optNN t lo with
 |none=>exact .inl rfl
 |some a=>
  cases optNN t hi with
  |none=>exact .inl rfl
  |some b=>
   cases optNN t mx with
   |none=>exact .inl rfl
   |some d=>exact az7 _ _ _ _ _
def aG9(o:Option (V×bL))(base i:Nat)(p:aM)(r:List (Nat×Nat×CO))(k:Kn)(t:T)(M:Mem)(c:Nat)(pend:List (Nat×Nat×bL))(reads:List (Nat×Nat))(R:DS→Prop):Prop:=match o with
 |some x=>oH base r k (.mk (t.setP p x.1) M c ((i,base+i,x.2)::pend) reads) R
 |none=>False
theorem wV(v:V)(b:bL)(base i:Nat)(p:aM)(r:List (Nat×Nat×CO))(k:Kn)(t:T)(M:Mem)(c:Nat)(pend:List (Nat×Nat×bL))(reads:List (Nat×Nat))(R:DS→Prop):
 aG9 (some (v,b)) base i p r k t M c pend reads R=oH base r k (.mk (t.setP p v) M c ((i,base+i,b)::pend) reads) R:=Eq.trans rfl (Eq.refl _)
theorem Ge(base i mask:Nat)(p:aM)(o:AO)(r:List (Nat×Nat×CO))(t:T)(M:Mem)(c:Nat)(pend:List (Nat×Nat×bL))(reads:List (Nat×Nat))(R:DS→Prop)(hl:(look F M (base+i)).isNone=true)(hr:cG (base+i) reads=true):
 oH base ((i,mask,.mk (some p) (.a o) none)::r) (K Φ rd fn F) (.mk t M c pend reads) R=aG9 (lz o (base+i) t) base i p r (K Φ rd fn F) t M c pend reads R:=by
 have he:ut (K Φ rd fn F) base (i,mask,.mk (some p) (.a o) none) (.mk t M c pend reads)=Ez i (base+i) (some p) t M c pend reads (lz o (base+i) t):=by
  show(fN (Nat.add base i) fun b=>bif (look F M b).isNone&&cG b reads then Ez i b (some p) t M c pend reads (lz o b t)else none)=_;rw[b9];show(bif (look F M (base+i)).isNone&&cG (base+i) reads then Ez i (base+i) (some p) t M c pend reads (lz o (base+i) t)else none)=_;rw[hl,hr];rfl
 apply propext
 rw[fZ,he]
 cases lz o (base+i) t with
 |none=>exact⟨fun⟨s',h,_⟩=>(by cases h),False.elim⟩
 |some x=>
  have h2:Ez i (base+i) (some p) t M c pend reads (some x)=some (.mk (t.setP p x.1) M c ((i,base+i,x.2)::pend) reads):=by
   show((setT t (some p) x.1).force fun t=>some (DS.mk t M c ((i,base+i,x.2)::pend) reads))=_;rw[Tr.force_eq];rfl
  rw[h2];constructor
  ·rintro⟨s',h,q⟩;obtain rfl:=ag h;exact q
  ·exact fun q=>⟨_,rfl,q⟩
theorem gn(i b:Nat)(x:bL)(r:List (Nat×Nat×bL))(M:Mem):dQ ((i,b,x)::r) M=dQ r (M.set b x):=by
 show(M.set b x).force (fun M=>dQ r M)=_
 rw[Tr.force_eq]
theorem ek(b:Nat):cG b []=true:=Eq.trans rfl (Eq.refl _)
theorem cg(b i b':Nat)(r:List (Nat×Nat))(h:b'≠b):cG b ((i,b')::r)=cG b r:=by
 show(bif Nat.beq b' b then false else cG b r)=_
 rw[bK,ah h];rfl
def rY(ty n:Nat)(row:List V):bL:= .cells ty n false 0 false [] (jo row)
def nzA(ty:Nat)(l:V)(b:Nat):Option (V×bL):=lz (.nz ty (.c l)) b .e
theorem bA1(ty:Nat)(l:X)(b:Nat)(t:T):lz (.nz ty l) b t=nzA ty (l.ev t) b:=Eq.trans rfl (Eq.refl _)
theorem cH3(ty n b:Nat)(h:n≤1099511627776):nzA ty (.i .i64 (n:Int)) b=some (.u b 0 n 0 n,rY ty n []):=by
 show(match GF (.i .i64 (n:Int))with|some n=>bif Nat.ble n 1099511627776 then some (V.u b 0 n 0 n,bL.cells ty n false 0 false [] .e)else none|none=>none)=_
 show(bif Nat.ble n 1099511627776 then some (V.u b 0 n 0 n,bL.cells ty n false 0 false [] .e)else none)=_
 rw[cE,af h];rfl
theorem Ng(h:row.length≤n)(i:Nat)(hi:i<row.length):cell n [] (jo row) i=row[i]?:=by
 rw[cM,ae (by omega)]
 unfold jo
 rw[dH,ae (by omega)]
 simp only[Nat.sub_zero]
 rw[List.getElem?_eq_getElem hi]
theorem xq(h:M.get b=some (rY ty n row))(hn:row.length≤n):cK F M b 0 row:=fun k hk=>by
 rw[Nat.zero_add]
 unfold Ev.load1
 rw[ay h]
 exact Ng hn k hk
theorem Fv(h:M.get b=some (rY ty n row))(hn:row.length+vs.length≤n)(h1:bj vs=true):dK M b row.length vs=some (M.set b (rY ty n (row++vs))):=by
 rw[Nt h hn (aE _) h1]
 unfold rY jo
 have:=o4 row vs 0 .e
 rw[Nat.zero_add]at this
 rw[this]
def lu(M:Mem)(c0 c b:Nat)(v:V)(l:List UInt8):Prop:=
 (l=[]∧v= .l0)∨(c0≤b∧b<c∧ ∃n,(l.length≤n∧0<n)∧v= .u b 0 l.length 0 n∧M.get b=some (rY 5 n (l.map bV)))
theorem lu.up(h:lu M c0 c b v l)(hc:c≤c')(hb:b<c→M'.get b=M.get b):lu M' c0 c' b v l:=by
 rcases h with h|⟨h1,h2,n,h3,h4,h5⟩
 ·exact .inl h
 ·exact .inr ⟨h1,by omega,n,h3,h4,by rw[hb h2];exact h5⟩
theorem WQ{s:List UInt8}(h:lu M c0 c b v l)(hg:Gr c0 M0 c M)(hr:jJ (l.length+s.length) 1=true):
 tF (kZ F M c 5 1 1 v (sV s)) fun v' M' c'=>∃b',lu M' c0 c' b' v' (l++s)∧Gr c0 M0 c' M'∧c≤c'∧(∀x,x<c→x≠b→M'.get x=M.get x)∧(b'=b∨c≤b'):=by
 unfold kZ
 rw[AU]
 have e1:mm F M c 5 1 1 v (some (s.length,s.map bV))=app F M c 5 1 1 v s.length (s.map bV):=by
  show(bif bj (s.map bV)&&Nat.beq (s.map bV).length (Nat.mul s.length 1)then _ else _)=_;rw[jB,bK,af (show(s.map bV).length=Nat.mul s.length 1 by rw[List.length_map];exact(Nat.mul_one _).symm)];rfl
 rw[e1]
 have hmap:(l++s).map bV=l.map bV++s.map bV:=List.map_append
 by_cases hz:s=[]
 ·subst hz;have e2:app F M c 5 1 1 v 0 []= .k v M c:=by
   show(bif Nat.beq 0 0 then(bif zd v then RC.k v M c else .f)else _)=_;have:zd v=true:=by
    rcases h with⟨_,rfl⟩|⟨_,_,n,⟨hn,_⟩,rfl,_⟩
    ·rfl
    ·show Nat.ble l.length (Nat.sub n 0)=true;rw[cE];exact af hn
   rw[this];rfl
  exact⟨v,M,c,e2,b,by rw[cu];exact h,hg,ak _,fun _ _ _=>rfl,.inl rfl⟩
 ·have hn0:s.length≠0:=fun e=>hz (List.length_eq_zero_iff.1 e);have grownEq:∀(N:Mem) (vs:List V) (k:Nat),jJ k 1=true→vs.length=k→ju N c 5 1 k 0 false vs= .k (.u c 0 k 0 k) (N.set c (rY 5 k vs)) (c+1):=by
   intro N vs k hk hv;rw[nX N c 5 1 k vs hk];unfold qF rY;rw[hv]
  rcases h with⟨rfl,rfl⟩|⟨ha,hb,n,⟨hn,hn1⟩,rfl,hM⟩
  ·rw[bo,Nat.zero_add]at hr;refine⟨_,_,_,(GE hn0).trans (grownEq M (s.map bV) s.length hr (List.length_map ..)),c,.inr ⟨hg.le,by omega,s.length,⟨ak _,by omega⟩,rfl,?_⟩,hg.set c _ hg.le (by omega) (by omega),by omega,fun x hx _=>az _ _ (by omega),.inr (ak _)⟩;rw[Tr.get_set,ae rfl];rfl
  ·by_cases hfit:l.length+s.length≤n
   ·have hst:=Fv hM (vs:=s.map bV) (by rw[List.length_map,List.length_map];exact hfit) (jB s);rw[List.length_map]at hst;have e3:pv F M c 5 1 1 b 0 l.length 0 n s.length (s.map bV)= .k (.u b 0 (l.length+s.length) 0 n) (M.set b (rY 5 n (l.map bV++s.map bV))) c:=by
     unfold pv;rw[cE,af (show Nat.add (Nat.add 0 l.length) s.length≤n by show 0+l.length+s.length≤n;omega),cond_true];unfold BT;rw[show Nat.add 0 (Nat.mul l.length 1)=l.length by show 0+l.length*1=l.length;omega,hst];show fN (l.length+s.length) (fun len=>RC.k (.u b 0 len 0 n) _ c)=_;rw[b9]
    refine⟨_,_,_,(DO hn0).trans e3,b,.inr ⟨ha,hb,n,⟨by rw[aG];exact hfit,hn1⟩,by rw[aG],?_⟩,hg.set b _ ha hb (ak _),ak _,fun x _ hxb=>az _ _ hxb,.inl rfl⟩;rw[Tr.get_set,ae rfl,hmap]
   ·have hcl:=(xq (F:=F) hM (by rw[List.length_map];exact hn))
    have hcl2:cK F M b 0 (l.map fun x=>[bV x]).flatten:=by rw[gK];exact hcl
    obtain⟨r,hrd⟩:=lQ Nat.one_pos (es:=l.map fun x=>[bV x]) (fun e he=>by obtain⟨x,_,rfl⟩:=List.mem_map.1 he;rfl) hcl2;rw[List.length_map,gK]at hrd;have hmw:il M b 5 (Nat.add 0 (Nat.mul l.length 1)) (Nat.add 0 (Nat.mul (Nat.sub n 0) 1))=some (0,false):=by
     unfold il;rw[hM];show(bif Nat.beq 5 5&&Nat.beq n (0+(n-0)*1)&&Nat.ble 0 (0+l.length*1)&&Nat.ble (0+l.length*1) (0+(n-0)*1)then some (0,false)else none)=_;rw[bK,bK,cE,cE,af (show 5=5 from rfl),af (show n=0+(n-0)*1 by omega),af (aE _),af (show 0+l.length*1≤0+(n-0)*1 by omega)];rfl
    have e3:pv F M c 5 1 1 b 0 l.length 0 n s.length (s.map bV)= .k (.u c 0 (l.length+s.length) 0 (l.length+s.length)) ((M.del b).set c (rY 5 (l.length+s.length) (l.map bV++s.map bV))) (c+1):=by
     unfold pv;rw[cE,ah (show¬Nat.add (Nat.add 0 l.length) s.length≤n by show¬0+l.length+s.length≤n;omega),cond_false,hmw];show(bif Nat.beq 0 0&&Nat.beq (n-0) l.length then EP (M.del b) c 5 1 (l.length+s.length) 0 false (s.map bV) (M.get b)else sW (M.del b) c 5 1 (l.length+s.length) 0 false (s.map bV) (readB F M 1 l.length b 0))=_;by_cases hnl:n=l.length
     ·rw[bK,bK,af rfl,af (show n-0=l.length from hnl),Bool.true_and,cond_true,hM,hnl];have:=yV (M.del b) c 5 1 (l.length+s.length) (l.map bV) (s.map bV) hr;rw[List.length_map]at this;unfold qF at this;rw[aG,List.length_map,List.length_map]at this;exact this
     ·rw[bK,bK,af rfl,ah (show¬n-0=l.length from hnl),Bool.true_and,cond_false,hrd];exact grownEq _ _ _ hr (by rw[aG,List.length_map,List.length_map])
    refine⟨_,_,_,(DO hn0).trans e3,c,.inr ⟨by omega,by omega,l.length+s.length,⟨by rw[aG];exact ak _,by omega⟩,by rw[aG],?_⟩,(hg.del b ha).set c _ (by omega) (by omega) (by omega),by omega,fun x hx hxb=>?_,.inr (ak _)⟩
    ·rw[Tr.get_set,ae rfl,hmap]
    ·rw[az _ _ (by omega),Tr.get_del,ab hxb]
def cz6(F:RO)(M:Mem)(c sz:Nat)(x y:V):RC:=C6 sz (.c x) (.c y) F M c .e
theorem aa8(sz:Nat)(x y:X)(M:Mem)(c:Nat)(t:T):iV (.cpy sz x y) (K Φ rd fn F) M c t=cz6 F M c sz (x.ev t) (y.ev t):=Eq.trans rfl (Eq.refl _)
theorem bF9(M:Mem)(c sz b o e k:Nat):cz6 F M c sz (.u b o 0 e k) .l0= .k (.i .i64 0) M c:=by
 show fN (bif Nat.ble 0 0 then 0 else 0) (fun n=>bif Nat.beq n 0 then RC.k (.i .i64 0) M c else cz7 M c n (.u b o 0 e k) (vW F M sz n .l0))=_
 rw[b9];rfl
end
section
variable{Φ:Nat→Option CF}{rd:Option Nat}{fn:Nat}{F:RO}
def cg7(M M':Mem)(F F':RO)(s:List (Nat×bL)):Prop:=
 (∀b,(∃blk,(b,blk)∈s∧M'.get b=none∧M.get b=some blk)∨((∀blk,(b,blk)∉s)∧M'.get b=M.get b))∧(∀b,(be F' b).isSome→(∃blk,(b,blk)∈s)∨(be F b).isSome)∧(∀b blk,(b,blk)∈s→M.get b=some blk)
theorem jG(mask:Nat)(M0:Mem)(F0:RO):∀(reads:List (Nat×Nat)) (F:RO) (M:Mem) (s:List (Nat×bL)),cg7 M0 M F0 F s→ ∃F' M' s',bO mask reads F M s=Pr.mk F' M' s'∧cg7 M0 M' F0 F' s'
 |[],F,M,s,h=>⟨F,M,s,rfl,h⟩
 |(i,b)::r,F,M,s,h=>by
  rw[bO];cases testBit mask i with
  |true=>exact jG mask M0 F0 r F M s h
  |false=>
   rw[cond_false];cases hb:M.get b with
   |none=>exact jG mask M0 F0 r F M s h
   |some blk=>
    show∃F' M' s',(M.del b).force (fun M=>bO mask r ((b,blk)::F) M ((b,blk)::s))=Pr.mk F' M' s'∧_;rw[Tr.force_eq];refine jG mask M0 F0 r _ _ _ ⟨fun x=>?_,fun x hx=>?_,fun x y hxy=>?_⟩
    ·rw[Tr.get_del];rcases h.1 x with⟨y,h1,h2,h3⟩|⟨h1,h2⟩
     ·refine .inl ⟨y,bN _ h1,?_,h3⟩;split
      ·rfl
      ·exact h2
     ·by_cases e:x=b
      ·subst e;rw[ae rfl];exact .inl ⟨blk,ck ..,rfl,by rw[←h2];exact hb⟩
      ·rw[ab e];refine .inr ⟨fun y hy=>?_,h2⟩;rcases bv.1 hy with hy|hy
       ·injection hy with e1 _;exact e e1
       ·exact h1 y hy
    ·rw[dq]at hx;by_cases e:b=x
     ·subst e;exact .inl ⟨blk,ck ..⟩
     ·rw[ab e]at hx;rcases h.2.1 x hx with⟨y,hy⟩|hy
      ·exact .inl ⟨y,bN _ hy⟩
      ·exact .inr hy
    ·rcases bv.1 hxy with hxy|hxy
     ·injection hxy with e1 e2
      subst e1 e2;rcases h.1 x with⟨z,k1,k2,k3⟩|⟨k1,k2⟩
      ·rw[k2]at hb;cases hb
      ·rw[←k2];exact hb
     ·exact h.2.2 x y hxy
theorem iY:∀(s:List (Nat×bL)) (N:Mem) (b:Nat),(∀blk,(b,blk)∉s)→(bc s N).get b=N.get b
 |[],N,b,h=>rfl
 |(x,y)::r,N,b,h=>by
  show((N.set x y).force fun N=>bc r N).get b=_;rw[Tr.force_eq,iY r _ b fun blk hb=>h blk (bN _ hb),az];intro e;subst e;exact h y (ck ..)
theorem pM:∀(s:List (Nat×bL)) (N:Mem) (b:Nat) (blk:bL),(b,blk)∈s→(∀y,(b,y)∈s→y=blk)→(bc s N).get b=some blk
 |[],N,b,blk,h,_=>by cases h
 |(x,y)::r,N,b,blk,h,hu=>by
  show((N.set x y).force fun N=>bc r N).get b=_;rw[Tr.force_eq];by_cases hr:∃z,(b,z)∈r
  ·obtain⟨z,hz⟩:=hr;have:z=blk:=hu z (bN _ hz);subst this;exact pM r _ b z hz fun y hy=>hu y (bN _ hy)
  ·rw[iY r _ b fun z hz=>hr ⟨z,hz⟩];rcases bv.1 h with h|h
   ·injection h with e1 e2;subst e1 e2;exact am _ _ _
   ·exact absurd ⟨blk,h⟩ hr
theorem a09{f:Nat}(base i mask:Nat)(dst:Option aM)(as0:List X)(r:List (Nat×Nat×CO))(t:T)(M:Mem)(c:Nat)(reads:List (Nat×Nat))(R:DS→Prop)(ok:cO F M c)
 (hf:∀(F':RO) (M':Mem),eX (lU Φ) F' f (evs as0 t) M' c (Φ f)= .k v (M'.set c blk) (c+1))
 (hk:∀N:Mem,N.get c=some blk→(∀b,b≠c→N.get b=M.get b)→oH base r (K Φ rd fn F) (.mk (setT t dst v) N (c+1) [] reads) R):
 oH base ((i,mask,.mk dst (.e (.call f as0)) none)::r) (K Φ rd fn F) (.mk t M c [] reads) R:=by
 obtain⟨F',M',s,hp,h1,h2,h3⟩:=jG mask M F reads F M [] ⟨fun b=> .inr ⟨fun _ h=>(by cases h),rfl⟩,fun b h=> .inr h,fun b blk h=>(by cases h)⟩
 have hcs:∀y,(c,y)∉s:=by
  intro y hy;rcases h1 c with⟨z,g1,g2,g3⟩|⟨g1,g2⟩
  ·rw[ok.hiM c (ak _)]at g3;cases g3
  ·exact g1 y hy
 have hro:ce (M'.set c blk) F'=true:=oX _ _ fun b hb=>by
  have hbc:b≠c:=by
   intro e;subst e;rcases h2 b hb with⟨y,hy⟩|hy
   ·exact hcs y hy
   ·rw[ok.hiF b (ak _)]at hy;cases hy
  rw[az _ _ hbc];rcases h1 b with⟨z,g1,g2,g3⟩|⟨g1,g2⟩
  ·exact g2
  ·rcases h2 b hb with⟨y,hy⟩|hy
   ·exact absurd hy (g1 y)
   ·rw[g2];exact ok.ap b hy
 have he:ut (K Φ rd fn F) base (i,mask,.mk dst (.e (.call f as0)) none) (.mk t M c [] reads)=some (.mk (setT t dst v) (bc s (M'.set c blk)) (c+1) [] reads):=by
  show sO (.call f as0) (K Φ rd fn F) dst t c [] reads (bO mask reads F M [])=_;rw[hp];show(bif cU F' M' []then nD F' dst t [] reads s (eX (lU Φ) F' f (evs as0 t) M' c (Φ f))else none)=_;rw[hf];show(bif ce (M'.set c blk) F'&&cU F' (M'.set c blk) []then(bc s (M'.set c blk)).force fun M=>(setT t dst v).force fun t=>some (DS.mk t M (c+1) [] reads)else none)=_;rw[hro];show(bc s (M'.set c blk)).force (fun M=>(setT t dst v).force fun t=>some (DS.mk t M (c+1) [] reads))=_;rw[Tr.force_eq,Tr.force_eq]
 rw[fZ]
 refine⟨_,he,hk _ ?_ fun b hb=>?_⟩
 ·rw[iY _ _ _ hcs];exact am _ _ _
 ·rcases h1 b with⟨z,g1,g2,g3⟩|⟨g1,g2⟩
  ·rw[pM s _ b z g1 fun y hy=>?_,g3];have:=h3 b y hy;rw[g3]at this;exact(ag this).symm
  ·rw[iY _ _ _ g1,az _ _ hb,g2]
end
def siB(s:List UInt8)(pos:Nat):bL:= .siter s.length (cN s) pos
def cN0(v:V)(b:Nat):Option (V×bL):=tY v none fun n s=>some (.p b 0,.siter n s 0)
theorem af8(x:X)(b:Nat)(t:T):lz (.rgs x) b t=cN0 (x.ev t) b:=Eq.trans rfl (Eq.refl _)
theorem bN8(l:List UInt8)(b:Nat):cN0 (sV l) b=some (.p b 0,siB l 0):=Eq.trans rfl (Eq.refl _)
theorem ay5(s:ByteArray)(i:Nat)(h:128≤(s.get! i).toNat):128≤(Utf8.decode s i).1:=by
 unfold Utf8.decode
 simp only[cT,Utf8.runeError]
 rw[ab (by omega)]
 repeat' split
 all_goals first|omega|(simp_all;done)|(simp_all;omega)
def av0(M:Mem)(c:Nat):V→RC
 | .p b 0=>zk M c b (M.get b)
 |_=> .f
theorem Bw{rd:Option Nat}{fn:Nat}(x:X)(M:Mem)(c:Nat)(t:T):iV (.nxs x) (K Φ rd fn F) M c t=av0 M c (x.ev t):=Eq.trans rfl (Eq.refl _)
theorem av2(c:Nat)(h:M.get b=some (siB l l.length)):av0 M c (.p b 0)= .k (.t [.b false]) M c:=by
 show zk M c b (M.get b)=_
 rw[h]
 show(bif Nat.blt l.length l.length then _ else RC.k (.t [.b false]) M c)=_
 rw[eT,ah (Nat.lt_irrefl _),cond_false]
theorem bL8(c:Nat)(h:M.get b=some (siB l i))(hi:i<l.length)(hc:l[i].toNat<128):av0 M c (.p b 0)= .k (.t [.b true,.i .i64 (i:Int),.i .i32 (l[i].toNat:Int)]) (M.set b (siB l (i+1))) c:=by
 show zk M c b (M.get b)=_
 rw[h]
 show(bif Nat.blt i l.length then(fN (Nat.mod (Nat.div (cN l) (jn i)) 256) fun ch=>bif Nat.blt ch 128 then _ else _)else _)=_
 rw[eT,af hi,cond_true,b9,show Nat.mod (Nat.div (cN l) (jn i)) 256=l[i].toNat from sg l i hi,eT,af hc,cond_true,b9,rZ];rfl
theorem bL7(c:Nat)(h:M.get b=some (siB l i))(hi:i<l.length)(hc:128≤l[i].toNat):∃r p:Nat,128≤r∧av0 M c (.p b 0)= .k (.t [.b true,.i .i64 (i:Int),.i .i32 (r:Int)]) (M.set b (siB l p)) c:=by
 refine⟨(Utf8.decode (ba l.length (cN l)) i).1,i+(Utf8.decode (ba l.length (cN l)) i).2,ay5 _ _ (by rw[WD hi,sg l i hi];exact hc),?_⟩
 show zk M c b (M.get b)=_
 rw[h]
 show(bif Nat.blt i l.length then(fN (Nat.mod (Nat.div (cN l) (jn i)) 256) fun ch=>bif Nat.blt ch 128 then _ else av1 M c b l.length (cN l) i (Utf8.decode (ba l.length (cN l)) i))else _)=_
 rw[eT,af hi,cond_true,b9,show Nat.mod (Nat.div (cN l) (jn i)) 256=l[i].toNat from sg l i hi,eT,ah (by omega),cond_false]
 unfold av1
 rw[b9,b9,rZ];rfl
theorem Lc{rd:Option Nat}{fn:Nat}(base i mask j b:Nat)(blk:bL)(dst:Option aM)(o:EO)(r:List (Nat×Nat×CO))(t:T)(M:Mem)(c:Nat)(reads:List (Nat×Nat))(R:DS→Prop)(hj:(mask/2^j%2==1)=true)(hb:Ee mask reads=true):
 oH base ((i,mask,.mk dst (.e o) none)::r) (K Φ rd fn F) (.mk t M c [(j,b,blk)] reads) R=Gv (iV o (K Φ rd fn F) (M.set b blk) c t) F dst base r (K Φ rd fn F) t reads R:=by
 have hp:=me hb
 have hj':testBit mask j=true:=by
  show Nat.beq (Nat.mod (Nat.div mask (Nat.pow 2 j)) 2) 1=true;rw[bK];exact af (show mask/2^j%2=1 by simpa using hj)
 have hmg:hU mask [(j,b,blk)] M=(M.set b blk,[]):=by
  show(bif testBit mask j then(M.set b blk).force (fun M=>hU mask [] M)else _)=_;rw[hj',cond_true,Tr.force_eq];rfl
 have he:ut (K Φ rd fn F) base (i,mask,.mk dst (.e o) none) (.mk t M c [(j,b,blk)] reads)=nD F dst t [] reads [] (iV o (K Φ rd fn F) (M.set b blk) c t):=by
  show Ad o (K Φ rd fn F) mask dst t c reads (hU mask [(j,b,blk)] M)=_;rw[hmg];show sO o (K Φ rd fn F) dst t c [] reads (bO mask reads F (M.set b blk) [])=_;rw[hp];rfl
 apply propext
 rw[fZ,he]
 cases hd:iV o (K Φ rd fn F) (M.set b blk) c t with
 |f=>exact⟨fun⟨s',h,_⟩=>(by cases h),False.elim⟩
 |k v M' c'=>
  have h2:nD F dst t [] reads [] (.k v M' c')=if ce M' F=true then some (DS.mk (setT t dst v) M' c' [] reads)else none:=by
   show(bif ce M' F&&cU F M' []then(bc [] M').force fun M=>(setT t dst v).force fun t=>some (DS.mk t M c' [] reads)else none)=_;cases hr:ce M' F with
   |false=>rfl
   |true=>
    show((bc [] M').force fun M=>(setT t dst v).force fun t=>some (DS.mk t M c' [] reads))=_;rw[Tr.force_eq,Tr.force_eq];rfl
  rw[h2];show _↔(ce M' F=true∧oH base r (K Φ rd fn F) (.mk (setT t dst v) M' c' [] reads) R);cases hr:ce M' F with
  |false=>exact⟨fun⟨s',h,_⟩=>(by simp at h),fun h=>(by cases h.1)⟩
  |true=>
   constructor
   ·rintro⟨s',h,q⟩;simp only[if_true]at h;obtain rfl:=ag h;exact⟨rfl,q⟩
   ·exact fun h=>⟨_,rfl,h.2⟩
theorem Es{W:World}{a:Addr}{v:Value}(h:W.cell? a=some v):∃r o,a=⟨r,o,none⟩∧r<W.heap.size:=by
 obtain⟨r,o,sp⟩:=a
 unfold World.cell? at h
 split at h
 ·rename_i cs ty fr hh;have hlt:r<W.heap.size:=(Array.getElem?_eq_some_iff.1 hh).1;cases sp with
  |none=>exact⟨r,o,rfl,hlt⟩
  |some k=>simp at h
 ·cases h
def rz(F:RO)(g:Nat):Option (Nat×Nat×Nat×Nat):=match be F g with
 |some (.cells ty n false fz true d c)=>bif Nat.beq n 1&&Nat.beq fz 1 then(match cell 1 d c 0 with
  |some (.a t (.p b o))=>some (ty,t,b,o)
  |_=>none)else none
 |_=>none
theorem Mc{g t:Nat}(h:rz F g=some (ty,t,b,o)):∃d c,be F g=some (.cells ty 1 false 1 true d c)∧cell 1 d c 0=some (.a t (.p b o)):=by
 unfold rz at h
 split at h
 ·rename_i ty' n fz d c hF;cases hh:Nat.beq n 1&&Nat.beq fz 1 with
  |false=>rw[hh]at h;cases h
  |true=>
   rw[hh,cond_true]at h;rw[aC,bK,bK]at hh;obtain rfl:=aY hh.1;obtain rfl:=aY hh.2;split at h
   ·rename_i t' b' o' hc;injection h with h;injection h with h1 h;injection h with h2 h;injection h with h3 h4
    subst h1 h2 h3 h4;exact⟨d,c,hF,hc⟩
   ·cases h
 ·cases h
def jl(F:RO):List Nat→Bool
 |[]=>true
 |g::r=>Nat.blt g 1000&&((rz F g).isSome&&jl F r)
theorem qk{F:RO}:∀{L:List Nat},jl F L=true→ ∀g∈L,g<1000∧ ∃ty t b o,rz F g=some (ty,t,b,o)
 |[],_,g,hg=>by cases hg
 |x::r,h,g,hg=>by
  have h':(Nat.blt x 1000&&((rz F x).isSome&&jl F r))=true:=h;rw[aC,aC,eT]at h';rcases bv.1 hg with e|hg'
  ·subst e;obtain⟨⟨ty,t,b,o⟩,hq⟩:=bM.1 h'.2.1;exact⟨aY h'.1,ty,t,b,o,hq⟩
  ·exact qk h'.2.2 g hg'
def EF(ty t k o:Nat):bL:= .cells ty 1 false 1 true [.a t (.p k o)] .e
def wd(F:RO)(q:Nat→Nat×Nat×Nat):List Nat→Nat→RO
 |[],_=>F
 |g::r,k=>(g,EF (q g).1 (q g).2.1 k (q g).2.2)::wd F q r (Nat.succ k)
theorem ry{F:RO}{q:Nat→Nat×Nat×Nat}:∀{L:List Nat} {k b:Nat} {blk:bL},be (wd F q L k) b=some blk→be F b=some blk∨ ∃i,L[i]?=some b∧blk=EF (q b).1 (q b).2.1 (k+i) (q b).2.2
 |[],k,b,blk,h=> .inl h
 |g::r,k,b,blk,h=>by
  have h':Bool.rec (motive:=fun _=>Option bL) (be (wd F q r (k+1)) b) (some (EF (q g).1 (q g).2.1 k (q g).2.2)) (Nat.beq g b)=some blk:=h;rw[bb,bK]at h';by_cases e:g=b
  ·rw[ae (by simpa using e)]at h';subst e;exact .inr ⟨0,rfl,(ag h').symm⟩
  ·rw[ab (by simpa using e)]at h';rcases ry h' with h|⟨i,h1,h2⟩
   ·exact .inl h
   ·exact .inr ⟨i+1,h1,by rw[h2,show k+1+i=k+(i+1) by omega]⟩
def EG(F:RO)(L:List Nat)(i:Nat):Nat:=match L[i]? with
 |some g=>(match rz F g with|some (_,_,b,_)=>b|none=>0)
 |none=>0
def rx(E:dj)(F:RO)(L:List Nat):dj:=⟨fun x=>if x<1000 then E.ρ x else E.ρ (EG F L (x-1000)),fun x=>if x<1000 then E.β x else E.β (EG F L (x-1000)),fun x=>if x<1000 then E.κ x else E.κ (EG F L (x-1000))⟩
theorem eN(E:dj)(F:RO)(L:List Nat):qP (fun x=>x<1000) E (rx E F L):=⟨fun b hb=>ae hb,fun b hb=>ae hb,fun b hb=>ae hb⟩
theorem YB{c:Nat→Prop}{w:World}{gs:List Nat}(hr:ku P E F M c w)(hglob:∀g,g<1000→E.ρ g=g∧E.β g=0)(h:bn F L=true)(he:jl F gs=true):
 ∃ty q,ku P (rx E F gs) (wd (mR L ty) q gs 1000) .e (fun x=>x<1000+gs.length) w:=by
 obtain⟨ty,hT⟩:=xn hr hglob h
 have hall:=qk he
 have hgl:∀g,g<1000→(rx E F gs).ρ g=g:=fun g hg=>((eN E F gs).ρ g hg).trans (hglob g hg).1
 refine⟨ty,fun g=>match rz F g with|some (ty,t,_,o)=>(ty,t,o)|none=>(0,0,0),⟨?_,?_,fun b hb=>rfl⟩⟩
 ·intro b blk hb;rw[aQ (show(Tr.e:Mem).get b=none from rfl)]at hb;rcases ry hb with hb|⟨i,hi,rfl⟩
  ·obtain⟨h1,h2,o,h3,h4⟩:=hT.has b blk (by rw[aQ (show(Tr.e:Mem).get b=none from rfl)];exact hb);have h1':b<1000:=h1;exact⟨Nat.lt_of_lt_of_le h1' (Nat.le_add_right _ _),fH (fun x (hx:x<1000)=>Nat.lt_of_lt_of_le hx (Nat.le_add_right _ _)) blk h2,o,by rw[hgl b h1',←(hglob b h1').1];exact h3,h4.ext (eN E F gs) h1' h2⟩
  ·have hm:=List.mem_of_getElem? hi;obtain⟨hb1,ty',t,b',o,hq⟩:=hall b hm;obtain⟨d,cc,hF,hc⟩:=Mc hq;have hl:look F M b=some (.cells ty' 1 false 1 true d cc):=by
    rw[aQ (hr.apart b (by rw[hF];rfl))];exact hF
   obtain⟨_,hbd,obj,ho,arr,fr,rfl,hC⟩:=hr.has _ _ hl;have hil:i<gs.length:=(List.getElem?_eq_some_iff.1 hi).1;have hn:EG F gs i=b':=by unfold EG;rw[hi];simp only[hq]
   simp only[hq];refine⟨Nat.lt_of_lt_of_le hb1 (Nat.le_add_right _ _),?_,_,by rw[hgl b hb1,←(hglob b hb1).1];exact ho,arr,fr,rfl,?_,?_,?_,fun hh=>by cases hh⟩
   ·intro k v hv;rw[cM]at hv;split at hv
    ·obtain rfl:k=0:=by omega
     obtain rfl:=ag hv;show 1000+i<1000+gs.length;omega
    ·cases hv
   ·intro k v hv;rw[cM]at hv;split at hv
    ·obtain rfl:k=0:=by omega
     obtain rfl:=ag hv;have:=hC.cell 0 _ hc;rw[(eN E F gs).β b hb1,this];show some (Value.iface t (.pointer (some ⟨E.ρ b',E.β b'+o,none⟩)))=some (Value.iface t (.pointer (some ⟨(rx E F gs).ρ (1000+i),(rx E F gs).β (1000+i)+o,none⟩)));have e1:(rx E F gs).ρ (1000+i)=E.ρ b':=by
      show(if 1000+i<1000 then _ else E.ρ (EG F gs (1000+i-1000)))=_;rw[ab (by omega),show 1000+i-1000=i by omega,hn]
     have e2:(rx E F gs).β (1000+i)=E.β b':=by
      show(if 1000+i<1000 then _ else E.β (EG F gs (1000+i-1000)))=_;rw[ab (by omega),show 1000+i-1000=i by omega,hn]
     rw[e1,e2]
    ·cases hv
   ·have:=hC.size;show arr.size=(rx E F gs).β b+1+(rx E F gs).κ b*_;rw[(eN E F gs).β b hb1,(eN E F gs).κ b hb1];exact this
   ·rw[(eN E F gs).β b hb1];exact hC.free
 ·intro b b' h1 h2 e
  have lt:∀x,(look (wd (mR L ty) (fun g=>match rz F g with|some (ty,t,_,o)=>(ty,t,o)|none=>(0,0,0)) gs 1000) .e x).isSome→x<1000:=by
   intro x hx;obtain⟨y,hy⟩:=bM.1 hx;rw[aQ (show(Tr.e:Mem).get x=none from rfl)]at hy;rcases ry hy with hy|⟨i,hi,_⟩
   ·exact(hT.has x y (by rw[aQ (show(Tr.e:Mem).get x=none from rfl)];exact hy)).1
   ·exact(hall x (List.mem_of_getElem? hi)).1
  rw[hgl b (lt b h1),hgl b' (lt b' h2)]at e;exact e
def cN2(Φ:Nat→Option CF)(fuel:Nat)(F:RO)(f n:Nat):RC:=eX (exec Φ fuel) F f [] .e n (Φ f)
theorem Jp{n nm:String}{text:List UInt8}{r:List (String×DataW Unit)}{W:World}{C g:Nat}{ti tp te ts:TypeId}{ms:Array (String×TypeId)}{f:Field}
 (hC:W.heap.size≤C) (h:laidMet P ((n,.iface nm (.ptr (.agg [.lit (.string text)])))::r) W)
 (hg:P.globalNamed n=some g) (ht:(P.globals[g]?).map (·.type)=some ti) (hi:P.underlying ti=some (.interface ms)) (hrow:∀u,P.typeName? 3 u=some nm→u=tp)
 (hp:P.underlying tp=some (.pointer te)) (he:P.underlying te=some (.struct #[f])) (hft:f.type=ts) (hfo:f.offset=0) (hs:P.underlying ts=some .string) (hc:P.cellsOf te=1) (hcs:P.cellsOf ts=1):
 (rz (dV W C) g).isSome=true:=by
 obtain⟨a,s,hv,hca,_,_⟩:=laid_sentinel h hg ht hi hrow hp he hft hfo hs hc hcs
 obtain⟨rb,o,rfl,hlt⟩:=Es hca
 have hv2:uL C (.iface tp (.pointer (some ⟨rb,o,none⟩)))=some (.a tp (.p rb o)):=ae (Nat.lt_of_lt_of_le hlt hC)
 unfold World.var? at hv
 rw[hg]at hv
 simp only[Option.bind_some]at hv
 split at hv
 ·rename_i cs ty fr hh;obtain rfl:=ag hv;have hcell:cell (#[Value.iface tp (.pointer (some ⟨rb,o,none⟩))]).size [] (kf ((#[Value.iface tp (.pointer (some ⟨rb,o,none⟩))]).toList.map (uL C)) 0 .e) 0=some (.a tp (.p rb o)):=(jP (ty:=ty)).2 ⟨_,rfl,hv2⟩;unfold rz;rw[jO];have hh':W.heap[g]?=some (.cells #[Value.iface tp (.pointer (some ⟨rb,o,none⟩))] ty fr):=hh;rw[hh'];show Option.isSome (bif Nat.beq 1 1&&Nat.beq 1 1 then(match cell 1 [] (kf ((#[Value.iface tp (.pointer (some ⟨rb,o,none⟩))]).toList.map (uL C)) 0 .e) 0 with
   |some (.a t (.p b o))=>some (ty,t,b,o)
   |_=>none)else none)=true
  have hcell':cell 1 [] (kf ((#[Value.iface tp (.pointer (some ⟨rb,o,none⟩))]).toList.map (uL C)) 0 .e) 0=some (.a tp (.p rb o)):=hcell;rw[hcell'];rfl
 ·cases hv
section
variable{Φ:Nat→Option CF}{rd:Option Nat}{fn:Nat}{F:RO}
end
theorem Cw:∀(e p q:List V),q.length=e.length→over (p++q) p.length e=p++e
 |[],p,q,h=>by
  obtain rfl:q=[]:=List.eq_nil_of_length_eq_zero h;rfl
 |v::e,p,[],h=>by cases h
 |v::e,p,a::q,h=>by
  rw[over,List.set_append_right _ _ (ak _),Nat.sub_self,List.set_cons_zero];have:=Cw e (p++[v]) q (by simpa using h);rw[aG,List.length_singleton,cB,cB]at this;exact this
theorem Yp{z e:List V}(h:z.length=e.length):over z 0 e=e:=by
 have:=Cw e [] z h
 simpa using this
theorem mH{b:Nat}(mask:Nat):∀(reads:List (Nat×Nat)) (F:RO) (M:Mem) (s:List (Nat×bL)),cG b reads=true→ce M F=true→(M.get b).isSome=true→
 ∃F' M' s2,bO mask reads F M s=Pr.mk F' M' (s2++s)∧M'.get b=M.get b∧ce M' F'=true∧(∀y,ce (M'.set b y) F'=true)∧ ∀y x,(bc s2 (M'.set b y)).get x=(M.set b y).get x
 |[],F,M,s,h1,h2,h3=>by
  refine⟨F,M,[],rfl,rfl,h2,fun y=>?_,fun y x=>rfl⟩;refine oX _ F fun b' hb'=>?_;have:∃blk,(b',blk)∈F:=by
   clear h1 h2 h3
   induction F with
   |nil=>cases hb'
   |cons a F ih=>
    obtain⟨k,z⟩:=a;rw[dq]at hb';split at hb'
    ·rename_i e;have e:k=b':=e;exact⟨z,by rw[e];exact ck ..⟩
    ·obtain⟨blk,hm⟩:=ih hb';exact⟨blk,bN _ hm⟩
  obtain⟨blk,hm⟩:=this;have hn:=mL F h2 b' blk hm;have:b'≠b:=by intro e;subst e;rw[hn]at h3;cases h3
  rw[az _ _ this];exact hn
 |(i,x)::r,F,M,s,h1,h2,h3=>by
  have hx:x≠b∧cG b r=true:=by
   have h1':(bif Nat.beq x b then false else cG b r)=true:=h1;rw[bK]at h1';by_cases e:x=b
   ·rw[af e]at h1';cases h1'
   ·rw[ah e]at h1';exact⟨e,h1'⟩
  rw[bO];cases ht:testBit mask i with
  |true=>exact mH mask r F M s hx.2 h2 h3
  |false=>
   show∃F' M' s2,(match M.get x with|none=>bO mask r F M s|some blk=>(M.del x).force fun M=>bO mask r ((x,blk)::F) M ((x,blk)::s))=_∧_;cases hb:M.get x with
   |none=>exact mH mask r F M s hx.2 h2 h3
   |some blk=>
    have hfr:ce (M.del x) ((x,blk)::F)=true:=by
     rw[fQ,Tr.get_del,ae rfl,mK x h2];rfl
    have hgb:(M.del x).get b=M.get b:=by rw[Tr.get_del,ab (fun e=>hx.1 e.symm)]
    obtain⟨F',M',s2,g1,g2,g3,g4,g5⟩:=mH mask r ((x,blk)::F) (M.del x) ((x,blk)::s) hx.2 hfr (by rw[hgb];exact h3);refine⟨F',M',s2++[(x,blk)],?_,g2.trans hgb,g3,g4,fun y z=>?_⟩
    ·show((M.del x).force fun M=>bO mask r ((x,blk)::F) M ((x,blk)::s))=_;rw[Tr.force_eq,g1,cB];rfl
    ·have key:∀(s2:List (Nat×bL)) (N:Mem),bc (s2++[(x,blk)]) N=(bc s2 N).set x blk:=by
      intro s2
      induction s2 with
      |nil=>intro N;show(N.set x blk).force (fun M=>M)=_;rw[Tr.force_eq];rfl
      |cons a s2 ih=>intro N;show(N.set a.1 a.2).force (fun M=>bc (s2++[(x,blk)]) M)=_;rw[Tr.force_eq,ih];show _=((N.set a.1 a.2).force fun M=>bc s2 M).set x blk;rw[Tr.force_eq]
     rw[key,Tr.get_set,g5,Tr.get_set,Tr.get_set,Tr.get_del];by_cases e1:z=x
     ·rw[ae e1,ab (by rw[e1];exact hx.1),e1,hb]
     ·rw[ab e1,ab e1]
theorem zg(mask:Nat):∀(pend:List (Nat×Nat×bL)) (M:Mem),(pend.all fun e=>testBit mask e.1)=true→hU mask pend M=(dQ pend M,[])
 |[],M,_=>rfl
 |(i,b,blk)::r,M,h=>by
  rw[List.all_cons,aC]at h;rw[hU,h.1,gn];show((M.set b blk).force fun M=>hU mask r M)=_;rw[Tr.force_eq,zg mask r _ h.2]
section
variable{Φ:Nat→Option CF}{rd:Option Nat}{fn:Nat}{F:RO}
theorem bx5(base i mask n:Nat)(p v:X)(r:List (Nat×Nat×CO))(t:T)(M:Mem)(c:Nat)(pend:List (Nat×Nat×bL))(reads:List (Nat×Nat))(R:DS→Prop){z e:List V}
 (hm:(pend.all fun e=>testBit mask e.1)=true) (hM:dQ pend M=M1) (hb:M1.get b=some (au ty z)) (hp:p.ev t= .p b 0) (hv:flatten (v.ev t)=e) (ha:bj e=true) (hl:e.length=n) (hz:z.length=n) (hr:cG b reads=true) (hf:ce M1 F=true)
 (h:∀M',(∀x,M'.get x=(M1.set b (au ty e)).get x)→oH base r (K Φ rd fn F) (.mk t M' c [] reads) R):
 oH base ((i,mask,.mk none (.e (.st n p v)) none)::r) (K Φ rd fn F) (.mk t M c pend reads) R:=by
 obtain⟨F',M',s2,g1,g2,g3,g4,g5⟩:=mH mask reads F M1 [] hr hf (by rw[hb];rfl)
 have hov:over z 0 e=e:=Yp (hz.trans hl.symm)
 have hst:dK M' b 0 e=some (M'.set b (au ty e)):=by
  have:=bS (g2.trans hb) 0 e (by omega) ha
  rwa [hov]at this
 have hd:iV (.st n p v) (K Φ rd fn F') M' c t= .k undef (M'.set b (au ty e)) c:=by
  rw[Jk,hp];show(if(flatten (v.ev t)).length=n then er c (dK M' b 0 (flatten (v.ev t)))else .f)=_;rw[hv,ae hl,hst];rfl
 have he:ut (K Φ rd fn F) base (i,mask,.mk none (.e (.st n p v)) none) (.mk t M c pend reads)=some (.mk t (bc s2 (M'.set b (au ty e))) c [] reads):=by
  show Ad (.st n p v) (K Φ rd fn F) mask none t c reads (hU mask pend M)=_;rw[zg mask pend M hm,hM];show sO (.st n p v) (K Φ rd fn F) none t c [] reads (bO mask reads F M1 [])=_;rw[g1];show nD F' none t [] reads (s2++[]) (iV (.st n p v) (K Φ rd fn F') M' c t)=_;rw[hd,cu];show(bif ce (M'.set b (au ty e)) F'&&true then(bc s2 (M'.set b (au ty e))).force fun M=>(setT t none undef).force fun t=>some (DS.mk t M c [] reads)else none)=_;rw[g4];show((bc s2 (M'.set b (au ty e))).force fun M=>(setT t none undef).force fun t=>some (DS.mk t M c [] reads))=_;rw[Tr.force_eq,Tr.force_eq];rfl
 rw[fZ]
 exact⟨_,he,h _ (fun x=>g5 _ x)⟩
theorem mG{c:Nat}(mask:Nat):∀(reads:List (Nat×Nat)) (F:RO) (M:Mem) (s:List (Nat×bL)),ce M F=true→(∀x,c≤x→M.get x=none)→
 ∃F' M' s2,bO mask reads F M s=Pr.mk F' M' (s2++s)∧ce M' F'=true∧(∀b,look F' M' b=look F M b)∧(∀x,c≤x→M'.get x=none)∧ ∀N:Mem,(∀x,x<c→N.get x=M'.get x)→ ∀x,(bc s2 N).get x=if x<c then M.get x else N.get x
 |[],F,M,s,h2,h3=>⟨F,M,[],rfl,h2,fun _=>rfl,h3,fun N hN x=>by
  show N.get x=_;split
  ·rename_i h;exact hN x h
  ·rfl⟩
 |(i,x)::r,F,M,s,h2,h3=>by
  rw[bO];cases ht:testBit mask i with
  |true=>exact mG mask r F M s h2 h3
  |false=>
   show∃F' M' s2,(match M.get x with|none=>bO mask r F M s|some blk=>(M.del x).force fun M=>bO mask r ((x,blk)::F) M ((x,blk)::s))=_∧_;cases hb:M.get x with
   |none=>exact mG mask r F M s h2 h3
   |some blk=>
    have hxc:x<c:=by
     apply Classical.byContradiction;intro hx;rw[h3 x (by omega)]at hb;cases hb
    have hfr:ce (M.del x) ((x,blk)::F)=true:=by
     rw[fQ,Tr.get_del,ae rfl,mK x h2];rfl
    obtain⟨F',M',s2,g1,g2,g3,g4,g5⟩:=mG mask r ((x,blk)::F) (M.del x) ((x,blk)::s) hfr (fun y hy=>by rw[Tr.get_del];split<;>first|rfl|exact h3 y hy);refine⟨F',M',s2++[(x,blk)],?_,g2,fun b=>?_,g4,fun N hN z=>?_⟩
    ·show((M.del x).force fun M=>bO mask r ((x,blk)::F) M ((x,blk)::s))=_;rw[Tr.force_eq,g1,cB];rfl
    ·rw[g3];by_cases e:b=x
     ·subst e;rw[ay hb,aQ (by rw[Tr.get_del,ae rfl]),dq,ae rfl]
     ·cases hM:M.get b with
      |some y=>rw[ay hM,ay (by rw[Tr.get_del,ab e];exact hM)]
      |none=>rw[aQ hM,aQ (by rw[Tr.get_del,ab e];exact hM),dq,ab (fun h=>e h.symm)]
    ·have key:∀(s2:List (Nat×bL)) (N:Mem),bc (s2++[(x,blk)]) N=(bc s2 N).set x blk:=by
      intro s2
      induction s2 with
      |nil=>intro N;show(N.set x blk).force (fun M=>M)=_;rw[Tr.force_eq];rfl
      |cons a s2 ih=>intro N;show(N.set a.1 a.2).force (fun M=>bc (s2++[(x,blk)]) M)=_;rw[Tr.force_eq,ih];show _=((N.set a.1 a.2).force fun M=>bc s2 M).set x blk;rw[Tr.force_eq]
     rw[key,Tr.get_set,g5 N hN];by_cases e1:z=x
     ·subst e1;rw[ae rfl,ae hxc,hb]
     ·rw[ab e1,Tr.get_del,ab e1]
theorem aa0(base i mask:Nat)(dst:Option aM)(o:EO)(r:List (Nat×Nat×CO))(t:T)(M:Mem)(c:Nat)(reads:List (Nat×Nat))(R:DS→Prop)(ok:cO F M c)
 (h:∀F' M',cO F' M' c→(∀b,look F' M' b=look F M b)→tF (iV o (K Φ rd fn F') M' c t) fun v M2 c2=>Gr c M' c2 M2∧ ∀M3,Gr c M c2 M3→(∀x,c≤x→M3.get x=M2.get x)→oH base r (K Φ rd fn F) (.mk (setT t dst v) M3 c2 [] reads) R):
 oH base ((i,mask,.mk dst (.e o) none)::r) (K Φ rd fn F) (.mk t M c [] reads) R:=by
 obtain⟨F',M',s2,g1,g2,g3,g4,g5⟩:=mG (c:=c) mask reads F M [] ok.free ok.hiM
 have ok':cO F' M' c:=by
  refine⟨g4,fun b hb=>?_,fun b hb=>?_,ok.ge⟩
  ·have:=g3 b;rw[aQ (g4 b hb),ok.look hb]at this;exact this
  ·have:∃blk,(b,blk)∈F':=by
    clear g1 g2 g3 g5 h
    induction F' with
    |nil=>cases hb
    |cons a F' ih=>
     obtain⟨k,z⟩:=a;rw[dq]at hb;split at hb
     ·rename_i e;have e:k=b:=e;exact⟨z,by rw[e];exact ck ..⟩
     ·obtain⟨blk,hm⟩:=ih hb;exact⟨blk,bN _ hm⟩
   obtain⟨blk,hm⟩:=this;exact mL F' g2 b blk hm
 obtain⟨v,M2,c2,hd,hg,hR⟩:=h F' M' ok' g3
 have hun:=g5 M2 hg.old
 have he:ut (K Φ rd fn F) base (i,mask,.mk dst (.e o) none) (.mk t M c [] reads)=some (.mk (setT t dst v) (bc s2 M2) c2 [] reads):=by
  show sO o (K Φ rd fn F) dst t c [] reads (bO mask reads F M [])=_;rw[g1];show nD F' dst t [] reads (s2++[]) (iV o (K Φ rd fn F') M' c t)=_;rw[hd,cu];show(bif ce M2 F'&&true then(bc s2 M2).force fun M=>(setT t dst v).force fun t=>some (DS.mk t M c2 [] reads)else none)=_;rw[(hg.ok ok').free];show((bc s2 M2).force fun M=>(setT t dst v).force fun t=>some (DS.mk t M c2 [] reads))=_;rw[Tr.force_eq,Tr.force_eq]
 rw[fZ]
 have hle:=hg.le
 exact⟨_,he,hR _ ⟨hle,fun b hb=>by rw[hun,ae hb],fun b hb=>by rw[hun,ab (by omega)];exact hg.new b hb⟩ (fun x hx=>by rw[hun,ab (by omega)])⟩
theorem Y0{F':RO}(h:∀b,look F' M' b=look F M b)(b o:Nat):load1 F' M' b o=load1 F M b o:=by
 show lX (look F' M' b) none (fun m d c=>cell m d c o)=lX (look F M b) none fun m d c=>cell m d c o
 rw[h]
theorem bG.lk{F':RO}(h:∀b,look F' M' b=look F M b)(hs:bG F M c sz v es):bG F' M' c sz v es:=by
 obtain⟨h0,h1|⟨b,o,h1,h2,h3⟩⟩:=hs
 ·exact⟨h0,.inl h1⟩
 ·exact⟨h0,.inr ⟨b,o,h1,h2,fun k hk=>by rw[Y0 h];exact h3 k hk⟩⟩
end
section
variable{Φ:Nat→Option CF}{rd:Option Nat}{fn:Nat}{F:RO}
end
section
variable{Φ:Nat→Option CF}{rd:Option Nat}{fn:Nat}{F:RO}
structure Dt(h:Nat→Prop)(c:Nat)(M:Mem)(c':Nat)(M':Mem):Prop where
 le:c≤c'
 old:∀b,b<c→ ¬h b→M'.get b=M.get b
 new:∀b,c'≤b→M'.get b=none
theorem Dt.of{h:Nat→Prop}(g:Gr c M c' M'):Dt h c M c' M':=⟨g.le,fun b hb _=>g.old b hb,g.new⟩
theorem Dt.trans{h:Nat→Prop}{M2:Mem}{c2:Nat}(g:Dt h c M c1 M1)(g2:Dt h c1 M1 c2 M2):Dt h c M c2 M2:=
 ⟨bF g.le g2.le,fun b hb hn=>(g2.old b (Nat.lt_of_lt_of_le hb g.le) hn).trans (g.old b hb hn),g2.new⟩
theorem Dt.wk{h h':Nat→Prop}(g:Dt h c M c1 M1)(hh:∀b,b<c→h b→h' b):Dt h' c M c1 M1:=
 ⟨g.le,fun b hb hn=>g.old b hb fun hx=>hn (hh b hb hx),g.new⟩
theorem Dt.gr{h:Nat→Prop}(g:Dt h c M c1 M1)(h0:c0≤c)(hh:∀b,b<c0→ ¬h b):Gr c0 M c1 M1:=
 ⟨bF h0 g.le,fun b hb=>g.old b (by omega) (hh b hb),g.new⟩
theorem Dt.ok{h:Nat→Prop}(g:Dt h c M c1 M1)(ho:cO F M c)(hh:∀b,b<c→h b→ ∃x,M.get b=some x):cO F M1 c1:=by
 refine⟨g.new,fun b hb=>ho.hiF b (bF g.le hb),fun b hb=>?_,bF ho.ge g.le⟩
 have hlt:b<c:=by
  by_cases hc:b<c
  ·exact hc
  ·rw[ho.hiF b (by omega)]at hb;cases hb
 rw[g.old b hlt fun hx=>?_]
 ·exact ho.ap b hb
 ·obtain⟨x,hx⟩:=hh b hlt hx;rw[ho.ap b hb]at hx;cases hx
theorem zW{bytes:Nat}{y:V}{ns:List (List V)}(h:bG F M c sz (.l b 0 n n) es)(hn:es.length=n)(hsz:0<sz)(hy:bG F M c sz y ns)(hne:ns≠[])(h1:bj ns.flatten=true)(hr:jJ (es.length+ns.length) bytes=true):
 tF (kZ F M c ty sz bytes (.l b 0 n n) y) fun v' M' c'=>c'=c+1∧M'=M.set c (qF ty (es++ns).flatten)∧v'= .u c 0 (es++ns).length 0 (es++ns).length:=by
 unfold kZ
 rw[ov hsz hy]
 have hnl:=gk hy.1
 have hn0:ns.length≠0:=fun e=>hne (List.length_eq_zero_iff.1 e)
 have e1:mm F M c ty sz bytes (.l b 0 n n) (some (ns.length,ns.flatten))=pu F M c ty sz bytes b 0 n n ns.length ns.flatten:=by
  show(bif bj ns.flatten&&Nat.beq ns.flatten.length (Nat.mul ns.length sz)then app F M c ty sz bytes (.l b 0 n n) ns.length ns.flatten else _)=_;rw[h1,bK,af (show ns.flatten.length=Nat.mul ns.length sz from hnl)];show(bif Nat.beq ns.length 0 then _ else _)=_;rw[bK,ah hn0];rfl
 have hcl:cK F M b 0 es.flatten:=by
  obtain⟨h0,⟨rfl,h2⟩|⟨b',o',hv,hb,hc⟩⟩:=h
  ·intro k hk;cases hk
  ·rcases hv with⟨cap,_,hv⟩|⟨el,kn,_,hv⟩
   ·injection hv with e1 e2;subst e1 e2;exact hc
   ·cases hv
 obtain⟨r,hrd⟩:=lQ hsz h.1 hcl
 rw[hn]at hrd
 have e2:pu F M c ty sz bytes b 0 n n ns.length ns.flatten=ju M c ty bytes (es.length+ns.length) 0 false (es.flatten++ns.flatten):=by
  unfold pu;rw[cE,ah (show¬Nat.add n ns.length≤n by show¬n+ns.length≤n;omega),cond_false,hrd,←hn];rfl
 refine⟨_,_,_,(e1.trans e2).trans (nX M c ty bytes _ _ hr),rfl,by rw[List.flatten_append],by rw[aG]⟩
end
def E1(E:dj)(b:Nat):dj:=⟨fun x=>if x<1000 then x else E.ρ b,fun x=>if x<1000 then 0 else E.β b,fun x=>if x<1000 then 0 else E.κ b⟩
open Classical in
def ou:List UInt8→List UInt8→List (List UInt8)
 |[],a=>[a]
 |[x],a=>[a++[x]]
 |x::y::r,a=>if x=44∧y=32 then a::ou r []else ou (y::r) (a++[x])
theorem bL9(x y:UInt8)(r:List UInt8):Lib.occAt (x::y::r) [44,32] 0=decide (x=44∧y=32):=by
 show([44,32]:List UInt8).isPrefixOf (x::y::r)=_
 rw[List.isPrefixOf_cons_cons,List.isPrefixOf_cons_cons]
 have:([]:List UInt8).isPrefixOf r=true:=by cases r<;>rfl
 rw[this,Bool.and_true]
 by_cases h1:x=44
 ·by_cases h2:y=32
  ·subst h1 h2;rfl
  ·have:((32:UInt8)==y)=false:=by rw[beq_eq_false_iff_ne];exact fun e=>h2 e.symm
   rw[this,Bool.and_false,ah (by rintro⟨_,h⟩;exact h2 h)]
 ·have:((44:UInt8)==x)=false:=by rw[beq_eq_false_iff_ne];exact fun e=>h1 e.symm
  rw[this,Bool.false_and,ah (by rintro⟨h,_⟩;exact h1 h)]
theorem bM0(x:UInt8)(r:List UInt8)(j:Nat):Lib.occAt (x::r) [44,32] (j+1)=Lib.occAt r [44,32] j:=rfl
theorem Ky:∀(s a:List UInt8),(∀j,j≤s.length→Lib.occAt s [44,32] j=false)→ou s a=[a++s]
 |[],a,_=>by rw[ou,cu]
 |[x],a,_=>by rw[ou]
 |x::y::r,a,h=>by
  have h0:=h 0 (aE _);rw[bL9]at h0;rw[ou,ab (of_decide_eq_false h0),Ky (y::r) _ fun j hj=>by rw[←bM0 x];exact h (j+1) (by simpa using hj)];simp
theorem D2:∀(i:Nat) (s a:List UInt8),Lib.occAt s [44,32] i=true→(∀j,j<i→Lib.occAt s [44,32] j=false)→ou s a=(a++s.take i)::ou (s.drop (i+2)) []
 |i,[],a,h,_=>by rcases Lib.occAt_room h with h|h<;>simp at h
 |i,[x],a,h,_=>by rcases Lib.occAt_room h with h|h<;>simp at h
 |0,x::y::r,a,h,_=>by
  rw[bL9]at h;rw[ou,ae (aY h)];simp
 |i+1,x::y::r,a,h,hn=>by
  have h0:=hn 0 (Nat.succ_pos _);rw[bL9]at h0;rw[ou,ab (of_decide_eq_false h0),D2 i (y::r) _ (by rw[←bM0 x];exact h) fun j hj=>by rw[←bM0 x];exact hn (j+1) (by omega)];simp
theorem FA:∀(n:Nat) (s:List UInt8),s.length≤n→Lib.splitK [44,32] 0 (Lib.count s [44,32]) s=ou s []:=by
 intro n
 induction n with
 |zero=>
  intro s hs;obtain rfl:s=[]:=List.length_eq_zero_iff.1 (by omega);rfl
 |succ n ih=>
  intro s hs;rcases Lib.index_spec s [44,32]with⟨h,hn⟩|⟨i,h,hi,ho,hn⟩
  ·rw[Lib.count_miss h,Ky s [] hn];rfl
  ·rw[Lib.count_hit (by simp) h,D2 i s [] ho hn,Nat.add_comm 1];show(if Lib.index s [44,32]== -1 then[s]else _)=_;rw[h,ab (by simp)];show s.take (((i:Int)).toNat+0)::Lib.splitK [44,32] 0 _ (s.drop (((i:Int)).toNat+2))=_;have hr:=Lib.occAt_room ho;rw[Int.toNat_natCast,cT];have hl:(s.drop (i+2)).length≤n:=by
    rcases hr with hr|hr
    ·rw[eL];simp at hr;omega
    ·cases hr
   rw[show([44,32]:List UInt8).length=2 from rfl,ih _ hl];rfl
def cN1(ty:Nat)(ps:List (List UInt8)):bL:= .cells ty (ps.map sV).length true 0 false [] (bz (ps.map sV) 0 .e)
def Z4(ty n:Nat)(ps:List (List UInt8))(M:Mem)(ct:Nat):Option V→RC
 |some (.i .i64 _)=>bif Nat.blt n 4294967281 then .k (.l ct 0 (ps.map sV).length (ps.map sV).length) (M.set ct (cN1 ty ps)) (Nat.succ ct)else .f
 |_=> .f
def xz(ty g:Nat):RO→List V→Mem→Nat→RC:=fun F args M ct=>match args with
 |[.s n x,.s m y]=>bif Nat.beq m 2&&Nat.beq y 8236 then Z4 ty n (ou (bl n x) []) M ct (load1 F M g 0)else .f
 |_=> .f
theorem Xb(E:dj)(p:ByteArray):conc E (sV p.data.toList)= .string p:=by
 show Value.string (ba p.data.toList.length (cN p.data.toList))=_
 congr 1
 exact(sH (by rw[mP])).symm
theorem MO{ρ:Ren}(L:Lays.n146 P ρ)(hi9:(P.info? (ρ.t 9)).map (fun i=>(i.zero,i.size,i.bytes))=some (some (.string ByteArray.empty),1,16)){f g:Nat}(hf:ρ.f 146=f)(hty:ρ.t 9=ty)(hg:ρ.g 1=g)(hg1:g<1000)
 {fn:Func} (hfn:P.funcs[f]?=some fn) (hb:fn.body.isNone=false) (hn:(fn.name== "runtime.NumGoroutine")=false):bY P f (xz ty g):=by
 subst hf hty hg
 intro F args M ct v N ct' hgv E c w hr hglob hbig hf ha
 unfold xz at hgv
 split at hgv
 ·rename_i n x m y;cases hq:Nat.beq m 2&&Nat.beq y 8236 with
  |false=>rw[hq]at hgv;cases hgv
  |true=>
   rw[hq,cond_true]at hgv;rw[aC,bK,bK]at hq;obtain rfl:=aY hq.1;obtain rfl:=aY hq.2;unfold Z4 at hgv;split at hgv
   ·rename_i z hl;cases hlt:Nat.blt n 4294967281 with
    |false=>rw[hlt]at hgv;cases hgv
    |true=>
     rw[hlt,cond_true]at hgv;rw[eT]at hlt;have hn1:=aY hlt;injection hgv with e1 e2 e3
     subst e1 e2 e3;obtain⟨ty',n',ex,fz,str,d,cs,hbk,hgc⟩:=fU (f:=none) hl (by simp);obtain⟨_,_,o,ho,arr,fr,rfl,hC⟩:=hr.has _ _ hbk;have hm:w.cell? ⟨ρ.g 1,0,none⟩=some (.int .i64 z):=by
      rw[(hglob _ hg1).1]at ho;have hcell:=hC.cell 0 _ hgc;rw[(hglob _ hg1).2]at hcell;simp only[World.cell?,ho,Option.isSome_none,bg,if_false];exact hcell
     refine⟨fn,hfn,hb,hn,?_⟩;have hcall:=Go.Proofs.Any.strings_Split L hi9 (ba n x) (ba 2 8236) z w (by rw[ec];exact hn1) hm (by rw[ec];omega);have hargs:(aB E [.s n x,.s 2 8236]).toArray=#[.string (ba n x),.string (ba 2 8236)]:=rfl;rw[hargs];refine hcall.mono ?_;rintro e w' ⟨rfl,rfl⟩;have hps:(Lib.splitB (ba 2 8236) 0 (Lib.countB (ba n x) (ba 2 8236)) (ba n x)).map (·.data.toList)=ou (bl n x) []:=by
      rw[Lib.splitB_data,gS,gS];show Lib.splitK (bl 2 8236) 0 (Lib.count (ba n x).data.toList (ba 2 8236).data.toList) (bl n x)=_;rw[gS,gS,show bl 2 8236=[44,32]from by decide];exact FA _ _ (ak _)
     have hcells:((Lib.splitB (ba 2 8236) 0 (Lib.countB (ba n x) (ba 2 8236)) (ba n x)).map Value.string).toArray=(aB E ((ou (bl n x) []).map sV)).toArray:=by
      rw[←hps,bC,List.map_map,List.map_map]
      congr 1
      exact List.map_congr_left fun p _=>(Xb E p).symm
     have hlen:((ou (bl n x) []).map sV).length=Lib.countB (ba n x) (ba 2 8236)+1:=by
      rw[←hps,List.length_map,List.length_map];exact Lib.splitB_all _ (by rw[ec];omega) 0 _ _ rfl
     have hbd:i9 c ((ou (bl n x) []).map sV):=(kK c _).2 fun v hv=>by obtain⟨l,_,rfl⟩:=List.mem_map.1 hv;trivial
     obtain⟨E',hS,hE,hρ,hβ,hκ⟩:=hr.alloc (cN1 (ρ.t 9) (ou (bl n x) [])) (.cells ((Lib.splitB (ba 2 8236) 0 (Lib.countB (ba n x) (ba 2 8236)) (ba n x)).map Value.string).toArray (ρ.t 9)) ct 0 (fun b=>c b∨b=ct)
      (hf ct (ak _)) (.inr rfl) (fun _ h=> .inl h) (rG hbd fun _ h=> .inl h) (w.alloc (.cells ((Lib.splitB (ba 2 8236) 0 (Lib.countB (ba n x) (ba 2 8236)) (ba n x)).map Value.string).toArray (ρ.t 9))) rfl rfl rfl rfl
      (fun E' he _ hβ _=>wF he hbd hβ hcells)
     refine⟨E',fun b=>c b∨b=ct,?_,hS,.inr rfl,ja c ct⟩;simp only[conc,hρ,hβ,hlen]
   ·cases hgv
 ·cases hgv
def wJ(F:RO):Option (Nat×Int):=match be F 0 with
 |some (.cells ty n false fz true d c)=>bif Nat.beq n 1&&Nat.beq fz 1 then(match cell 1 d c 0 with
  |some (.i .i64 z)=>some (ty,z)
  |_=>none)else none
 |_=>none
theorem MI{z:Int}(h:wJ F=some (ty,z)):∃d c,be F 0=some (.cells ty 1 false 1 true d c)∧cell 1 d c 0=some (.i .i64 z):=by
 unfold wJ at h
 split at h
 ·rename_i ty' n fz d c hF;cases hh:Nat.beq n 1&&Nat.beq fz 1 with
  |false=>rw[hh]at h;cases h
  |true=>
   rw[hh,cond_true]at h;rw[aC,bK,bK]at hh;obtain rfl:=aY hh.1;obtain rfl:=aY hh.2;split at h
   ·rename_i z' hc;injection h with h;injection h with h1 h2
    subst h1 h2;exact⟨d,c,hF,hc⟩
   ·cases h
 ·cases h
def wI(ty:Nat)(z:Int):bL:= .cells ty 1 false 1 true [.i .i64 z] .e
theorem CT{x:Nat}{R:RO}:be ((x,blk)::R) b=if x=b then some blk else be R b:=by
 show Bool.rec (motive:=fun _=>Option bL) (be R b) (some blk) (Nat.beq x b)=_
 rw[bb,bK]
 by_cases e:x=b
 ·rw[ae (by simpa using e),ae e]
 ·rw[ab (by simpa using e),ab e]
theorem ar1{gs:List Nat}{ty:Nat→Nat}{q:Nat→Nat×Nat×Nat}{k x:Nat}(h:bn F L=true)(he:jl F gs=true)(hx:(be (wd (mR L ty) q gs k) x).isSome=true):x<1000:=by
 obtain⟨y,hy⟩:=bM.1 hx
 rcases ry hy with hy|⟨i,hi,_⟩
 ·obtain⟨t,ht,e,_⟩:=sj hy;subst e;exact(iT h t ht).1
 ·exact(qk he x (List.mem_of_getElem? hi)).1
theorem ay0{c:Nat→Prop}{w:World}{gs:List Nat}(hr:ku P E F M c w)(hglob:∀g,g<1000→E.ρ g=g∧E.β g=0)(h:bn F L=true)(he:jl F gs=true)(hm:(wJ F).isSome=true):
 ∃ty q tm z,ku P (rx E F gs) ((0,wI tm z)::wd (mR L ty) q gs 1000) .e (fun x=>x<1000+gs.length) w:=by
 obtain⟨ty,q,h1⟩:=YB hr hglob h he
 obtain⟨⟨tm,z⟩,hq⟩:=bM.1 hm
 obtain⟨d,cc,hF,hc⟩:=MI hq
 have hgl:∀g,g<1000→(rx E F gs).ρ g=g:=fun g hg=>((eN E F gs).ρ g hg).trans (hglob g hg).1
 have hl:look F M 0=some (.cells tm 1 false 1 true d cc):=by
  rw[aQ (hr.apart 0 (by rw[hF];rfl))];exact hF
 obtain⟨_,hbd,obj,ho,arr,fr,rfl,hC⟩:=hr.has _ _ hl
 refine⟨ty,q,tm,z,⟨?_,?_,fun b hb=>rfl⟩⟩
 ·intro b blk hb;rw[aQ (show(Tr.e:Mem).get b=none from rfl),CT]at hb;by_cases e:0=b
  ·rw[ae e]at hb;subst e;obtain rfl:=ag hb;refine⟨show 0<1000+gs.length by omega,?_,_,by rw[hgl 0 (by decide),←(hglob 0 (by decide)).1];exact ho,arr,fr,rfl,?_,?_,?_,fun hh=>by cases hh⟩
   ·intro k v hv;rw[cM]at hv;split at hv
    ·obtain rfl:k=0:=by omega
     obtain rfl:=ag hv;trivial
    ·cases hv
   ·intro k v hv;rw[cM]at hv;split at hv
    ·obtain rfl:k=0:=by omega
     obtain rfl:=ag hv;have:=hC.cell 0 _ hc;rw[(eN E F gs).β 0 (show 0<1000 by decide),this];rfl
    ·cases hv
   ·have:=hC.size;rw[(eN E F gs).β 0 (show 0<1000 by decide),(eN E F gs).κ 0 (show 0<1000 by decide)];exact this
   ·rw[(eN E F gs).β 0 (show 0<1000 by decide)];exact hC.free
  ·rw[ab e]at hb;exact h1.has b blk (by rw[aQ (show(Tr.e:Mem).get b=none from rfl)];exact hb)
 ·intro b b' g1 g2 e;have lt:∀x,(look ((0,wI tm z)::wd (mR L ty) q gs 1000) .e x).isSome→x<1000:=by
   intro x hx;rw[aQ (show(Tr.e:Mem).get x=none from rfl),CT]at hx;by_cases e:0=x
   ·omega
   ·rw[ab e]at hx;exact ar1 h he hx
  rw[hgl b (lt b g1),hgl b' (lt b' g2)]at e;exact e
def Ax(L:List uN)(gs:List Nat):RO→List V→Mem→Nat→RC:=fun F args M ct=>match args with|[]=>bif (bn F L&&jl F gs)&&(wJ F).isSome then .k (.b true) M ct else .f|_=> .f
theorem EW{gs:List Nat}(h:bn F L=true)(h':jl F gs=true)(hm:(wJ F).isSome=true)(M:Mem)(c:Nat):Ax L gs F [] M c= .k (.b true) M c:=by
 show(bif (bn F L&&jl F gs)&&(wJ F).isSome then RC.k (.b true) M c else .f)=_
 rw[h,h',hm];rfl
theorem wQ(hm:P.follows .mixedOrders=true)(hΦ:fo P Φ){fuel f:Nat}{gs:List Nat}(hn:1000+gs.length=n)
 (h:∀ty q tm z,isT (cN2 Φ fuel ((0,wI tm z)::wd (mR L ty) q gs 1000) f n)=true):bY P f (Ax L gs):=by
 subst hn
 intro F args M ct v N ct' hg E c w hr hglob hbig hf ha
 cases args with
 |cons a r=>cases hg
 |nil=>
  have hg':(bif (bn F L&&jl F gs)&&(wJ F).isSome then RC.k (.b true) M ct else .f)= .k v N ct':=hg;cases ht:(bn F L&&jl F gs)&&(wJ F).isSome with
  |false=>rw[ht]at hg';cases hg'
  |true=>
   rw[ht]at hg';rw[aC,aC]at ht;have hg2:RC.k (.b true) M ct= .k v N ct':=hg';injection hg2 with e1 e2 e3
   subst e1 e2 e3;obtain⟨ty,q,tm,z,hrel⟩:=ay0 hr hglob ht.1.1 ht.1.2 ht.2;obtain⟨M',ct2,hk⟩:=XN (h ty q tm z);have hgl:∀g,g<1000→(rx E F gs).ρ g=g∧(rx E F gs).β g=0:=fun g hg=>⟨((eN E F gs).ρ g hg).trans (hglob g hg).1,((eN E F gs).β g hg).trans (hglob g hg).2⟩;obtain⟨fn,h1,h2,h3,hC⟩:=iL (rd:=none) (fn:=0) (F₀:=[]) hΦ (we hm hΦ fuel) ((0,wI tm z)::wd (mR L ty) q gs 1000) f [] .e (1000+gs.length) (.b true) M' ct2 hk (rx E F gs) (fun x=>x<1000+gs.length) w hrel hgl (fun g hg=>Nat.lt_of_lt_of_le hg (Nat.le_add_right _ _)) (fun b hb hc=>Nat.lt_irrefl _ (Nat.lt_of_lt_of_le hc hb)) trivial;refine⟨fn,h1,h2,h3,hC.mono ?_⟩;rintro e w' ⟨E',c',rfl,hS,hb,hG⟩;have hfr:∀r,r<w.heap.size→w'.heap[r]?=w.heap[r]?:=fun r hr'=>hS.frame r hr' (fun b hb=>by cases hb);have hhas:∀b blk,look F M b=some blk→c b∧fw c blk∧ ∃o,w'.heap[E.ρ b]?=some o∧ft P E b blk o:=by
    intro b blk hb;obtain⟨g1,g2,o,ho,g3⟩:=hr.has b blk hb;exact⟨g1,g2,o,by rw[hfr _ (Array.getElem?_eq_some_iff.1 ho).1];exact ho,g3⟩
   exact⟨E,c,rfl,⟨.refl c E,fun _ h=>h,⟨hhas,hr.inj,hr.apart⟩,fun b hb=> .inl ⟨b,hb,rfl⟩,fun r hr' _=>hfr r hr',hS.size,hS.os,hS.output,hS.tape⟩,trivial,.refl _ _⟩
theorem bK9{W:World}{C:Nat}{t:TypeId}(h:W.ShapedOpen P)(hg:0<P.globals.size)(h0:((begin P (fun _ _=>0) default).world.heap[0]?).bind Obj.row?=some (#[.int .i64 0],t))
 (hb:P.buildable t=true) (hc:P.cellTypes P.depth t=some [t]) (hu:P.underlying t=some (.int .i64)):(wJ (dV W C)).isSome=true:=by
 obtain⟨m,hm⟩:=Go.Proofs.cell_of_shapedOpen_int h hg h0 rfl hb hc hu
 obtain⟨cs,hh,hs,_⟩:=h.1 0 _ t hg h0
 have hs1:cs.size=1:=hs
 obtain⟨x,hx⟩:∃x,cs=#[x]:=Array.size_eq_one_iff.1 hs1
 subst hx
 have hx:x= .int .i64 m:=by
  unfold World.cell? at hm;rw[hh]at hm;exact ag hm
 subst hx
 have hv2:uL C (.int .i64 m)=some (.i .i64 m):=rfl
 have hcell:cell (#[Value.int .i64 m]).size [] (kf ((#[Value.int .i64 m]).toList.map (uL C)) 0 .e) 0=some (.i .i64 m):=(jP (ty:=t)).2 ⟨_,rfl,hv2⟩
 have hcell':cell 1 [] (kf ((#[Value.int .i64 m]).toList.map (uL C)) 0 .e) 0=some (.i .i64 m):=hcell
 unfold wJ
 rw[jO,hh]
 show Option.isSome (bif Nat.beq 1 1&&Nat.beq 1 1 then(match cell 1 [] (kf ((#[Value.int .i64 m]).toList.map (uL C)) 0 .e) 0 with
  |some (.i .i64 z)=>some (t,z)
  |_=>none)else none)=true
 rw[hcell']
 rfl
theorem Cn{H:Type}{enc:TypeId×Value→H}{C:Checked}{os:Os}{f:FuncId}{fn:Func}{s:ChangeSpec}{conds:List PathCond}{apart fresh handsOn nM:Bool}{X:World→Array Value→Prop}
 (hX:∀(w w':World) (args:Array Value),w.heap=w'.heap→X w args→X w' args) (own:ownKnob C.prog.godebug=none) (started:os.Started) (noInit:C.prog.inits.idxOf? f=none) (hfn:C.prog.funcs[f]?=some fn)
 (wit:∃(w:World) (tape:Tape) (i:Input),w.os=os∧(w.forCall tape i).Shaped C.prog∧i.vars=[]∧Input.okWide C.prog (w.forCall tape i) .any w.heap.size f i∧
  ((s.pre enc C.prog fn conds apart (w.forCall tape i).memory i.args∧X (w.forCall tape i).memory i.args)∧sizedMet enc C.prog fn (OpenSpec.ofChange s) apart (w.forCall tape i).memory i.args)∧({}:Assume).holds C.prog (lone (Frame.enter C.prog f i.args .normal) [] (w.forCall tape i)))
 (k:∀(W:World) (base:Nat) (args:Array Value) (ds gs:List (DataW H)) (before:List MemPlace),W.ShapedOpen C.prog→
  (∀(j:Nat) t v,fn.params[j]?=some t→args[j]?=some v→Value.okWide C.prog W .any base t v)→DataW.Whole enc C.prog fn.params.toList s.vars apart W args.toList ds gs before→
  conds.all (PathCond.test C.prog ⟨fn.params.toList,ds,s.plain.varTypes C.prog,gs⟩)=true→(DataW.weightsEach C.prog (fn.params.toList++s.plain.varTypes C.prog) (ds++gs)).all (· ≤reachBytes)=true→X W args→
  Go.Calls C.prog f args W fun e W'=>∃v,e= .returned v∧s.post enc C.prog fn apart fresh handsOn nM W args v W'):
 ReturnsInHanded {} C os f .any (fun w args=>(s.pre enc C.prog fn conds apart w args∧X w args)∧sizedMet enc C.prog fn (OpenSpec.ofChange s) apart w args) (s.post enc C.prog fn apart fresh handsOn nM):=by
 refine returnsInHanded_of_calls own started noInit wit ?_
 intro w tape i _ hsh _ hok hpre _
 have hval:∀(j:Nat) t v,fn.params[j]?=some t→i.args[j]?=some v→Value.okWide C.prog (w.forCall tape i) .any w.heap.size t v:=by
  obtain⟨_,_,_,fn',h1,_,_,_,_,h2⟩:=hok;rw[hfn]at h1;obtain rfl:=ag h1;exact h2
 obtain⟨⟨⟨ds,gs,before,hw,hc⟩,hx⟩,hz⟩:=hpre
 refine(k _ _ _ ds gs before hsh hval (DataW.Whole.of_heap (w':=w.forCall tape i) (by rfl) hw) hc (hz.weights hw) (hX _ _ _ (by rfl) hx)).mono ?_
 rintro e W' ⟨v,rfl,hp⟩
 exact ChangeSpec.post_blind hp
variable{Φ:Nat→Option CF}{rd:Option Nat}{fn:Nat}{F:RO}
theorem zF{F:RO}{x:Nat}{blk:bL}:∀{L:List uN},(∀t∈L,t.1≠x)→bn ((x,blk)::F) L=bn F L
 |[],_=>rfl
 |t::r,h=>by
  have h1:=h t (ck ..);show(Nat.blt t.1 1000&&(kj ((x,blk)::F) t&&bn ((x,blk)::F) r))=(Nat.blt t.1 1000&&(kj F t&&bn F r))
  rw[zF fun t ht=>h t (bN _ ht)];have:kj ((x,blk)::F) t=kj F t:=by
   unfold kj;rw[dq,ab (fun e=>h1 e.symm)]
  rw[this]
theorem kS{L:List uN}(mask:Nat):∀(reads:List (Nat×Nat)) (F:RO) (M:Mem) (s:List (Nat×bL)) {F':RO} {M':Mem} {s':List (Nat×bL)},bO mask reads F M s=Pr.mk F' M' s'→bn F L=true→(∀t∈L,M.get t.1=none)→bn F' L=true
 |[],F,M,s,F',M',s',h,ht,_=>by
  cases h;exact ht
 |(i,x)::r,F,M,s,F',M',s',h,ht,hn=>by
  rw[bO]at h;cases hb:testBit mask i with
  |true=>rw[hb]at h;exact kS mask r F M s h ht hn
  |false=>
   rw[hb]at h;have h:(match M.get x with|none=>bO mask r F M s|some blk=>(M.del x).force fun M=>bO mask r ((x,blk)::F) M ((x,blk)::s))=Pr.mk F' M' s':=h;cases hx:M.get x with
   |none=>rw[hx]at h;exact kS mask r F M s h ht hn
   |some blk=>
    rw[hx]at h;have h:(M.del x).force (fun M=>bO mask r ((x,blk)::F) M ((x,blk)::s))=Pr.mk F' M' s':=h;rw[Tr.force_eq]at h;have hne:∀t∈L,t.1≠x:=fun t htm e=>by have:=hn t htm;rw[e,hx]at this;cases this
    exact kS mask r _ _ _ h ((zF hne).trans ht) fun t htm=>by rw[Tr.get_del,ab (hne t htm)];exact hn t htm
theorem bx4{f:Nat}{h:List V→Option V}(hf:Φ f=some (.orc (cI L h)))(ht:bn F L=true)(hM:ce M F=true)(hn:∀t∈L,M.get t.1=none)(base i mask:Nat)(dst:Option aM)(as0:List X)(r:List (Nat×Nat×CO))(t:T)(c:Nat)(reads:List (Nat×Nat))(R:DS→Prop):
 oH base ((i,mask,.mk dst (.e (.call f as0)) none)::r) (K Φ rd fn F) (.mk t M c [] reads) R=Ok (h (evs as0 t)) dst base r (K Φ rd fn F) t M c reads R:=by
 have hd:ut (K Φ rd fn F) base (i,mask,.mk dst (.e (.call f as0)) none) (.mk t M c [] reads)=(match h (evs as0 t)with|some v=>some (DS.mk (setT t dst v) M c [] reads)|none=>none):=by
  obtain⟨F',M',s',h1,h2,h3⟩:=jd mask reads F M [] hM;have ht':=kS mask reads F M [] h1 ht hn;show sO (.call f as0) (K Φ rd fn F) dst t c [] reads (bO mask reads F M [])=_;rw[h1];show(bif cU F' M' []then nD F' dst t [] reads s' (eX (lU Φ) F' f (evs as0 t) M' c (Φ f))else none)=_;rw[hf];show nD F' dst t [] reads s' (cI L h F' (evs as0 t) M' c)=_;rw[cP ht'];cases hv:h (evs as0 t)with
  |none=>rfl
  |some v=>
   show(bif ce M' F'&&cU F' M' []then(bc s' M').force fun M=>(setT t dst v).force fun t=>some (DS.mk t M c [] reads)else none)=_;rw[h2];show(bc s' M').force (fun M=>(setT t dst v).force fun t=>some (DS.mk t M c [] reads))=_;rw[Tr.force_eq,Tr.force_eq,h3];rfl
 rw[fZ,hd]
 cases h (evs as0 t)with
 |none=>
  apply propext;constructor
  ·rintro⟨s,h,_⟩;cases h
  ·intro h;exact h.elim
 |some v=>
  apply propext;constructor
  ·rintro⟨s,h,hr⟩;obtain rfl:=ag h;exact hr
  ·intro h;exact⟨_,rfl,h⟩
theorem D7(ok:cO F M c)(ht:bn F L=true):∀t∈L,M.get t.1=none:=fun t h=>ok.ap _ (by
 have:=(iT ht t h).2
 unfold kj at this
 cases hr:be F t.1 with
 |none=>rw[hr]at this;cases this
 |some _=>rfl)
theorem d83{f:Nat}{h:List V→Option V}(hf:Φ f=some (.orc (aJ h)))(hM:ce M F=true)(base i mask:Nat)(dst:Option aM)(as0:List X)(r:List (Nat×Nat×CO))(t:T)(c:Nat)(reads:List (Nat×Nat))(R:DS→Prop):
 oH base ((i,mask,.mk dst (.e (.call f as0)) none)::r) (K Φ rd fn F) (.mk t M c [] reads) R=Ok (h (evs as0 t)) dst base r (K Φ rd fn F) t M c reads R:=by
 have hd:ut (K Φ rd fn F) base (i,mask,.mk dst (.e (.call f as0)) none) (.mk t M c [] reads)=(match h (evs as0 t)with|some v=>some (DS.mk (setT t dst v) M c [] reads)|none=>none):=by
  obtain⟨F',M',s',h1,h2,h3⟩:=jd mask reads F M [] hM;show sO (.call f as0) (K Φ rd fn F) dst t c [] reads (bO mask reads F M [])=_;rw[h1];show(bif cU F' M' []then nD F' dst t [] reads s' (eX (lU Φ) F' f (evs as0 t) M' c (Φ f))else none)=_;rw[hf];show nD F' dst t [] reads s' (aJ h F' (evs as0 t) M' c)=_;unfold aJ;cases hv:h (evs as0 t)with
  |none=>rfl
  |some v=>
   show(bif ce M' F'&&cU F' M' []then(bc s' M').force fun M=>(setT t dst v).force fun t=>some (DS.mk t M c [] reads)else none)=_;rw[h2];show(bc s' M').force (fun M=>(setT t dst v).force fun t=>some (DS.mk t M c [] reads))=_;rw[Tr.force_eq,Tr.force_eq,h3];rfl
 rw[fZ,hd]
 cases h (evs as0 t)with
 |none=>
  apply propext;constructor
  ·rintro⟨s,h,_⟩;cases h
  ·intro h;exact h.elim
 |some v=>
  apply propext;constructor
  ·rintro⟨s,h,hr⟩;obtain rfl:=ag h;exact hr
  ·intro h;exact⟨_,rfl,h⟩
theorem cM3(o:Option V):qr o= .f∨ ∃y,qr o= .v y:=by cases o with
 |none=>exact .inl rfl
 |some v=>exact .inr ⟨v,rfl⟩
theorem aq0(len sz:Nat)(x i:X)(M:Mem)(t:T):oM (.ixA1 len sz x i) F M t=oV (JJ len sz (x.ev t) (i.ev t)):=by
 refine(ij ?_).trans (congrArg oV (Zl (F:=F) len sz x i M t))
 intro F' M'
 refine nq ?_
 show((Fb (x.ev t) QR.f fun cs=>rF len sz cs (sF (i.ev t)))= .f∨ ∃y,(Fb (x.ev t) QR.f fun cs=>rF len sz cs (sF (i.ev t)))= .v y)
 cases x.ev t with
 |g cs=>
  show rF len sz cs (sF (i.ev t))= .f∨ ∃y,rF len sz cs (sF (i.ev t))= .v y;cases sF (i.ev t)with
  |none=>exact .inl rfl
  |some n=>
   show(bif Nat.blt n len then qr (yp cs (Nat.mul n sz))else QR.f)= .f∨ ∃y,(bif Nat.blt n len then qr (yp cs (Nat.mul n sz))else QR.f)= .v y;cases Nat.blt n len with
   |false=>exact .inl rfl
   |true=>exact cM3 _
 |_=>exact .inl rfl
structure Ins where
 op:Int
 d:Int
 a:Int
 b:Int
 i:Int
def qn(x:Ins):List V:=[.i .i64 x.op,.i .i64 x.d,.i .i64 x.a,.i .i64 x.b,.i .i64 x.i]
theorem yu(p q:aM)(x y:V)(t:T):di [p,q] [x,y] t=some ((t.setP p x).setP q y):=by
 show(t.setP p x).force (fun t=>(t.setP q y).force fun t=>some t)=_
 rw[Tr.force_eq,Tr.force_eq]
def b05:CC:=(.reg [(qq a2 (.mv z0)),(qq a3 (.nck z2)),(qq a4 (.fa 0 z3)),(qq a5 (.ld1 z4)),(qq a6 (.eq false .ptr true z5 (.c .p0)))])
def b06:CC:=(.reg [(qq a7 (.mv z0)),(qq a8 (.mv z0)),(qq a9 (.up z8)),(qq dp (.mv z9)),(qq dk (.dn 66 2 dx)),(qq dy (.nck z7)),(qq dN (.fa 0 dX)),(ez (.st 1 dG dC))])
def b07:CC:=(.reg [(qq dL (.mv z0)),(qq dS (.nck eu)),(qq dY (.fa 0 dM)),(qq eE (.ld1 eF)),(qq dT (.mv z0)),(qq eG (.eq true .ptr false eD fm))])
def b08:CC:=(.cond z6 b06 (.seq b07 (.cond fS .bad .skip)))
def En:CF:= .mk 5 [] (.seq b05 b08)
theorem e60(v0:V):aU 5 [v0]=(.n lj (some v0) lj):=rfl
def B60:=ai @e60 (ai (wu b05.eq_1) (ai (wu b06.eq_1) (ai (wu b07.eq_1) (wu b08.eq_1))))
def PE:CC:=(.dreg 16 [(0,0,(qq a5 (.mv z0))),(1,1,(qq a6 (.nck z5))),(2,3,(qq a7 (.fa 1 z6))),(3,7,(qq a8 (.ld1 z7))),(4,15,(qq a9 (.cp z8))),(5,31,(qq dp (.bi .mul (x6 2) z9))),(6,0,(qq dk (.mv z1))),(7,127,(qq dy (.bi .add dx dC))),(8,255,(aa dN (.nz 5 dX))),(9,0,(qq dL (.mv z0))),(10,512,(qq dS (.nck eu))),(11,1536,(qq dY (.fa 1 dM))),(12,3584,(qq eE (.ld1 eF))),(13,7680,(qq dT (.ln .slice eD))),(14,16383,(qq eG (.slL 1 dG none (some fm) none))),(15,32767,(qq a4 (.mv fS)))])
def PF:CC:=(.reg [(qq fF (.mv z4)),(qq eR (.mv z0)),(qq fv (.nck gv)),(qq fl (.fa 1 gb)),(qq dU (.ld1 gH)),(ee eV (.cpy 1 fD gM))])
def PG:CC:=(.reg [(qq eb (.mv z0)),(qq fG (.mv z4)),(qq gi (.nck gw)),(qq gg (.fa 1 iz)),(ez (.st 1 iA gy))])
def vP:CF:= .mk 5 [] (.seq PE (.seq PF PG))
theorem dh1(v0 v1:V):aU 5 [v0,v1]=(.n (.n iy (some v1) iy) (some v0) lj):=rfl
def dd8:=ai @dh1 (ai (wu PE.eq_1) (ai (wu PF.eq_1) (wu PG.eq_1)))
def bi2:CC:=(.reg [(qq a4 (.mv z0)),(ee a5 (.call 60 [z4]))])
def bi3:CC:=(.reg [(qq a6 (.mv z1)),(qq a7 (.bi .lss z6 (x6 0)))])
def bi4:CC:=(.reg [(qq a8 (.mki 9 (.c (.s 36 226187813140227768008177986391742176399534891738691412630441701833056540972817830802547)))),⟨none,.q (.bad),none⟩])
def bi5:CC:=(.dreg 13 [(0,0,(qq a9 (.mv z0))),(1,1,(qq dp (.nck z9))),(2,3,(qq dk (.fa 1 dx))),(3,7,(qq dy (.ld1 dC))),(4,15,(qq dN (.cp dX))),(5,0,(qq dL (.mv z0))),(6,32,(qq dS (.nck eu))),(7,96,(qq dY (.fa 1 dM))),(8,224,(qq eE (.ld1 eF))),(9,480,(qq dT (.ln .slice eD))),(10,1023,(qq eG (.bi .sub dG fm))),(11,0,(qq fF (.mv z1))),(12,4095,(qq eR (.bi .lss fS fD)))])
def bi6:CC:=(.reg [(qq fv (.mv z0)),(qq fl (.mv z1)),(ee dU (.call 120 [gb,gH]))])
def bi7:CC:=(.seq bi5 (.cond gv bi6 .skip))
def bi8:CC:=(.seq (.seq bi3 (.cond z7 bi4 .skip)) bi7)
def c93:CF:= .mk 5 [] (.seq bi2 bi8)
theorem e93(v0 v1:V):aU 5 [v0,v1]=(.n (.n iy (some v1) iy) (some v0) lj):=rfl
def B93:=ai @e93 (ai (wu bi2.eq_1) (ai (wu bi3.eq_1) (ai (wu bi4.eq_1) (ai (wu bi5.eq_1) (ai (wu bi6.eq_1) (ai (wu bi7.eq_1) (wu bi8.eq_1)))))))
def aM5:CC:=(.reg [(qq a4 (.mv (x6 0))),(qq a5 (.mv (.c .a0)))])
def aM6:CC:=(.reg [(qq a6 (.mv z0)),(ee a7 (.call 60 [z6]))])
def aM7:CC:=(.reg [(qq a8 (.mv z0)),(qq a9 (.mv z0)),(qq dp (.nck z9)),(qq dk (.fa 1 dx)),(qq dy (.ld1 dC)),(qq dN (.mv z1)),(ee dL (.app 5 1 1 dX dG)),(qq dS (.nck z8)),(qq dY (.fa 1 dM)),(ez (.st 1 eF eu))])
def aM8:CC:=(.reg [(qq eE (.mv z1)),(qq dT (.ln .str eD)),(qq a4 (.mv fm)),(qq a5 (.mv (.c .a0)))])
def O9:CF:= .mk 5 [.t a4,.t a5] (.seq aM5 (.seq aM6 (.seq aM7 (.seq aM8 .ret))))
theorem e23(v0 v1:V):aU 5 [v0,v1]=(.n (.n iy (some v1) iy) (some v0) lj):=rfl
def B23:=ai @e23 (ai (wu aM5.eq_1) (ai (wu aM6.eq_1) (ai (wu aM7.eq_1) (wu aM8.eq_1))))
def aP3:CC:=(.dreg 12 [(0,0,(qq a3 (.mv z0))),(1,1,(qq a4 (.nck z3))),(2,3,(qq a5 (.fa 1 z4))),(3,7,(qq a6 (.ld1 z5))),(4,15,(qq a7 (.sd z6))),(5,0,(qq a8 (.mv z0))),(6,32,(qq a9 (.nck z8))),(7,96,(qq dp (.fa 1 z9))),(8,224,(qq dk (.ld1 dx))),(9,480,(qq dy (.ln .slice dC))),(10,1023,(ee dN (.us 5 z7 dX))),(11,2047,(qq a2 (.mv dG)))])
def aP4:CC:=(.seq (.reg [(qq a2 (.mv (.c (.s 0 0))))]) (.seq aP3 .ret))
def WW:CF:= .mk 4 [.t a2] aP4
theorem e28(v0:V):aU 4 [v0]=(.n iy (some v0) iy):=rfl
def B28:=ai @e28 (ai (wu aP3.eq_1) (wu aP4.eq_1))
def eB(M:Mem)(c0 c b bb:Nat)(l:List UInt8):Prop:=
 c0≤b∧b<c∧b≠bb∧ ∃a v,M.get b=some (au 66 [a,v])∧(a= .p0∨a= .p b 0)∧lu M c0 c bb v l
theorem eB.up{bb:Nat}(h:eB M c0 c b bb l)(hc:c≤c')(hb:∀x,x<c→M'.get x=M.get x):eB M' c0 c' b bb l:=by
 obtain⟨h1,h2,h1003,a,v,h1004,h1005,h1006⟩:=h
 exact⟨h1,by omega,h1003,a,v,by rw[hb b h2];exact h1004,h1005,h1006.up hc (hb bb)⟩
theorem bH7(lit:Bool)(M:Mem):yR F M .ptr lit .p0 .p0=some true:=Eq.trans rfl (Eq.refl _)
theorem bH8(lit:Bool)(M:Mem)(b o:Nat):yR F M .ptr lit (.p b o) .p0=some false:=Eq.trans rfl (Eq.refl _)
theorem bH9(lit:Bool)(M:Mem)(b o:Nat):yR F M .ptr lit (.p b o) (.p b o)=some true:=by
 show CB F M b o b o=_
 unfold CB
 rw[bK,af rfl,cond_true,Nat.beq_refl]
theorem uR(h:lu M c0 c b v l):dD v=true∧flatten v=[v]∧l6 v=some (.i .i64 (l.length:Int)):=by
 rcases h with⟨rfl,rfl⟩|⟨_,_,n,_,rfl,_⟩
 ·exact⟨rfl,rfl,fO⟩
 ·exact⟨rfl,rfl,XY _ _ _ _ _⟩
theorem r60(Φ:Nat→Option CF)(h:Φ 60=some En){a:V}(hM:M.get b=some (au 66 [a,v]))(ha:a= .p0∨a= .p b 0):
 Calls Φ F 60 [.p b 0] M c fun _ M' c'=>M'=M.set b (au 66 [.p b 0,v])∧c'=c:=by
 refine ax h ?_
 have l0:load1 F M b 0=some a:=aj hM 0
 rcases ha with rfl|rfl
 ·have hu:upV F M (.p b 0)=some (.p b 0):=aA7 hM (by simp);have hd:dnV 66 2 F M (.p b 0)=some (.p b 0):=ap9 hM;have hst:=bS hM 0 [.p b 0] (by simp) rfl;simp only[WX,B60,sq,iN,l0,bH7,dz1,dy8,hu,hd,hst]
 ·simp only[WX,B60,sq,iN,l0,bH8,bH9];exact ot hM
theorem dv0(Φ:Nat→Option CF)(h:Φ 120=some vP)(ok:cO F M c)(hb:b<c)(hM:M.get b=some (au 66 [.p b 0,.l0]))(n:Nat)(hn:n≤1099511627776):
 Calls Φ F 120 [.p b 0,.i .i64 (n:Int)] M c fun _ M' c'=>M'=(M.set (c+8) (rY 5 n [])).set b (au 66 [.p b 0,.u (c+8) 0 0 0 n])∧c'=c+16:=by
 refine ax h ?_
 have l1:load1 F M b 1=some .l0:=aj hM 1
 have hlk:(look F M (c+8)).isNone=true:=by rw[ok.look (show c≤c+8 by omega)];rfl
 have hne:b≠c+8:=by omega
 have m2:bX .mul (.i .i64 2) (.i .i64 0)=some (.i .i64 0):=mr 2 0 (by omega) (by omega)
 have a2:bX .add (.i .i64 0) (.i .i64 (n:Int))=some (.i .i64 (n:Int)):=by rw[aN _ _ (by omega) (by omega)];simp
 have hsl:D0 1 (.u (c+8) 0 n 0 n) none (some (.i .i64 0)) none=some (.u (c+8) 0 0 0 n):=by
  show(pJ 1 (c+8) 0 0 n 0 0).val=_;unfold pJ;rw[cE,cE,af (aE n),af (aE 0)];show(mkU (c+8) 0 0 0 n).val=_;rw[AA];rfl
 have l2:load1 F (M.set (c+8) (rY 5 n [])) b 1=some .l0:=by rw[Co _ _ _ hne];exact l1
 have hg2:(M.set (c+8) (rY 5 n [])).get b=some (au 66 [.p b 0,.l0]):=by rw[az _ _ hne];exact hM
 have hst:=bS hg2 1 [.u (c+8) 0 0 0 n] (by simp) rfl
 simp only[WX,Nat.reduceAdd,dd8,sP,iN,sq,l1,Xh,Ew,m2,a2,bA1,Ge,wV,cH3,hn,hlk,ek,cg,hne,ne_eq,not_false_eq_true,bH4,hsl,gn,l2,aa8,bF9,hst]
theorem iu(h:n≤1073741824):jJ n 1=true:=db (by omega) (by omega)
theorem r93(Φ:Nat→Option CF)(h:Φ 93=some c93)(h60:Φ 60=some En)(h120:Φ 120=some vP)(ok:cO F M c)(hg:Gr c0 M0 c M)(k1:c0≤b)(k2:b<c)(hM:M.get b=some (au 66 [.p0,.l0]))(n:Nat)(hn:n≤1099511627776):
 Calls Φ F 93 [.p b 0,.i .i64 (n:Int)] M c fun _ M' c'=>∃bb',eB M' c0 c' b bb' []∧Gr c0 M0 c' M'∧c≤c'∧(∀x,x<c→x≠b→M'.get x=M.get x):=by
 refine ax h ?_
 simp only[WX,B93]
 refine aw ((r60 Φ h60 hM (.inl rfl)).mono ?_)
 rintro v1 M1 c1 ⟨rfl,rfl⟩
 have hg1:=hg.set b (au 66 [.p b 0,.l0]) k1 k2 (ak _)
 have cW:=ok.put (y:=au 66 [.p b 0,.l0]) k2 hM
 have g1:(M.set b (au 66 [.p b 0,.l0])).get b=some (au 66 [.p b 0,.l0]):=am _ _ _
 have l1:load1 F (M.set b (au 66 [.p b 0,.l0])) b 1=some .l0:=aj g1 1
 have d0:decide ((n:Int)<0)=false:=ah (by omega)
 have s0:bX .sub (.i .i64 0) (.i .i64 0)=some (.i .i64 0):=by rw[sJ];rfl
 by_cases hz:n=0
 ·have d1:decide ((0:Int)<(n:Int))=false:=ah (by omega);simp only[WX,B93,d0,sP,iN,l1,Xh,Ew,s0,d1];exact⟨c1,⟨k1,by omega,by omega,_,_,g1,.inr rfl,.inl ⟨rfl,rfl⟩⟩,hg1.up (by omega),by omega,fun x hx hxb=>az _ _ hxb⟩
 ·have d1:decide ((0:Int)<(n:Int))=true:=af (by omega);simp only[WX,B93,d0,sP,iN,l1,Xh,Ew,s0,d1];have ok2:cO F (M.set b (au 66 [.p b 0,.l0])) (c1+13):=⟨fun x hx=>cW.hiM x (by omega),fun x hx=>cW.hiF x (by omega),cW.ap,by have:=cW.ge;omega⟩
  refine aw ((dv0 Φ h120 ok2 (by omega) g1 n hn).mono ?_);rintro v2 M2 c2 ⟨rfl,rfl⟩;simp only[WX,Nat.reduceAdd];refine⟨c1+13+8,⟨k1,by omega,by omega,_,_,am _ _ _,.inr rfl,.inr ⟨by omega,by omega,n,⟨aE _,by omega⟩,rfl,?_⟩⟩,?_,by omega,fun x hx hxb=>?_⟩
  ·rw[az _ _ (by omega),am];rfl
  ·exact((hg1.up (show c1≤c1+13 by omega)).set (c1+13+8) _ (by have:=hg.le;omega) (show c1+13+8<c1+13+16 by omega) (by omega)).set b _ k1 (by omega) (by omega)
  ·rw[az _ _ hxb,az _ _ (by omega),az _ _ hxb]
theorem r23(Φ:Nat→Option CF)(h:Φ 23=some O9)(h60:Φ 60=some En){bb:Nat}(ok:cO F M c)(hg:Gr c0 M0 c M)(hb:eB M c0 c b bb l)(s:List UInt8)(hr:jJ (l.length+s.length) 1=true):
 Calls Φ F 23 [.p b 0,sV s] M c fun _ M' c'=>∃bb',eB M' c0 c' b bb' (l++s)∧Gr c0 M0 c' M'∧c≤c'∧(∀x,x<c→x≠b→x≠bb→M'.get x=M.get x)∧(bb'=bb∨c≤bb'):=by
 obtain⟨k1,k2,k3,a,v,hM,ha,hbuf⟩:=hb
 refine ax h ?_
 simp only[WX,B23]
 refine aw ((r60 Φ h60 hM ha).mono ?_)
 rintro v1 M1 c1 ⟨rfl,rfl⟩
 have hg1:=hg.set b (au 66 [.p b 0,v]) k1 k2 (ak _)
 have g1:(M.set b (au 66 [.p b 0,v])).get b=some (au 66 [.p b 0,v]):=am _ _ _
 have l1:load1 F (M.set b (au 66 [.p b 0,v])) b 1=some v:=aj g1 1
 have hbuf1:lu (M.set b (au 66 [.p b 0,v])) c0 c1 bb v l:=by
  rcases hbuf with h|⟨a1,a2,n,a3,a4,a5⟩
  ·exact .inl h
  ·exact .inr ⟨a1,a2,n,a3,a4,by rw[az _ _ (Ne.symm k3)];exact a5⟩
 simp only[WX,B23,sq,iN,l1]
 refine aw ((WQ (F:=F) (s:=s) hbuf1 hg1 hr).mono ?_)
 rintro v2 M2 c2 ⟨bb',hb2,hg2,hle,hfr,hbb⟩
 have g2:M2.get b=some (au 66 [.p b 0,v]):=by rw[hfr b (by omega) k3];exact g1
 obtain⟨o1,o2,_⟩:=uR hb2
 have hst:=bS g2 1 [v2] (by simp) (by rw[d8,o1];rfl)
 simp only[WX,Nat.reduceAdd,B23,sq,iN,o2,hst]
 have hne:b≠bb':=by rcases hbb with h|h<;>omega
 refine⟨bb',⟨k1,by omega,hne,_,_,am _ _ _,.inr rfl,?_⟩,hg2.set b _ k1 (by omega) (ak _),hle,fun x hx hxb hxbb=>?_,hbb⟩
 ·rcases hb2 with h|⟨a1,a2,n,a3,a4,a5⟩
  ·exact .inl h
  ·exact .inr ⟨a1,a2,n,a3,a4,by rw[az _ _ (Ne.symm hne)];exact a5⟩
 ·rw[az _ _ hxb,hfr x hx hxbb,az _ _ hxb]
def usE(F:RO)(M:Mem)(c ty:Nat)(x n:V):RC:=Xm ty (.c x) (.c n) F M c .e
theorem Bx(ty:Nat)(x n:X)(M:Mem)(c:Nat)(t:T):iV (.us ty x n) (K Φ rd fn F) M c t=usE F M c ty (x.ev t) (n.ev t):=Eq.trans rfl (Eq.refl _)
theorem cR8(M:Mem)(c ty:Nat):usE F M c ty .p0 (.i .i64 0)= .k (.s 0 0) M c:=Eq.trans rfl (Eq.refl _)
theorem bP7(M:Mem)(c ty b o:Nat):usE F M c ty (.p b o) (.i .i64 0)= .k (.s 0 0) M c:=Eq.trans rfl (Eq.refl _)
theorem aA8(c:Nat)(hM:M.get b=some (rY 5 n (l.map bV)))(hn:l.length≤n)(hl:l≠[])(hl2:l.length≤1099511627776):
 ∃y,usE F M c 5 (.p b 0) (.i .i64 (l.length:Int))= .k (sV l) (M.set b y) c:=by
 have hld:=(xq (F:=F) hM (by rw[List.length_map];exact hn)).load (by
  intro e;rw[List.map_eq_nil_iff]at e;exact hl e)
 rw[List.length_map]at hld
 have h0:l.length≠0:=fun e=>hl (List.length_eq_zero_iff.1 e)
 refine⟨.cells 5 n false (if 0≤0+l.length then 0+l.length else 0) false [] (jo (l.map bV)),?_⟩
 show Jl F M c 5 b 0 l.length=_
 unfold Jl
 rw[bK,ah h0,cond_false]
 have ht:Zi M b 5=true:=by unfold Zi;rw[hM];rfl
 rw[ht,cE,af hl2]
 show(match loadN F M b 0 l.length with|some vs=>Jm M c b 0 (ff vs)|none=>RC.f)=_
 rw[hld]
 show Jm M c b 0 (ff (l.map bV))=_
 rw[rj]
 have hf:oO M b 0 l.length=some (M.set b (.cells 5 n false (if 0≤0+l.length then 0+l.length else 0) false [] (jo (l.map bV)))):=by
  unfold oO;rw[hM];show(bif false then none else fN (bif Nat.ble 0 (Nat.add 0 l.length)then Nat.add 0 l.length else 0) fun fz=>some (M.set b (.cells 5 n false fz false [] (jo (l.map bV)))))=_;rw[cond_false,b9,cE];by_cases h:0≤0+l.length
  ·rw[af (show 0≤Nat.add 0 l.length from h),ae h];rfl
  ·exact absurd (aE _) h
 show(match oO M b 0 l.length with|some M=>fN l.length fun n=>fN (cN l) fun s=>RC.k (.s n s) M c|none=> .f)=_
 rw[hf]
 show(fN l.length fun n=>fN (cN l) fun s=>RC.k (.s n s) _ c)=_
 rw[b9,b9];rfl
theorem r28(Φ:Nat→Option CF)(h:Φ 28=some WW){bb:Nat}(ok:cO F M c)(hg:Gr c0 M0 c M)(hb:eB M c0 c b bb l)(hl:l.length≤1099511627776):
 Calls Φ F 28 [.p b 0] M c fun r M' c'=>r=sV l∧Gr c0 M0 c' M'∧c≤c'∧(∀x,x≠bb→M'.get x=M.get x):=by
 obtain⟨k1,k2,k3,a,v,hM,ha,hbuf⟩:=hb
 refine ax h ?_
 have l1:load1 F M b 1=some v:=aj hM 1
 obtain⟨o1,o2,o1003⟩:=uR hbuf
 rcases hbuf with⟨rfl,rfl⟩|⟨a1,a2,n,⟨a3,a4⟩,rfl,a5⟩
 ·have hf:=ok.free;rw[bo]at o1003;simp only[WX,Nat.reducePow,Nat.reduceDiv,Nat.reduceMod,Nat.reduceBEq,jz,B28,sP,iN,l1,Xi,bO2,o1003,Bx,cR8,Int.ofNat_zero,hf];exact⟨rfl,hg.up (by omega),by omega,fun _ _=>trivial⟩
 ·by_cases hl0:l=[]
  ·subst hl0;have hf:=ok.free;rw[bo]at o1003;simp only[WX,Nat.reducePow,Nat.reduceDiv,Nat.reduceMod,Nat.reduceBEq,jz,B28,sP,iN,l1,Xi,bo4 a4,o1003,Bx,bP7,Int.ofNat_zero,hf];exact⟨rfl,hg.up (by omega),by omega,fun _ _=>trivial⟩
  ·obtain⟨y,hy⟩:=aA8 (F:=F) (c+12) a5 a3 hl0 hl;have hf:ce (M.set bb y) F=true:=(ok.put (y:=y) a2 a5).free;simp only[WX,Nat.reducePow,Nat.reduceDiv,Nat.reduceMod,Nat.reduceBEq,jz,B28,sP,iN,l1,Xi,bo4 a4,o1003,Bx,hy,hf];exact⟨(hg.set bb y a1 a2 (ak _)).up (by omega),by omega,fun x hx=>az _ _ hx⟩
end
end Go.Proofs.YtcnblipfcihcpaaGreatDoor.Ev
