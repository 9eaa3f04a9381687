/- What is proved here: pieces of the evaluator's soundness: if the evaluator comes to a value, the model's run comes to it, for every world and tape; no conditions beyond the hypotheses of each theorem. -/
import Derived.Test.YtdnddpmjnlagfaaGreatDoorEv4
import Derived.Stop.LaidErr
import Derived.Shelf.Strings.Split
import Derived.Handed
import Derived.Shelf.Vars
import Derived.Shelf.Strings.CaseAny
import Derived.Lib.LaidCase
import Derived.Lib.LaidU8
set_option linter.unusedSimpArgs false
set_option linter.unusedVariables false
set_option linter.defProp false
namespace Go.Proofs.YtdnddpmjnlagfaaGreatDoor.Ev
open Go Go.RowKit Go.ChangeShapes Go.Shelf Go.Proofs
noncomputable section
abbrev a0:aH:= .h
abbrev z0:X:= .t a0
abbrev a1:aH:= .l a0
abbrev z1:X:= .t a1
abbrev a2:aH:= .r a0
abbrev z2:X:= .t a2
abbrev a3:aH:= .l a1
abbrev z3:X:= .t a3
abbrev a4:aH:= .r a1
abbrev z4:X:= .t a4
abbrev a5:aH:= .l a2
abbrev z5:X:= .t a5
abbrev a6:aH:= .r a2
abbrev z6:X:= .t a6
abbrev a7:aH:= .l a3
abbrev z7:X:= .t a7
abbrev a8:aH:= .r a3
abbrev z8:X:= .t a8
abbrev a9:aH:= .l a4
abbrev z9:X:= .t a9
abbrev cg:aH:= .r a4
abbrev cm:X:= .t cg
abbrev cF:aH:= .l a5
abbrev cI:X:= .t cF
abbrev de:aH:= .r a5
abbrev cT:X:= .t de
abbrev cO:aH:= .l a6
abbrev cK:X:= .t cO
abbrev dm:aH:= .r a6
abbrev dB:X:= .t dm
abbrev dC:aH:= .l a7
abbrev dy:X:= .t dC
abbrev dJ:aH:= .r a7
abbrev ec:X:= .t dJ
abbrev dX:aH:= .l a8
abbrev dL:X:= .t dX
abbrev dS:aH:= .r a8
abbrev eA:X:= .t dS
abbrev dN:aH:= .l a9
abbrev fk:X:= .t dN
abbrev fi:aH:= .r a9
abbrev fl:X:= .t fi
abbrev eL:aH:= .l cg
abbrev fT:X:= .t eL
abbrev eM:aH:= .r cg
abbrev fm:X:= .t eM
abbrev ew:aH:= .l cF
abbrev fW:X:= .t ew
abbrev dG:aH:= .r cF
abbrev fX:X:= .t dG
abbrev eE:aH:= .l de
abbrev fY:X:= .t eE
abbrev eU:aH:= .r de
abbrev ib:X:= .t eU
abbrev fC:aH:= .l cO
abbrev gi:X:= .t fC
abbrev fU:aH:= .r cO
abbrev ic:X:= .t fU
abbrev fp:aH:= .l dm
abbrev ij:X:= .t fp
abbrev fD:aH:= .r dm
abbrev il:X:= .t fD
abbrev iF:aH:= .l dC
abbrev iE:X:= .t iF
abbrev gu:aH:= .r dC
abbrev jh:X:= .t gu
abbrev gH:aH:= .l dJ
abbrev ji:X:= .t gH
abbrev ga:aH:= .r dJ
abbrev jz:X:= .t ga
abbrev iG:aH:= .l dX
abbrev jj:X:= .t iG
abbrev jb:aH:= .r dX
abbrev k5:X:= .t jb
abbrev iP:aH:= .l dS
abbrev jk:X:= .t iP
abbrev ia:aH:= .r dS
abbrev j1:X:= .t ia
abbrev j0:aH:= .l dN
abbrev k8:X:= .t j0
abbrev ie:aH:= .r dN
abbrev kg:X:= .t ie
abbrev jB:aH:= .l fi
abbrev kh:X:= .t jB
abbrev jc:aH:= .r fi
abbrev kK:X:= .t jc
abbrev jd:aH:= .l eL
abbrev ll:X:= .t jd
abbrev jm:aH:= .r eL
abbrev lm:X:= .t jm
abbrev k6:aH:= .l eM
abbrev lr:X:= .t k6
abbrev kS:aH:= .r eM
abbrev mJ:X:= .t kS
abbrev kT:aH:= .l ew
abbrev lq:X:= .t kT
abbrev jv:aH:= .r ew
abbrev mw:X:= .t jv
abbrev gj:aH:= .l dG
abbrev mf:X:= .t gj
abbrev mh:aH:= .r dG
abbrev mM:X:= .t mh
abbrev k7:aH:= .l eE
abbrev nN:X:= .t k7
abbrev kd:aH:= .r eE
abbrev oq:X:= .t kd
abbrev iH:aH:= .l eU
abbrev nO:X:= .t iH
abbrev mB:aH:= .r eU
abbrev oF:X:= .t mB
abbrev mC:aH:= .l fC
abbrev ot:X:= .t mC
abbrev kW:aH:= .r fC
abbrev nP:X:= .t kW
abbrev kL:aH:= .l fU
abbrev p7:X:= .t kL
abbrev mD:aH:= .r fU
abbrev p8:X:= .t mD
abbrev oy:aH:= .l fp
abbrev pV:X:= .t oy
abbrev mE:aH:= .r fp
abbrev pW:X:= .t mE
abbrev mF:aH:= .l fD
abbrev ry:X:= .t mF
abbrev oz:aH:= .r fD
abbrev rp:X:= .t oz
abbrev mR:aH:= .l iF
abbrev rq:X:= .t mR
abbrev rt:aH:= .r iF
abbrev xn:X:= .t rt
abbrev qb:aH:= .l gu
abbrev sH:X:= .t qb
abbrev sK:aH:= .r gu
abbrev uz:X:= .t sK
abbrev pc:aH:= .l gH
abbrev xp:X:= .t pc
abbrev mi:aH:= .r gH
abbrev xq:X:= .t mi
abbrev pU:aH:= .l ga
abbrev xr:X:= .t pU
abbrev tL:aH:= .r ga
abbrev xu:X:= .t tL
abbrev sL:aH:= .l iG
abbrev xD:X:= .t sL
abbrev pd:aH:= .r iG
abbrev yf:X:= .t pd
abbrev ub:aH:= .l jb
abbrev xE:X:= .t ub
abbrev uc:aH:= .r jb
abbrev zC:X:= .t uc
abbrev sM:aH:= .l iP
abbrev zD:X:= .t sM
abbrev ru:aH:= .r iP
abbrev zE:X:= .t ru
abbrev xN:aH:= .l ia
abbrev BD:X:= .t xN
abbrev BB:aH:= .r ia
abbrev BE:X:= .t BB
abbrev BC:aH:= .l j0
abbrev GT:X:= .t BC
abbrev xO:aH:= .r j0
abbrev GU:X:= .t xO
abbrev DB:aH:= .l ie
abbrev PF:X:= .t DB
abbrev DC:aH:= .r ie
abbrev Nx:X:= .t DC
abbrev DD:aH:= .l jB
abbrev PG:X:= .t DD
abbrev rC:aH:= .r jB
abbrev GV:X:= .t rC
abbrev DR:aH:= .l jc
abbrev Pz:X:= .t DR
abbrev DT:aH:= .r jc
abbrev Ny:X:= .t DT
abbrev DU:aH:= .l jd
abbrev PH:X:= .t DU
abbrev DV:aH:= .r jd
abbrev PI:X:= .t DV
abbrev xA:aH:= .l jm
abbrev PJ:X:= .t xA
abbrev DW:aH:= .r jm
abbrev Nz:X:= .t DW
abbrev DX:aH:= .l k6
abbrev NA:X:= .t DX
abbrev xP:aH:= .r k6
abbrev PK:X:= .t xP
abbrev DY:aH:= .l kS
abbrev PL:X:= .t DY
abbrev BV:aH:= .r kS
abbrev PM:X:= .t BV
abbrev DE:aH:= .l kT
abbrev z95:X:= .t DE
abbrev H5:aH:= .r kT
abbrev NB:X:= .t H5
abbrev H6:aH:= .l jv
abbrev z97:X:= .t H6
abbrev H7:aH:= .r jv
abbrev z98:X:= .t H7
abbrev BW:aH:= .l gj
abbrev PN:X:= .t BW
abbrev mO:aH:= .r gj
abbrev y5:X:= .t mO
abbrev mA:aH:= .l mh
abbrev sG:X:= .t mA
abbrev mP:aH:= .r mh
abbrev xj:X:= .t mP
abbrev pa:aH:= .l k7
abbrev y6:X:= .t pa
abbrev qa:aH:= .r k7
abbrev y7:X:= .t qa
abbrev tG:aH:= .l kd
abbrev y8:X:= .t tG
abbrev uE:aH:= .r kd
abbrev Bx:X:= .t uE
abbrev iO:aH:= .l iH
abbrev y9:X:= .t iO
abbrev zJ:aH:= .r iH
abbrev ye:X:= .t zJ
abbrev xK:aH:= .l mB
abbrev Dr:X:= .t xK
abbrev xL:aH:= .r mB
abbrev Bz:X:= .t xL
abbrev tH:aH:= .l mC
abbrev GB:X:= .t tH
abbrev zK:aH:= .r mC
abbrev GC:X:= .t zK
abbrev zL:aH:= .l kW
abbrev Ds:X:= .t zL
abbrev zM:aH:= .r kW
abbrev Dt:X:= .t zM
abbrev ka:aH:= .l kL
abbrev Du:X:= .t ka
abbrev tI:aH:= .r kL
abbrev Dv:X:= .t tI
abbrev BK:aH:= .l mD
abbrev GD:X:= .t BK
abbrev BL:aH:= .r mD
abbrev GE:X:= .t BL
abbrev BM:aH:= .l oy
abbrev GF:X:= .t BM
abbrev BN:aH:= .r oy
abbrev GG:X:= .t BN
abbrev mQ:aH:= .l mE
abbrev GH:X:= .t mQ
abbrev uF:aH:= .r mE
abbrev GI:X:= .t uF
abbrev BO:aH:= .l mF
abbrev GJ:X:= .t BO
abbrev uG:aH:= .r mF
abbrev GK:X:= .t uG
abbrev uH:aH:= .l oz
abbrev GL:X:= .t uH
abbrev BP:aH:= .r oz
abbrev GM:X:= .t BP
abbrev ow:aH:= .l mR
abbrev GN:X:= .t ow
abbrev uI:aH:= .r mR
abbrev GO:X:= .t uI
abbrev uJ:aH:= .l rt
abbrev GP:X:= .t uJ
abbrev BQ:aH:= .r rt
abbrev GQ:X:= .t BQ
abbrev BR:aH:= .l qb
abbrev GR:X:= .t BR
abbrev BS:aH:= .r qb
abbrev GS:X:= .t BS
abbrev DO:aH:= .l sK
abbrev Px:X:= .t DO
abbrev xM:aH:= .r sK
abbrev Py:X:= .t xM
abbrev NF:aH:= .l pc
abbrev aa1:X:= .t NF
abbrev NG:aH:= .r pc
abbrev aa3:X:= .t NG
abbrev NH:aH:= .l mi
abbrev aa4:X:= .t NH
abbrev NI:aH:= .r mi
abbrev aa5:X:= .t NI
abbrev zN:aH:= .l pU
abbrev aa6:X:= .t zN
abbrev NJ:aH:= .r pU
abbrev aa7:X:= .t NJ
abbrev NK:aH:= .l tL
abbrev aa8:X:= .t NK
abbrev NL:aH:= .r tL
abbrev aa9:X:= .t NL
abbrev PW:aH:= .l sL
abbrev av9:X:= .t PW
abbrev BT:aH:= .r sL
abbrev aw0:X:= .t BT
abbrev PX:aH:= .l pd
abbrev aw1:X:= .t PX
abbrev PY:aH:= .r pd
abbrev aw2:X:= .t PY
abbrev PZ:aH:= .l ub
abbrev aw3:X:= .t PZ
abbrev Q0:aH:= .r ub
abbrev aw4:X:= .t Q0
abbrev tJ:aH:= .l uc
abbrev aw5:X:= .t tJ
abbrev Q1:aH:= .r uc
abbrev aw6:X:= .t Q1
abbrev Q2:aH:= .l sM
abbrev aw7:X:= .t Q2
abbrev Q3:aH:= .r sM
abbrev aw8:X:= .t Q3
abbrev Q4:aH:= .l ru
abbrev aw9:X:= .t Q4
abbrev zO:aH:= .r ru
abbrev ax0:X:= .t zO
abbrev uK:aH:= .l xN
abbrev ax1:X:= .t uK
abbrev Q5:aH:= .r xN
abbrev ax2:X:= .t Q5
abbrev Q6:aH:= .l BB
abbrev ax3:X:= .t Q6
abbrev Q7:aH:= .r BB
abbrev ax4:X:= .t Q7
abbrev Q8:aH:= .l BC
abbrev ax5:X:= .t Q8
abbrev tK:aH:= .r BC
abbrev ax6:X:= .t tK
abbrev Q9:aH:= .l xO
abbrev ax7:X:= .t Q9
abbrev Qa:aH:= .r xO
abbrev ax8:X:= .t Qa
abbrev Qb:aH:= .l DB
abbrev ax9:X:= .t Qb
abbrev Qc:aH:= .r DB
abbrev ay0:X:= .t Qc
abbrev uL:aH:= .l DC
abbrev ay1:X:= .t uL
abbrev Qd:aH:= .r DC
abbrev ay2:X:= .t Qd
abbrev ac2:aH:= .l DD
abbrev by7:X:= .t ac2
abbrev ac3:aH:= .r DD
abbrev by8:X:= .t ac3
abbrev Qe:aH:= .l rC
abbrev by9:X:= .t Qe
abbrev DQ:aH:= .r rC
abbrev bz0:X:= .t DQ
abbrev ac4:aH:= .l DR
abbrev bz1:X:= .t ac4
abbrev bC1:aH:= .r DR
abbrev cN3:X:= .t bC1
abbrev bC2:aH:= .l DT
abbrev cN4:X:= .t bC2
abbrev bC3:aH:= .r DT
abbrev cN5:X:= .t bC3
abbrev ac5:aH:= .l DU
abbrev cN6:X:= .t ac5
abbrev bC4:aH:= .r DU
abbrev cN7:X:= .t bC4
abbrev bC5:aH:= .l DV
abbrev cN8:X:= .t bC5
abbrev bC6:aH:= .r DV
abbrev cN9:X:= .t bC6
abbrev BU:aH:= .l xA
abbrev cO0:X:= .t BU
abbrev bC7:aH:= .r xA
abbrev cO1:X:= .t bC7
abbrev bC8:aH:= .l DW
abbrev cO2:X:= .t bC8
abbrev bC9:aH:= .r DW
abbrev cO3:X:= .t bC9
abbrev bD0:aH:= .l DX
abbrev cO4:X:= .t bD0
abbrev bD1:aH:= .r DX
abbrev cO5:X:= .t bD1
abbrev bD2:aH:= .l xP
abbrev cO6:X:= .t bD2
abbrev bD3:aH:= .r xP
abbrev cO7:X:= .t bD3
abbrev ac6:aH:= .l DY
abbrev cO8:X:= .t ac6
abbrev bD4:aH:= .r DY
abbrev cO9:X:= .t bD4
abbrev bD5:aH:= .l BV
abbrev cP0:X:= .t bD5
abbrev bD6:aH:= .r BV
abbrev cP1:X:= .t bD6
abbrev ac7:aH:= .l DE
abbrev cP2:X:= .t ac7
abbrev bD7:aH:= .r DE
abbrev cP3:X:= .t bD7
abbrev bD8:aH:= .l H5
abbrev cP4:X:= .t bD8
abbrev bD9:aH:= .r H5
abbrev cP5:X:= .t bD9
abbrev Qf:aH:= .l H6
abbrev cP6:X:= .t Qf
abbrev bE0:aH:= .r H6
abbrev cP7:X:= .t bE0
abbrev bE1:aH:= .l H7
abbrev cP8:X:= .t bE1
abbrev bE2:aH:= .r H7
abbrev cP9:X:= .t bE2
abbrev bE3:aH:= .l BW
abbrev cQ0:X:= .t bE3
abbrev ac8:aH:= .r BW
abbrev cQ1:X:= .t ac8
abbrev bE4:aH:= .l mO
abbrev cQ2:X:= .t bE4
abbrev bE5:aH:= .r mO
abbrev cQ3:X:= .t bE5
abbrev bE6:aH:= .l mA
abbrev cQ4:X:= .t bE6
abbrev Qg:aH:= .r mA
abbrev cQ5:X:= .t Qg
abbrev bE7:aH:= .l mP
abbrev cQ6:X:= .t bE7
abbrev bE8:aH:= .r mP
abbrev cQ7:X:= .t bE8
abbrev bE9:aH:= .l pa
abbrev cQ8:X:= .t bE9
abbrev bF0:aH:= .r pa
abbrev cQ9:X:= .t bF0
abbrev sk1:T:= .n .e none .e
abbrev mL:T:= .n sk1 none sk1
abbrev iC:T:= .n mL none mL
abbrev oE:T:= .n iC none iC
abbrev zn:T:= .n oE none oE
abbrev xC:T:= .n zn none zn
abbrev sk7:T:= .n xC none xC
abbrev ju(u:List (Option V))(a:Nat):T:= .n .e (uO u a) .e
abbrev hU(u:List (Option V))(a b c:Nat):T:= .n (ju u a) (uO u b) (ju u c)
abbrev am(u:List (Option V))(a b c d e f g:Nat):T:= .n (hU u a b c) (uO u d) (hU u e f g)
abbrev qq(d:aH)(o:QO):CO:=⟨some d,.q o,none⟩
abbrev Y7(d:aH)(o:AO)(g:aH):CO:=⟨some d,.a o,some (g,true)⟩
abbrev xS(d:aH)(o:EO)(g:aH):CO:=⟨some d,.e o,some (g,false)⟩
abbrev dZ(d:aH)(o:EO)(g:aH):CO:=⟨some d,.e o,some (g,true)⟩
abbrev aU(d:aH)(o:QO)(g:aH):CO:=⟨some d,.q o,some (g,false)⟩
abbrev ak(d:aH)(o:QO)(g:aH):CO:=⟨some d,.q o,some (g,true)⟩
abbrev aa(d:aH)(o:AO):CO:=⟨some d,.a o,none⟩
abbrev ee(d:aH)(o:EO):CO:=⟨some d,.e o,none⟩
abbrev ez(o:EO):CO:=⟨none,.e o,none⟩
abbrev x6(n:Int):X:= .c (.i .i64 n)
abbrev xT:X:= .c (.b true)
abbrev xF:X:= .c (.b false)
theorem wu{b b1:CC}(h:b=b1)(k:Kn)(s:St)(R:Ex→St→Prop):Wp b k s R=Wp b1 k s R:=congrArg (fun x=>Wp x k s R) h
def X1{x0:Option V}(l:List (Option V)):List (Option V):=x0::l
def G1(l:List (Option V)):List (Option V):=none::l
def X2{x0 x1:Option V}(l:List (Option V)):List (Option V):=x0::x1::l
def G2(l:List (Option V)):List (Option V):=none::none::l
def X4{x0 x1 x2 x3:Option V}(l:List (Option V)):List (Option V):=x0::x1::x2::x3::l
def G4(l:List (Option V)):List (Option V):=none::none::none::none::l
def X8{x0 x1 x2 x3 x4 x5 x6 x7:Option V}(l:List (Option V)):List (Option V):=x0::x1::x2::x3::x4::x5::x6::x7::l
def bE{x0 x1 x2 x3 x4 x5 x6 x7 x8 x9 x10 x11 x12 x13 x14 x15:Option V}(l:List (Option V)):List (Option V):=x0::x1::x2::x3::x4::x5::x6::x7::x8::x9::x10::x11::x12::x13::x14::x15::l
def bO{x0 x1 x2 x3 x4 x5 x6 x7 x8 x9 x10 x11 x12 x13 x14 x15 x16 x17 x18 x19 x20 x21 x22 x23 x24 x25 x26 x27 x28 x29 x30 x31:Option V}(l:List (Option V)):List (Option V):=x0::x1::x2::x3::x4::x5::x6::x7::x8::x9::x10::x11::x12::x13::x14::x15::x16::x17::x18::x19::x20::x21::x22::x23::x24::x25::x26::x27::x28::x29::x30::x31::l
def aM{x0 x1 x2 x3 x4 x5 x6 x7 x8 x9 x10 x11 x12 x13 x14 x15 x16 x17 x18 x19 x20 x21 x22 x23 x24 x25 x26 x27 x28 x29 x30 x31 x32 x33 x34 x35 x36 x37 x38 x39 x40 x41 x42 x43 x44 x45 x46 x47 x48 x49 x50 x51 x52 x53 x54 x55 x56 x57 x58 x59 x60 x61 x62 x63:Option V}(l:List (Option V)):List (Option V):=x0::x1::x2::x3::x4::x5::x6::x7::x8::x9::x10::x11::x12::x13::x14::x15::x16::x17::x18::x19::x20::x21::x22::x23::x24::x25::x26::x27::x28::x29::x30::x31::x32::x33::x34::x35::x36::x37::x38::x39::x40::x41::x42::x43::x44::x45::x46::x47::x48::x49::x50::x51::x52::x53::x54::x55::x56::x57::x58::x59::x60::x61::x62::x63::l
def eQ(L:List eT)(h:List V→Option V):RO→List V→Mem→Nat→RC:=fun F args M c=>bif bA F L then ofO (h args) M c else .f
theorem en{L:List eT}{F:RO}(ht:bA F L=true)(h:List V→Option V)(args:List V)(M:Mem)(c:Nat):eQ L h F args M c=ofO (h args) M c:=by
 show(bif bA F L then ofO (h args) M c else .f)=_
 rw[ht];rfl
theorem Zx{F:RO}{M:Mem}{L:List eT}(ht:bA F L=true)(hap:∀b,(aV F b).isSome→M.get b=none){g:Nat}{k:IntKind}{zs:List Int}(hm:(g,k,zs)∈L){i:Nat}{z:Int}(hz:zs[i]?=some z):load1 F M g i=some (.i k z):=by
 obtain⟨_,hin⟩:=iD ht _ hm
 unfold jY at hin
 split at hin
 ·rename_i ty n fz d cs hF;rw[aD]at hin;obtain⟨h1,h2⟩:=ma hin.2
  have hg:M.get g=none:=hap g (by
   show(aV F g).isSome=true;rw[show aV F g=_ from hF];rfl)
  unfold load1;rw[aC hg,show aV F g=_ from hF];have:=h2 i z hz
  rwa [Nat.zero_add]at this
 ·cases hin
theorem am6{L:List eT}{ty:Nat→Nat}{ct:Nat}(hL:∀t∈L,t.1<1000)(hc:1000≤ct):d9 (mc L ty) .e ct:=by
 refine⟨fun b _=>rfl,fun b hb=>?_,fun b _=>rfl,hc⟩
 cases h:aV (mc L ty) b with
 |none=>rfl
 |some x=>
  obtain⟨t,ht,e,_⟩:=r6 h;have:=hL t ht;omega
theorem qM{P:Program}(hm:P.follows .mixedOrders=true){Φ:Nat→Option CF}(hΦ:fo P Φ){f:Nat}{L:List eT}{h:List V→Option V}
 (hh:∀args v ct ty,h args=some v→1000≤ct→bd (fun _=>False) v∧Calls Φ (mc L ty) f args .e ct fun r _ _=>r=v):ce P f (eQ L h):=by
 intro F args M ct v N ct' hg E c w hr hglob hbig hf ha
 have hW:=b50 hr hbig hf ha
 cases ht:bA F L with
 |false=>
  have hg':(bif bA F L then ofO (h args) M ct else .f)= .k v N ct':=hg;rw[ht]at hg';cases hg'
 |true=>
  rw[en ht]at hg;cases hx:h args with
  |none=>rw[hx]at hg;cases hg
  |some x=>
   rw[hx]at hg;have hg2:RC.k x M ct= .k v N ct':=hg;injection hg2 with e1 e2 e3
   subst e1 e2 e3;obtain⟨ty,hrel⟩:=ww hr hglob ht;obtain⟨hbv,r,M1,ct1,hcall,rfl⟩:=hh args x ct ty hx hW.ge;obtain⟨fn,h1,h2,h3,hC⟩:=ir (rd:=none) (fn:=0) (F₀:=[]) hΦ (EM hm hΦ) (mc L ty) f args .e ct r M1 ct1 hcall E c w (hrel.more fun b hb=>hbig b hb) hglob hbig hf ha;refine⟨fn,h1,h2,h3,hC.mono ?_⟩;rintro e w' ⟨E',c',rfl,hS,hb,hG⟩;have hfr:∀r,r<w.heap.size→w'.heap[r]?=w.heap[r]?:=fun r hr'=>hS.frame r hr' (fun b hb=>by cases hb);have hhas:∀b blk,look F M b=some blk→c b∧f6 c blk∧ ∃o,w'.heap[E.ρ b]?=some o∧eY P E b blk o:=by
    intro b blk hb;obtain⟨g1,g2,o,ho,g3⟩:=hr.has b blk hb;exact⟨g1,g2,o,by rw[hfr _ (Array.getElem?_eq_some_iff.1 ho).1];exact ho,g3⟩
   refine⟨E,c,?_,⟨.refl c E,fun _ h=>h,⟨hhas,hr.inj,hr.apart⟩,fun b hb=> .inl ⟨b,hb,rfl⟩,fun r hr' _=>hfr r hr',hS.size,hS.os,hS.output,hS.tape⟩,dp (fun b hb=>hb.elim) r hbv,.refl _ _⟩;rw[dv hS.ext r (dp (fun b hb=>hb.elim) r hbv)]
section
variable{Φ:Nat→Option CF}{rd:Option Nat}{fn:Nat}{F:RO}
def bf7:V→Option V
 | .p b o=>some (.p b o)
 | .f g h c=>some (.f g h c)
 | .y l=>some (.y l)
 | .a t v=>some (.a t v)
 |_=>none
theorem tw(x:X)(M:Mem)(t:T):(cS (.nck x) F M t).val=bf7 (x.ev t):=by
 show(nq x F M t).val=_
 unfold nq
 cases x.ev t<;>rfl
theorem j6(b o:Nat):bf7 (.p b o)=some (.p b o):=Eq.trans rfl (Eq.refl _)
theorem rL(x:X)(M:Mem)(t:T):oB (.nck x) F M t=oV (bf7 (x.ev t)):=by
 refine(gO ?_).trans (congrArg oV (tw (F:=F) x M t))
 intro F' M'
 refine lc ?_
 show(nq x F' M' t= .f∨ ∃y,nq x F' M' t= .v y)
 unfold nq
 cases x.ev t<;>first|exact .inl rfl|exact .inr ⟨_,rfl⟩
def cpV:V→Option V
 | .l0=>some (.i .i64 0)
 | .l _ _ _ c=>some (.i .i64 (c:Int))
 |_=>none
theorem cL4(x:X)(M:Mem)(t:T):(cS (.cp x) F M t).val=cpV (x.ev t):=by
 show(wm x F M t).val=_
 unfold wm
 cases x.ev t<;>rfl
theorem EG:cpV .l0=some (.i .i64 0):=Eq.trans rfl (Eq.refl _)
theorem XK(x:X)(M:Mem)(t:T):oB (.cp x) F M t=oV (cpV (x.ev t)):=by
 refine(gO ?_).trans (congrArg oV (cL4 (F:=F) x M t))
 intro F' M'
 refine lc ?_
 show(wm x F' M' t= .f∨ ∃y,wm x F' M' t= .v y)
 unfold wm
 cases x.ev t<;>first|exact .inl rfl|exact .inr ⟨_,rfl⟩
def sdV:V→Option V
 | .l0=>some .p0
 | .l b o _ c=>if c=0 then none else some (.p b o)
 | .u b o _ el kn=>if el<kn then some (.p b o)else none
 |_=>none
theorem Aw(x:X)(M:Mem)(t:T):wp x F M t=oV (sdV (x.ev t)):=by
 unfold wp
 cases x.ev t with
 |l b o n c=>
  show(bif Nat.beq c 0 then QR.f else .v (.p b o))=oV (if c=0 then none else some (.p b o));rw[bp];by_cases h:c=0
  ·rw[ae h,ac h];rfl
  ·rw[ag h,ab h];rfl
 |u b o n el kn=>
  show(bif Nat.blt el kn then QR.v (.p b o)else .f)=oV (if el<kn then some (.p b o)else none);rw[dY];by_cases h:el<kn
  ·rw[ae h,ac h];rfl
  ·rw[ag h,ab h];rfl
 |_=>rfl
theorem YB(o:Option V):(oV o).val=o:=by cases o<;>rfl
theorem cL7(x:X)(M:Mem)(t:T):(cS (.sd x) F M t).val=sdV (x.ev t):=by
 show(wp x F M t).val=_
 rw[Aw,YB]
theorem XL(x:X)(M:Mem)(t:T):oB (.sd x) F M t=oV (sdV (x.ev t)):=by
 refine(gO ?_).trans (congrArg oV (cL7 (F:=F) x M t))
 intro F' M'
 show wp x F' M' t=oV (wp x [] .e t).val
 rw[Aw,Aw,YB]
theorem bi6:sdV .l0=some .p0:=Eq.trans rfl (Eq.refl _)
theorem b12{b o n el kn:Nat}(h:el<kn):sdV (.u b o n el kn)=some (.p b o):=ac h
def upV(F:RO)(M:Mem)(x:V):Option V:=(cS (.up (.c x)) F M .e).val
theorem cL8(x:X)(M:Mem)(t:T):(cS (.up x) F M t).val=upV F M (x.ev t):=Eq.trans rfl (Eq.refl _)
theorem ar0{M:Mem}{b o ty n:Nat}{ex str:Bool}{fz:Nat}{d:List V}{t:T}(h:M.get b=some (.cells ty n ex fz str d t))(ho:o<n):upV F M (.p b o)=some (.p b o):=by
 show(qc (look F M b) QR.f fun n _ _=>bif Nat.blt o n then QR.r (.p b o) b else .f).val=_
 rw[aq h]
 show(bif Nat.blt o n then QR.r (.p b o) b else .f).val=_
 rw[dY,ae ho];rfl
def dnV(ty sz:Nat)(F:RO)(M:Mem)(x:V):Option V:=(cS (.dn ty sz (.c x)) F M .e).val
theorem cL5(ty sz:Nat)(x:X)(M:Mem)(t:T):(cS (.dn ty sz x) F M t).val=dnV ty sz F M (x.ev t):=Eq.trans rfl (Eq.refl _)
theorem ah4{M:Mem}{b ty n:Nat}{str:Bool}{fz:Nat}{d:List V}{t:T}(h:M.get b=some (.cells ty n true fz str d t)):dnV ty n F M (.p b 0)=some (.p b 0):=by
 show(bb7 ty n b (look F M b)).val=_
 rw[aq h]
 show(bif Nat.beq ty ty&&Nat.beq n n then QR.r (.p b 0) b else .f).val=_
 rw[Nat.beq_refl,Nat.beq_refl];rfl
def QV(r:QR):Prop:=r= .f∨ ∃y,r= .v y
theorem sf{r:QR}(b:Bool)(h:QV r):QV (bif b then r else .f):=by
 cases b with
 |false=>exact .inl rfl
 |true=>exact h
theorem Mv{r s:QR}(b:Bool)(h:QV r)(h':QV s):QV (bif b then r else s):=by
 cases b with
 |false=>exact h'
 |true=>exact h
theorem YR(b o n c:Nat):QV (mkL b o n c):= .inr ⟨_,Fl b o n c⟩
theorem YS(b o n e k:Nat):QV (mkU b o n e k):= .inr ⟨_,Ao b o n e k⟩
theorem aq0(sz:Nat)(v:V)(a b d:Option Nat):QV (D6 sz v a b d):=by
 unfold D6
 refine sf _ ?_
 cases v with
 |l b0 o len cap=>exact sf _ (YR _ _ _ _)
 |l0=>exact sf _ (.inr ⟨_,rfl⟩)
 |u b0 o len el kn=>
  cases d with
  |none=>exact sf _ (Mv _ (YS _ _ _ _ _) (Mv _ (YS _ _ _ _ _) (.inr ⟨_,by rw[aN]⟩)))
  |some m=>exact sf _ (YR _ _ _ _)
 |ue b0 o0 o=>exact sf _ (.inr ⟨_,rfl⟩)
 |_=>exact .inl rfl
theorem bc5(sz:Nat)(x:X)(lo hi mx:Option X)(M:Mem)(t:T):oB (.slL sz x lo hi mx) F M t=oV (ap9 sz (x.ev t) (lo.map fun x=>x.ev t) (hi.map fun x=>x.ev t) (mx.map fun x=>x.ev t)):=by
 refine(gO ?_).trans (congrArg oV (b29 (F:=F) sz x lo hi mx M t))
 intro F' M'
 refine lc ?_
 show QV (se sz (x.ev t) (optNN t lo) (optNN t hi) (optNN t mx))
 cases optNN t lo with
 |none=>exact .inl rfl
 |some a=>
  cases optNN t hi with
  |none=>exact .inl rfl
  |some b=>
   cases optNN t mx with
   |none=>exact .inl rfl
   |some d=>exact aq0 _ _ _ _ _
def ay5(o:Option (V×bq))(base i:Nat)(p:aH)(r:List (Nat×Nat×CO))(k:Kn)(t:T)(M:Mem)(c:Nat)(pend:List (Nat×Nat×bq))(reads:List (Nat×Nat))(R:DS→Prop):Prop:=match o with
 |some x=>mz base r k (.mk (t.setP p x.1) M c ((i,base+i,x.2)::pend) reads) R
 |none=>False
theorem th(v:V)(b:bq)(base i:Nat)(p:aH)(r:List (Nat×Nat×CO))(k:Kn)(t:T)(M:Mem)(c:Nat)(pend:List (Nat×Nat×bq))(reads:List (Nat×Nat))(R:DS→Prop):
 ay5 (some (v,b)) base i p r k t M c pend reads R=mz base r k (.mk (t.setP p v) M c ((i,base+i,b)::pend) reads) R:=Eq.trans rfl (Eq.refl _)
theorem Dl(base i mask:Nat)(p:aH)(o:AO)(r:List (Nat×Nat×CO))(t:T)(M:Mem)(c:Nat)(pend:List (Nat×Nat×bq))(reads:List (Nat×Nat))(R:DS→Prop)(hl:(look F M (base+i)).isNone=true)(hr:cV (base+i) reads=true):
 mz base ((i,mask,.mk (some p) (.a o) none)::r) (K Φ rd fn F) (.mk t M c pend reads) R=ay5 (kl o (base+i) t) base i p r (K Φ rd fn F) t M c pend reads R:=by
 have he:ui (K Φ rd fn F) base (i,mask,.mk (some p) (.a o) none) (.mk t M c pend reads)=EK i (base+i) (some p) t M c pend reads (kl o (base+i) t):=by
  show(fN (Nat.add base i) fun b=>bif (look F M b).isNone&&cV b reads then EK i b (some p) t M c pend reads (kl o b t)else none)=_;rw[aN];show(bif (look F M (base+i)).isNone&&cV (base+i) reads then EK i (base+i) (some p) t M c pend reads (kl o (base+i) t)else none)=_;rw[hl,hr];rfl
 apply propext
 rw[fR,he]
 cases kl o (base+i) t with
 |none=>exact⟨fun⟨s',h,_⟩=>(by cases h),False.elim⟩
 |some x=>
  have h2:EK i (base+i) (some p) t M c pend reads (some x)=some (.mk (t.setP p x.1) M c ((i,base+i,x.2)::pend) reads):=by
   show((setT t (some p) x.1).force fun t=>some (DS.mk t M c ((i,base+i,x.2)::pend) reads))=_;rw[Tr.force_eq];rfl
  rw[h2];constructor
  ·rintro⟨s',h,q⟩;obtain rfl:=af h;exact q
  ·exact fun q=>⟨_,rfl,q⟩
theorem iK(i b:Nat)(x:bq)(r:List (Nat×Nat×bq))(M:Mem):dP ((i,b,x)::r) M=dP r (M.set b x):=by
 show(M.set b x).force (fun M=>dP r M)=_
 rw[Tr.force_eq]
theorem dQ(b:Nat):cV b []=true:=Eq.trans rfl (Eq.refl _)
theorem bY(b i b':Nat)(r:List (Nat×Nat))(h:b'≠b):cV b ((i,b')::r)=cV b r:=by
 show(bif Nat.beq b' b then false else cV b r)=_
 rw[bp,ag h];rfl
def qT(ty n:Nat)(row:List V):bq:= .cells ty n false 0 false [] (iY row)
def nzA(ty:Nat)(l:V)(b:Nat):Option (V×bq):=kl (.nz ty (.c l)) b .e
theorem b65(ty:Nat)(l:X)(b:Nat)(t:T):kl (.nz ty l) b t=nzA ty (l.ev t) b:=Eq.trans rfl (Eq.refl _)
theorem bX3(ty n b:Nat)(h:n≤1099511627776):nzA ty (.i .i64 (n:Int)) b=some (.u b 0 n 0 n,qT ty n []):=by
 show(match Hg (.i .i64 (n:Int))with|some n=>bif Nat.ble n 1099511627776 then some (V.u b 0 n 0 n,bq.cells ty n false 0 false [] .e)else none|none=>none)=_
 show(bif Nat.ble n 1099511627776 then some (V.u b 0 n 0 n,bq.cells ty n false 0 false [] .e)else none)=_
 rw[bL,ae h];rfl
theorem Pb{n:Nat}{row:List V}(h:row.length≤n)(i:Nat)(hi:i<row.length):cell n [] (iY row) i=row[i]?:=by
 rw[cd,ac (by omega)]
 unfold iY
 rw[dq,ac (by omega)]
 simp only[Nat.sub_zero]
 rw[List.getElem?_eq_getElem hi]
theorem wA{M:Mem}{b ty n:Nat}{row:List V}(h:M.get b=some (qT ty n row))(hn:row.length≤n):cZ F M b 0 row:=fun k hk=>by
 rw[Nat.zero_add]
 unfold Ev.load1
 rw[aq h]
 exact Pb hn k hk
theorem FK{M:Mem}{b ty n:Nat}{row vs:List V}(h:M.get b=some (qT ty n row))(hn:row.length+vs.length≤n)(h1:bv vs=true):cC M b row.length vs=some (M.set b (qT ty n (row++vs))):=by
 rw[sm h hn (aF _) h1]
 unfold qT iY
 have:=nh row vs 0 .e
 rw[Nat.zero_add]at this
 rw[this]
def kU(M:Mem)(c0 c b:Nat)(v:V)(l:List UInt8):Prop:=
 (l=[]∧v= .l0)∨(c0≤b∧b<c∧ ∃n,(l.length≤n∧0<n)∧v= .u b 0 l.length 0 n∧M.get b=some (qT 5 n (l.map bV)))
theorem kU.up{M M':Mem}{c0 c c' b:Nat}{v:V}{l:List UInt8}(h:kU M c0 c b v l)(hc:c≤c')(hb:b<c→M'.get b=M.get b):kU M' c0 c' b v l:=by
 rcases h with h|⟨h1,h2,n,h3,h4,h5⟩
 ·exact .inl h
 ·exact .inr ⟨h1,by omega,n,h3,h4,by rw[hb h2];exact h5⟩
theorem Xo{M0 M:Mem}{c0 c b:Nat}{v:V}{l s:List UInt8}(h:kU M c0 c b v l)(hg:Gr c0 M0 c M)(hr:kP (l.length+s.length) 1=true):
 ou (tM F M c 5 1 1 v (sV s)) fun v' M' c'=>∃b',kU M' c0 c' b' v' (l++s)∧Gr c0 M0 c' M'∧c≤c'∧(∀x,x<c→x≠b→M'.get x=M.get x)∧(b'=b∨c≤b'):=by
 unfold tM
 rw[MK]
 have e1:pp F M c 5 1 1 v (some (s.length,s.map bV))=app F M c 5 1 1 v s.length (s.map bV):=by
  show(bif bv (s.map bV)&&Nat.beq (s.map bV).length (Nat.mul s.length 1)then _ else _)=_;rw[gJ,bp,ae (show(s.map bV).length=Nat.mul s.length 1 by rw[List.length_map];exact(Nat.mul_one _).symm)];rfl
 rw[e1]
 have hmap:(l++s).map bV=l.map bV++s.map bV:=List.map_append
 by_cases hz:s=[]
 ·subst hz;have e2:app F M c 5 1 1 v 0 []= .k v M c:=by
   show(bif Nat.beq 0 0 then(bif yU v then RC.k v M c else .f)else _)=_;have:yU v=true:=by
    rcases h with⟨_,rfl⟩|⟨_,_,n,⟨hn,_⟩,rfl,_⟩
    ·rfl
    ·show Nat.ble l.length (Nat.sub n 0)=true;rw[bL];exact ae hn
   rw[this];rfl
  exact⟨v,M,c,e2,b,by rw[cL];exact h,hg,ah _,fun _ _ _=>rfl,.inl rfl⟩
 ·have hn0:s.length≠0:=fun e=>hz (List.length_eq_zero_iff.1 e);have grownEq:∀(N:Mem) (vs:List V) (k:Nat),kP k 1=true→vs.length=k→kC N c 5 1 k 0 false vs= .k (.u c 0 k 0 k) (N.set c (qT 5 k vs)) (c+1):=by
   intro N vs k hk hv;rw[vC N c 5 1 k vs hk];unfold mI qT;rw[hv]
  rcases h with⟨rfl,rfl⟩|⟨ha,hb,n,⟨hn,hn1⟩,rfl,hM⟩
  ·rw[bU,Nat.zero_add]at hr;refine⟨_,_,_,(Hd hn0).trans (grownEq M (s.map bV) s.length hr (List.length_map ..)),c,.inr ⟨hg.le,by omega,s.length,⟨ah _,by omega⟩,rfl,?_⟩,hg.set c _ hg.le (by omega) (by omega),by omega,fun x hx _=>aK _ _ (by omega),.inr (ah _)⟩;rw[Tr.get_set,ac rfl];rfl
  ·by_cases hfit:l.length+s.length≤n
   ·have hst:=FK hM (vs:=s.map bV) (by rw[List.length_map,List.length_map];exact hfit) (gJ s);rw[List.length_map]at hst;have e3:oG F M c 5 1 1 b 0 l.length 0 n s.length (s.map bV)= .k (.u b 0 (l.length+s.length) 0 n) (M.set b (qT 5 n (l.map bV++s.map bV))) c:=by
     unfold oG;rw[bL,ae (show Nat.add (Nat.add 0 l.length) s.length≤n by show 0+l.length+s.length≤n;omega),cond_true];unfold C3;rw[show Nat.add 0 (Nat.mul l.length 1)=l.length by show 0+l.length*1=l.length;omega,hst];show fN (l.length+s.length) (fun len=>RC.k (.u b 0 len 0 n) _ c)=_;rw[aN]
    refine⟨_,_,_,(E5 hn0).trans e3,b,.inr ⟨ha,hb,n,⟨by rw[bw];exact hfit,hn1⟩,by rw[bw],?_⟩,hg.set b _ ha hb (ah _),ah _,fun x _ hxb=>aK _ _ hxb,.inl rfl⟩;rw[Tr.get_set,ac rfl,hmap]
   ·have hcl:=(wA (F:=F) hM (by rw[List.length_map];exact hn))
    have hcl2:cZ F M b 0 (l.map fun x=>[bV x]).flatten:=by rw[gp];exact hcl
    obtain⟨r,hrd⟩:=nr Nat.one_pos (es:=l.map fun x=>[bV x]) (fun e he=>by obtain⟨x,_,rfl⟩:=List.mem_map.1 he;rfl) hcl2;rw[List.length_map,gp]at hrd;have hmw:gR M b 5 (Nat.add 0 (Nat.mul l.length 1)) (Nat.add 0 (Nat.mul (Nat.sub n 0) 1))=some (0,false):=by
     unfold gR;rw[hM];show(bif Nat.beq 5 5&&Nat.beq n (0+(n-0)*1)&&Nat.ble 0 (0+l.length*1)&&Nat.ble (0+l.length*1) (0+(n-0)*1)then some (0,false)else none)=_;rw[bp,bp,bL,bL,ae (show 5=5 from rfl),ae (show n=0+(n-0)*1 by omega),ae (aF _),ae (show 0+l.length*1≤0+(n-0)*1 by omega)];rfl
    have e3:oG F M c 5 1 1 b 0 l.length 0 n s.length (s.map bV)= .k (.u c 0 (l.length+s.length) 0 (l.length+s.length)) ((M.del b).set c (qT 5 (l.length+s.length) (l.map bV++s.map bV))) (c+1):=by
     unfold oG;rw[bL,ag (show¬Nat.add (Nat.add 0 l.length) s.length≤n by show¬0+l.length+s.length≤n;omega),cond_false,hmw];show(bif Nat.beq 0 0&&Nat.beq (n-0) l.length then F5 (M.del b) c 5 1 (l.length+s.length) 0 false (s.map bV) (M.get b)else vA (M.del b) c 5 1 (l.length+s.length) 0 false (s.map bV) (readB F M 1 l.length b 0))=_;by_cases hnl:n=l.length
     ·rw[bp,bp,ae rfl,ae (show n-0=l.length from hnl),Bool.true_and,cond_true,hM,hnl];have:=yL (M.del b) c 5 1 (l.length+s.length) (l.map bV) (s.map bV) hr;rw[List.length_map]at this;unfold mI at this;rw[bw,List.length_map,List.length_map]at this;exact this
     ·rw[bp,bp,ae rfl,ag (show¬n-0=l.length from hnl),Bool.true_and,cond_false,hrd];exact grownEq _ _ _ hr (by rw[bw,List.length_map,List.length_map])
    refine⟨_,_,_,(E5 hn0).trans e3,c,.inr ⟨by omega,by omega,l.length+s.length,⟨by rw[bw];exact ah _,by omega⟩,by rw[bw],?_⟩,(hg.del b ha).set c _ (by omega) (by omega) (by omega),by omega,fun x hx hxb=>?_,.inr (ah _)⟩
    ·rw[Tr.get_set,ac rfl,hmap]
    ·rw[aK _ _ (by omega),Tr.get_del,ab hxb]
def ba3(F:RO)(M:Mem)(c sz:Nat)(x y:V):RC:=Cg sz (.c x) (.c y) F M c .e
theorem Dp(sz:Nat)(x y:X)(M:Mem)(c:Nat)(t:T):gG (.cpy sz x y) (K Φ rd fn F) M c t=ba3 F M c sz (x.ev t) (y.ev t):=Eq.trans rfl (Eq.refl _)
theorem ba4(M:Mem)(c sz b o e k:Nat):ba3 F M c sz (.u b o 0 e k) .l0= .k (.i .i64 0) M c:=by
 show fN (bif Nat.ble 0 0 then 0 else 0) (fun n=>bif Nat.beq n 0 then RC.k (.i .i64 0) M c else ba6 M c n (.u b o 0 e k) (pm F M sz n .l0))=_
 rw[aN];rfl
end
section
variable{Φ:Nat→Option CF}{rd:Option Nat}{fn:Nat}{F:RO}
end
def siB(s:List UInt8)(pos:Nat):bq:= .siter s.length (bH s) pos
def ce8(v:V)(b:Nat):Option (V×bq):=oT v none fun n s=>some (.p b 0,.siter n s 0)
theorem ad5(x:X)(b:Nat)(t:T):kl (.rgs x) b t=ce8 (x.ev t) b:=Eq.trans rfl (Eq.refl _)
theorem bi4(l:List UInt8)(b:Nat):ce8 (sV l) b=some (.p b 0,siB l 0):=Eq.trans rfl (Eq.refl _)
theorem ap2(s:ByteArray)(i:Nat)(h:128≤(s.get! i).toNat):128≤(Utf8.decode s i).1:=by
 unfold Utf8.decode
 simp only[bT,Utf8.runeError]
 rw[ab (by omega)]
 repeat' split
 all_goals first|omega|(simp_all;done)|(simp_all;omega)
def am1(M:Mem)(c:Nat):V→RC
 | .p b 0=>yZ M c b (M.get b)
 |_=> .f
theorem Bw{Φ:Nat→Option CF}{rd:Option Nat}{fn:Nat}{F:RO}(x:X)(M:Mem)(c:Nat)(t:T):gG (.nxs x) (K Φ rd fn F) M c t=am1 M c (x.ev t):=Eq.trans rfl (Eq.refl _)
theorem am3{M:Mem}{b:Nat}{l:List UInt8}(c:Nat)(h:M.get b=some (siB l l.length)):am1 M c (.p b 0)= .k (.t [.b false]) M c:=by
 show yZ M c b (M.get b)=_
 rw[h]
 show(bif Nat.blt l.length l.length then _ else RC.k (.t [.b false]) M c)=_
 rw[dY,ag (Nat.lt_irrefl _),cond_false]
theorem bg2{M:Mem}{b:Nat}{l:List UInt8}{i:Nat}(c:Nat)(h:M.get b=some (siB l i))(hi:i<l.length)(hc:l[i].toNat<128):am1 M c (.p b 0)= .k (.t [.b true,.i .i64 (i:Int),.i .i32 (l[i].toNat:Int)]) (M.set b (siB l (i+1))) c:=by
 show yZ M c b (M.get b)=_
 rw[h]
 show(bif Nat.blt i l.length then(fN (Nat.mod (Nat.div (bH l) (j8 i)) 256) fun ch=>bif Nat.blt ch 128 then _ else _)else _)=_
 rw[dY,ae hi,cond_true,aN,show Nat.mod (Nat.div (bH l) (j8 i)) 256=l[i].toNat from qZ l i hi,dY,ae hc,cond_true,aN,gh];rfl
theorem bg1{M:Mem}{b:Nat}{l:List UInt8}{i:Nat}(c:Nat)(h:M.get b=some (siB l i))(hi:i<l.length)(hc:128≤l[i].toNat):∃r p:Nat,128≤r∧am1 M c (.p b 0)= .k (.t [.b true,.i .i64 (i:Int),.i .i32 (r:Int)]) (M.set b (siB l p)) c:=by
 refine⟨(Utf8.decode (ba l.length (bH l)) i).1,i+(Utf8.decode (ba l.length (bH l)) i).2,ap2 _ _ (by rw[Xg hi,qZ l i hi];exact hc),?_⟩
 show yZ M c b (M.get b)=_
 rw[h]
 show(bif Nat.blt i l.length then(fN (Nat.mod (Nat.div (bH l) (j8 i)) 256) fun ch=>bif Nat.blt ch 128 then _ else am2 M c b l.length (bH l) i (Utf8.decode (ba l.length (bH l)) i))else _)=_
 rw[dY,ae hi,cond_true,aN,show Nat.mod (Nat.div (bH l) (j8 i)) 256=l[i].toNat from qZ l i hi,dY,ag (by omega),cond_false]
 unfold am2
 rw[aN,aN,gh];rfl
theorem Nm{Φ:Nat→Option CF}{rd:Option Nat}{fn:Nat}{F:RO}(base i mask j b:Nat)(blk:bq)(dst:Option aH)(o:EO)(r:List (Nat×Nat×CO))(t:T)(M:Mem)(c:Nat)(reads:List (Nat×Nat))(R:DS→Prop)(hj:(mask/2^j%2==1)=true)(hb:El mask reads=true):
 mz base ((i,mask,.mk dst (.e o) none)::r) (K Φ rd fn F) (.mk t M c [(j,b,blk)] reads) R=H0 (gG o (K Φ rd fn F) (M.set b blk) c t) F dst base r (K Φ rd fn F) t reads R:=by
 have hp:=lG hb
 have hj':testBit mask j=true:=by
  show Nat.beq (Nat.mod (Nat.div mask (Nat.pow 2 j)) 2) 1=true;rw[bp];exact ae (show mask/2^j%2=1 by simpa using hj)
 have hmg:jf mask [(j,b,blk)] M=(M.set b blk,[]):=by
  show(bif testBit mask j then(M.set b blk).force (fun M=>jf mask [] M)else _)=_;rw[hj',cond_true,Tr.force_eq];rfl
 have he:ui (K Φ rd fn F) base (i,mask,.mk dst (.e o) none) (.mk t M c [(j,b,blk)] reads)=lM F dst t [] reads [] (gG o (K Φ rd fn F) (M.set b blk) c t):=by
  show Cc o (K Φ rd fn F) mask dst t c reads (jf mask [(j,b,blk)] M)=_;rw[hmg];show rK o (K Φ rd fn F) dst t c [] reads (bB mask reads F (M.set b blk) [])=_;rw[hp];rfl
 apply propext
 rw[fR,he]
 cases hd:gG o (K Φ rd fn F) (M.set b blk) c t with
 |f=>exact⟨fun⟨s',h,_⟩=>(by cases h),False.elim⟩
 |k v M' c'=>
  have h2:lM F dst t [] reads [] (.k v M' c')=if bF M' F=true then some (DS.mk (setT t dst v) M' c' [] reads)else none:=by
   show(bif bF M' F&&cz F M' []then(b7 [] M').force fun M=>(setT t dst v).force fun t=>some (DS.mk t M c' [] reads)else none)=_;cases hr:bF M' F with
   |false=>rfl
   |true=>
    show((b7 [] M').force fun M=>(setT t dst v).force fun t=>some (DS.mk t M c' [] reads))=_;rw[Tr.force_eq,Tr.force_eq];rfl
  rw[h2];show _↔(bF M' F=true∧mz base r (K Φ rd fn F) (.mk (setT t dst v) M' c' [] reads) R);cases hr:bF M' F with
  |false=>exact⟨fun⟨s',h,_⟩=>(by simp at h),fun h=>(by cases h.1)⟩
  |true=>
   constructor
   ·rintro⟨s',h,q⟩;simp only[if_true]at h;obtain rfl:=af h;exact⟨rfl,q⟩
   ·exact fun h=>⟨_,rfl,h.2⟩
def cW(F:RO)(g:Nat):Prop:=∃t b o,∀M:Mem,M.get g=none→load1 F M g 0=some (.a t (.p b o))
theorem vf{W:World}{a:Addr}{v:Value}(h:W.cell? a=some v):∃r o,a=⟨r,o,none⟩∧r<W.heap.size:=by
 obtain⟨r,o,sp⟩:=a
 unfold World.cell? at h
 split at h
 ·rename_i cs ty fr hh;have hlt:r<W.heap.size:=(Array.getElem?_eq_some_iff.1 hh).1;cases sp with
  |none=>exact⟨r,o,rfl,hlt⟩
  |some k=>simp at h
 ·cases h
def pv(F:RO)(g:Nat):Option (Nat×Nat×Nat×Nat):=match aV F g with
 |some (.cells ty n false fz true d c)=>bif Nat.beq n 1&&Nat.beq fz 1 then(match cell 1 d c 0 with
  |some (.a t (.p b o))=>some (ty,t,b,o)
  |_=>none)else none
 |_=>none
theorem yF{F:RO}{g ty t b o:Nat}(h:pv F g=some (ty,t,b,o)):∃d c,aV F g=some (.cells ty 1 false 1 true d c)∧cell 1 d c 0=some (.a t (.p b o)):=by
 unfold pv at h
 split at h
 ·rename_i ty' n fz d c hF;cases hh:Nat.beq n 1&&Nat.beq fz 1 with
  |false=>rw[hh]at h;cases h
  |true=>
   rw[hh,cond_true]at h;rw[aD,bp,bp]at hh;obtain rfl:=bc hh.1;obtain rfl:=bc hh.2;split at h
   ·rename_i t' b' o' hc;injection h with h;injection h with h1 h;injection h with h2 h;injection h with h3 h4
    subst h1 h2 h3 h4;exact⟨d,c,hF,hc⟩
   ·cases h
 ·cases h
def j4(F:RO):List Nat→Bool
 |[]=>true
 |g::r=>Nat.blt g 1000&&((pv F g).isSome&&j4 F r)
theorem px{F:RO}:∀{L:List Nat},j4 F L=true→ ∀g∈L,g<1000∧ ∃ty t b o,pv F g=some (ty,t,b,o)
 |[],_,g,hg=>by cases hg
 |x::r,h,g,hg=>by
  have h':(Nat.blt x 1000&&((pv F x).isSome&&j4 F r))=true:=h;rw[aD,aD,dY]at h';rcases bj.1 hg with e|hg'
  ·subst e;obtain⟨⟨ty,t,b,o⟩,hq⟩:=bm.1 h'.2.1;exact⟨bc h'.1,ty,t,b,o,hq⟩
  ·exact px h'.2.2 g hg'
theorem yG{F:RO}{g:Nat}(h:(pv F g).isSome=true):cW F g:=by
 obtain⟨⟨ty,t,b,o⟩,hq⟩:=bm.1 h
 obtain⟨d,c,hF,hc⟩:=yF hq
 refine⟨t,b,o,fun M hM=>?_⟩
 unfold Ev.load1
 rw[aC hM,hF]
 exact hc
def EU(ty t k o:Nat):bq:= .cells ty 1 false 1 true [.a t (.p k o)] .e
def vu(F:RO)(q:Nat→Nat×Nat×Nat):List Nat→Nat→RO
 |[],_=>F
 |g::r,k=>(g,EU (q g).1 (q g).2.1 k (q g).2.2)::vu F q r (Nat.succ k)
theorem qw{F:RO}{q:Nat→Nat×Nat×Nat}:∀{L:List Nat} {k b:Nat} {blk:bq},aV (vu F q L k) b=some blk→aV F b=some blk∨ ∃i,L[i]?=some b∧blk=EU (q b).1 (q b).2.1 (k+i) (q b).2.2
 |[],k,b,blk,h=> .inl h
 |g::r,k,b,blk,h=>by
  have h':Bool.rec (motive:=fun _=>Option bq) (aV (vu F q r (k+1)) b) (some (EU (q g).1 (q g).2.1 k (q g).2.2)) (Nat.beq g b)=some blk:=h;rw[bb,bp]at h';by_cases e:g=b
  ·rw[ac (by simpa using e)]at h';subst e;exact .inr ⟨0,rfl,(af h').symm⟩
  ·rw[ab (by simpa using e)]at h';rcases qw h' with h|⟨i,h1,h2⟩
   ·exact .inl h
   ·exact .inr ⟨i+1,h1,by rw[h2,show k+1+i=k+(i+1) by omega]⟩
def EV(F:RO)(L:List Nat)(i:Nat):Nat:=match L[i]? with
 |some g=>(match pv F g with|some (_,_,b,_)=>b|none=>0)
 |none=>0
def qt(E:cE)(F:RO)(L:List Nat):cE:=⟨fun x=>if x<1000 then E.ρ x else E.ρ (EV F L (x-1000)),fun x=>if x<1000 then E.β x else E.β (EV F L (x-1000)),fun x=>if x<1000 then E.κ x else E.κ (EV F L (x-1000))⟩
theorem ei(E:cE)(F:RO)(L:List Nat):pT (fun x=>x<1000) E (qt E F L):=⟨fun b hb=>ac hb,fun b hb=>ac hb,fun b hb=>ac hb⟩
theorem YV{P:Program}{E:cE}{F:RO}{M:Mem}{c:Nat→Prop}{w:World}{L:List eT}{gs:List Nat}(hr:jl P E F M c w)(hglob:∀g,g<1000→E.ρ g=g∧E.β g=0)(h:bA F L=true)(he:j4 F gs=true):
 ∃ty q,jl P (qt E F gs) (vu (mc L ty) q gs 1000) .e (fun x=>x<1000+gs.length) w:=by
 obtain⟨ty,hT⟩:=ww hr hglob h
 have hall:=px he
 have hgl:∀g,g<1000→(qt E F gs).ρ g=g:=fun g hg=>((ei E F gs).ρ g hg).trans (hglob g hg).1
 refine⟨ty,fun g=>match pv F g with|some (ty,t,_,o)=>(ty,t,o)|none=>(0,0,0),⟨?_,?_,fun b hb=>rfl⟩⟩
 ·intro b blk hb;rw[aC (show(Tr.e:Mem).get b=none from rfl)]at hb;rcases qw hb with hb|⟨i,hi,rfl⟩
  ·obtain⟨h1,h2,o,h3,h4⟩:=hT.has b blk (by rw[aC (show(Tr.e:Mem).get b=none from rfl)];exact hb);have h1':b<1000:=h1;exact⟨Nat.lt_of_lt_of_le h1' (Nat.le_add_right _ _),fq (fun x (hx:x<1000)=>Nat.lt_of_lt_of_le hx (Nat.le_add_right _ _)) blk h2,o,by rw[hgl b h1',←(hglob b h1').1];exact h3,h4.ext (ei E F gs) h1' h2⟩
  ·have hm:=List.mem_of_getElem? hi;obtain⟨hb1,ty',t,b',o,hq⟩:=hall b hm;obtain⟨d,cc,hF,hc⟩:=yF hq;have hl:look F M b=some (.cells ty' 1 false 1 true d cc):=by
    rw[aC (hr.apart b (by rw[hF];rfl))];exact hF
   obtain⟨_,hbd,obj,ho,arr,fr,rfl,hC⟩:=hr.has _ _ hl;have hil:i<gs.length:=(List.getElem?_eq_some_iff.1 hi).1;have hn:EV F gs i=b':=by unfold EV;rw[hi];simp only[hq]
   simp only[hq];refine⟨Nat.lt_of_lt_of_le hb1 (Nat.le_add_right _ _),?_,_,by rw[hgl b hb1,←(hglob b hb1).1];exact ho,arr,fr,rfl,?_,?_,?_,fun hh=>by cases hh⟩
   ·intro k v hv;rw[cd]at hv;split at hv
    ·obtain rfl:k=0:=by omega
     obtain rfl:=af hv;show 1000+i<1000+gs.length;omega
    ·cases hv
   ·intro k v hv;rw[cd]at hv;split at hv
    ·obtain rfl:k=0:=by omega
     obtain rfl:=af hv;have:=hC.cell 0 _ hc;rw[(ei E F gs).β b hb1,this];show some (Value.iface t (.pointer (some ⟨E.ρ b',E.β b'+o,none⟩)))=some (Value.iface t (.pointer (some ⟨(qt E F gs).ρ (1000+i),(qt E F gs).β (1000+i)+o,none⟩)));have e1:(qt E F gs).ρ (1000+i)=E.ρ b':=by
      show(if 1000+i<1000 then _ else E.ρ (EV F gs (1000+i-1000)))=_;rw[ab (by omega),show 1000+i-1000=i by omega,hn]
     have e2:(qt E F gs).β (1000+i)=E.β b':=by
      show(if 1000+i<1000 then _ else E.β (EV F gs (1000+i-1000)))=_;rw[ab (by omega),show 1000+i-1000=i by omega,hn]
     rw[e1,e2]
    ·cases hv
   ·have:=hC.size;show arr.size=(qt E F gs).β b+1+(qt E F gs).κ b*_;rw[(ei E F gs).β b hb1,(ei E F gs).κ b hb1];exact this
   ·rw[(ei E F gs).β b hb1];exact hC.free
 ·intro b b' h1 h2 e
  have lt:∀x,(look (vu (mc L ty) (fun g=>match pv F g with|some (ty,t,_,o)=>(ty,t,o)|none=>(0,0,0)) gs 1000) .e x).isSome→x<1000:=by
   intro x hx;obtain⟨y,hy⟩:=bm.1 hx;rw[aC (show(Tr.e:Mem).get x=none from rfl)]at hy;rcases qw hy with hy|⟨i,hi,_⟩
   ·exact(hT.has x y (by rw[aC (show(Tr.e:Mem).get x=none from rfl)];exact hy)).1
   ·exact(hall x (List.mem_of_getElem? hi)).1
  rw[hgl b (lt b h1),hgl b' (lt b' h2)]at e;exact e
def cf1(Φ:Nat→Option CF)(fuel:Nat)(F:RO)(f n:Nat):RC:=cu (exec Φ fuel) F f [] .e n (Φ f)
theorem Lc{P:Program}{n nm:String}{text:List UInt8}{r:List (String×DataW Unit)}{W:World}{C g:Nat}{ti tp te ts:TypeId}{ms:Array (String×TypeId)}{f:Field}
 (hC:W.heap.size≤C) (h:laidMet P ((n,.iface nm (.ptr (.agg [.lit (.string text)])))::r) W)
 (hg:P.globalNamed n=some g) (ht:(P.globals[g]?).map (·.type)=some ti) (hi:P.underlying ti=some (.interface ms)) (hrow:∀u,P.typeName? 3 u=some nm→u=tp)
 (hp:P.underlying tp=some (.pointer te)) (he:P.underlying te=some (.struct #[f])) (hft:f.type=ts) (hfo:f.offset=0) (hs:P.underlying ts=some .string) (hc:P.cellsOf te=1) (hcs:P.cellsOf ts=1):
 (pv (cQ W C) g).isSome=true:=by
 obtain⟨a,s,hv,hca,_,_⟩:=laid_sentinel h hg ht hi hrow hp he hft hfo hs hc hcs
 obtain⟨rb,o,rfl,hlt⟩:=vf hca
 have hv2:rx C (.iface tp (.pointer (some ⟨rb,o,none⟩)))=some (.a tp (.p rb o)):=ac (Nat.lt_of_lt_of_le hlt hC)
 unfold World.var? at hv
 rw[hg]at hv
 simp only[Option.bind_some]at hv
 split at hv
 ·rename_i cs ty fr hh;obtain rfl:=af hv;have hcell:cell (#[Value.iface tp (.pointer (some ⟨rb,o,none⟩))]).size [] (iW ((#[Value.iface tp (.pointer (some ⟨rb,o,none⟩))]).toList.map (rx C)) 0 .e) 0=some (.a tp (.p rb o)):=(iw (ty:=ty)).2 ⟨_,rfl,hv2⟩;unfold pv;rw[iv];have hh':W.heap[g]?=some (.cells #[Value.iface tp (.pointer (some ⟨rb,o,none⟩))] ty fr):=hh;rw[hh'];show Option.isSome (bif Nat.beq 1 1&&Nat.beq 1 1 then(match cell 1 [] (iW ((#[Value.iface tp (.pointer (some ⟨rb,o,none⟩))]).toList.map (rx C)) 0 .e) 0 with
   |some (.a t (.p b o))=>some (ty,t,b,o)
   |_=>none)else none)=true
  have hcell':cell 1 [] (iW ((#[Value.iface tp (.pointer (some ⟨rb,o,none⟩))]).toList.map (rx C)) 0 .e) 0=some (.a tp (.p rb o)):=hcell;rw[hcell'];rfl
 ·cases hv
section
variable{Φ:Nat→Option CF}{rd:Option Nat}{fn:Nat}{F:RO}
end
section
variable{Φ:Nat→Option CF}{rd:Option Nat}{fn:Nat}{F:RO}
theorem lU{c:Nat}(mask:Nat):∀(reads:List (Nat×Nat)) (F:RO) (M:Mem) (s:List (Nat×bq)),bF M F=true→(∀x,c≤x→M.get x=none)→
 ∃F' M' s2,bB mask reads F M s=Pr.mk F' M' (s2++s)∧bF M' F'=true∧(∀b,look F' M' b=look F M b)∧(∀x,c≤x→M'.get x=none)∧ ∀N:Mem,(∀x,x<c→N.get x=M'.get x)→ ∀x,(b7 s2 N).get x=if x<c then M.get x else N.get x
 |[],F,M,s,h2,h3=>⟨F,M,[],rfl,h2,fun _=>rfl,h3,fun N hN x=>by
  show N.get x=_;split
  ·rename_i h;exact hN x h
  ·rfl⟩
 |(i,x)::r,F,M,s,h2,h3=>by
  rw[bB];cases ht:testBit mask i with
  |true=>exact lU mask r F M s h2 h3
  |false=>
   show∃F' M' s2,(match M.get x with|none=>bB mask r F M s|some blk=>(M.del x).force fun M=>bB mask r ((x,blk)::F) M ((x,blk)::s))=_∧_;cases hb:M.get x with
   |none=>exact lU mask r F M s h2 h3
   |some blk=>
    have hxc:x<c:=by
     apply Classical.byContradiction;intro hx;rw[h3 x (by omega)]at hb;cases hb
    have hfr:bF (M.del x) ((x,blk)::F)=true:=by
     rw[fx,Tr.get_del,ac rfl,lX x h2];rfl
    obtain⟨F',M',s2,g1,g2,g3,g4,g5⟩:=lU mask r ((x,blk)::F) (M.del x) ((x,blk)::s) hfr (fun y hy=>by rw[Tr.get_del];split<;>first|rfl|exact h3 y hy);refine⟨F',M',s2++[(x,blk)],?_,g2,fun b=>?_,g4,fun N hN z=>?_⟩
    ·show((M.del x).force fun M=>bB mask r ((x,blk)::F) M ((x,blk)::s))=_;rw[Tr.force_eq,g1,gf];rfl
    ·rw[g3];by_cases e:b=x
     ·subst e;rw[aq hb,aC (by rw[Tr.get_del,ac rfl]),cM,ac rfl]
     ·cases hM:M.get b with
      |some y=>rw[aq hM,aq (by rw[Tr.get_del,ab e];exact hM)]
      |none=>rw[aC hM,aC (by rw[Tr.get_del,ab e];exact hM),cM,ab (fun h=>e h.symm)]
    ·have key:∀(s2:List (Nat×bq)) (N:Mem),b7 (s2++[(x,blk)]) N=(b7 s2 N).set x blk:=by
      intro s2
      induction s2 with
      |nil=>intro N;show(N.set x blk).force (fun M=>M)=_;rw[Tr.force_eq];rfl
      |cons a s2 ih=>intro N;show(N.set a.1 a.2).force (fun M=>b7 (s2++[(x,blk)]) M)=_;rw[Tr.force_eq,ih];show _=((N.set a.1 a.2).force fun M=>b7 s2 M).set x blk;rw[Tr.force_eq]
     rw[key,Tr.get_set,g5 N hN];by_cases e1:z=x
     ·subst e1;rw[ac rfl,ac hxc,hb]
     ·rw[ab e1,Tr.get_del,ab e1]
theorem cq1(base i mask:Nat)(dst:Option aH)(o:EO)(r:List (Nat×Nat×CO))(t:T)(M:Mem)(c:Nat)(reads:List (Nat×Nat))(R:DS→Prop)(ok:d9 F M c)
 (h:∀F' M',d9 F' M' c→(∀b,look F' M' b=look F M b)→ou (gG o (K Φ rd fn F') M' c t) fun v M2 c2=>Gr c M' c2 M2∧ ∀M3,Gr c M c2 M3→(∀x,c≤x→M3.get x=M2.get x)→mz base r (K Φ rd fn F) (.mk (setT t dst v) M3 c2 [] reads) R):
 mz base ((i,mask,.mk dst (.e o) none)::r) (K Φ rd fn F) (.mk t M c [] reads) R:=by
 obtain⟨F',M',s2,g1,g2,g3,g4,g5⟩:=lU (c:=c) mask reads F M [] ok.free ok.hiM
 have ok':d9 F' M' c:=by
  refine⟨g4,fun b hb=>?_,fun b hb=>?_,ok.ge⟩
  ·have:=g3 b;rw[aC (g4 b hb),ok.look hb]at this;exact this
  ·have:∃blk,(b,blk)∈F':=by
    clear g1 g2 g3 g5 h
    induction F' with
    |nil=>cases hb
    |cons a F' ih=>
     obtain⟨k,z⟩:=a;rw[cM]at hb;split at hb
     ·rename_i e;have e:k=b:=e;exact⟨z,by rw[e];exact bK ..⟩
     ·obtain⟨blk,hm⟩:=ih hb;exact⟨blk,bz _ hm⟩
   obtain⟨blk,hm⟩:=this;exact lY F' g2 b blk hm
 obtain⟨v,M2,c2,hd,hg,hR⟩:=h F' M' ok' g3
 have hun:=g5 M2 hg.old
 have he:ui (K Φ rd fn F) base (i,mask,.mk dst (.e o) none) (.mk t M c [] reads)=some (.mk (setT t dst v) (b7 s2 M2) c2 [] reads):=by
  show rK o (K Φ rd fn F) dst t c [] reads (bB mask reads F M [])=_;rw[g1];show lM F' dst t [] reads (s2++[]) (gG o (K Φ rd fn F') M' c t)=_;rw[hd,cL];show(bif bF M2 F'&&true then(b7 s2 M2).force fun M=>(setT t dst v).force fun t=>some (DS.mk t M c2 [] reads)else none)=_;rw[(hg.ok ok').free];show((b7 s2 M2).force fun M=>(setT t dst v).force fun t=>some (DS.mk t M c2 [] reads))=_;rw[Tr.force_eq,Tr.force_eq]
 rw[fR]
 have hle:=hg.le
 exact⟨_,he,hR _ ⟨hle,fun b hb=>by rw[hun,ac hb],fun b hb=>by rw[hun,ab (by omega)];exact hg.new b hb⟩ (fun x hx=>by rw[hun,ab (by omega)])⟩
end
section
variable{Φ:Nat→Option CF}{rd:Option Nat}{fn:Nat}{F:RO}
end
section
variable{Φ:Nat→Option CF}{rd:Option Nat}{fn:Nat}{F:RO}
structure GX(h:Nat→Prop)(c:Nat)(M:Mem)(c':Nat)(M':Mem):Prop where
 le:c≤c'
 old:∀b,b<c→ ¬h b→M'.get b=M.get b
 new:∀b,c'≤b→M'.get b=none
theorem GX.of{h:Nat→Prop}{c c':Nat}{M M':Mem}(g:Gr c M c' M'):GX h c M c' M':=⟨g.le,fun b hb _=>g.old b hb,g.new⟩
theorem GX.trans{h:Nat→Prop}{M M1 M2:Mem}{c c1 c2:Nat}(g:GX h c M c1 M1)(g2:GX h c1 M1 c2 M2):GX h c M c2 M2:=
 ⟨bn g.le g2.le,fun b hb hn=>(g2.old b (Nat.lt_of_lt_of_le hb g.le) hn).trans (g.old b hb hn),g2.new⟩
theorem GX.gr{h:Nat→Prop}{M M1:Mem}{c0 c c1:Nat}(g:GX h c M c1 M1)(h0:c0≤c)(hh:∀b,b<c0→ ¬h b):Gr c0 M c1 M1:=
 ⟨bn h0 g.le,fun b hb=>g.old b (by omega) (hh b hb),g.new⟩
theorem GX.ok{h:Nat→Prop}{M M1:Mem}{c c1:Nat}(g:GX h c M c1 M1)(ho:d9 F M c)(hh:∀b,b<c→h b→ ∃x,M.get b=some x):d9 F M1 c1:=by
 refine⟨g.new,fun b hb=>ho.hiF b (bn g.le hb),fun b hb=>?_,bn ho.ge g.le⟩
 have hlt:b<c:=by
  by_cases hc:b<c
  ·exact hc
  ·rw[ho.hiF b (by omega)]at hb;cases hb
 rw[g.old b hlt fun hx=>?_]
 ·exact ho.ap b hb
 ·obtain⟨x,hx⟩:=hh b hlt hx;rw[ho.ap b hb]at hx;cases hx
theorem kG{c:Nat}{h:Nat→Prop}(mask:Nat):∀(reads:List (Nat×Nat)) (F:RO) (M:Mem) (s:List (Nat×bq)),(∀e∈reads,¬h e.2)→bF M F=true→(∀x,c≤x→M.get x=none)→
 ∃F' M' s2,bB mask reads F M s=Pr.mk F' M' (s2++s)∧bF M' F'=true∧(∀b,look F' M' b=look F M b)∧(∀x,c≤x→M'.get x=none)∧(∀x,(∀e∈reads,e.2≠x)→M'.get x=M.get x)∧ ∀N:Mem,(∀x,x<c→ ¬h x→N.get x=M'.get x)→ ∀x,(x<c→ ¬h x→(b7 s2 N).get x=M.get x)∧(c≤x∨h x→(b7 s2 N).get x=N.get x)
 |[],F,M,s,_,h2,h3=>⟨F,M,[],rfl,h2,fun _=>rfl,h3,fun _ _=>rfl,fun N hN x=>⟨fun h1 h2=>hN x h1 h2,fun _=>rfl⟩⟩
 |(i,x)::r,F,M,s,hr,h2,h3=>by
  have hr':∀e∈r,¬h e.2:=fun e he=>hr e (bz _ he);rw[bB];cases ht:testBit mask i with
  |true=>
   obtain⟨F',M',s2,g1,g2,g3,g4,g6,g5⟩:=kG mask r F M s hr' h2 h3;exact⟨F',M',s2,g1,g2,g3,g4,fun y hy=>g6 y fun e he=>hy e (bz _ he),g5⟩
  |false=>
   show∃F' M' s2,(match M.get x with|none=>bB mask r F M s|some blk=>(M.del x).force fun M=>bB mask r ((x,blk)::F) M ((x,blk)::s))=_∧_;cases hb:M.get x with
   |none=>
    obtain⟨F',M',s2,g1,g2,g3,g4,g6,g5⟩:=kG mask r F M s hr' h2 h3;exact⟨F',M',s2,g1,g2,g3,g4,fun y hy=>g6 y fun e he=>hy e (bz _ he),g5⟩
   |some blk=>
    have hxc:x<c:=by
     apply Classical.byContradiction;intro hx;rw[h3 x (by omega)]at hb;cases hb
    have hxh:¬h x:=hr (i,x) (bK ..);have hfr:bF (M.del x) ((x,blk)::F)=true:=by
     rw[fx,Tr.get_del,ac rfl,lX x h2];rfl
    obtain⟨F',M',s2,g1,g2,g3,g4,g6,g5⟩:=kG mask r ((x,blk)::F) (M.del x) ((x,blk)::s) hr' hfr (fun y hy=>by rw[Tr.get_del];split<;>first|rfl|exact h3 y hy);refine⟨F',M',s2++[(x,blk)],?_,g2,fun b=>?_,g4,fun y hy=>?_,fun N hN z=>?_⟩
    ·show((M.del x).force fun M=>bB mask r ((x,blk)::F) M ((x,blk)::s))=_;rw[Tr.force_eq,g1,gf];rfl
    ·rw[g3];by_cases e:b=x
     ·subst e;rw[aq hb,aC (by rw[Tr.get_del,ac rfl]),cM,ac rfl]
     ·cases hM:M.get b with
      |some y=>rw[aq hM,aq (by rw[Tr.get_del,ab e];exact hM)]
      |none=>rw[aC hM,aC (by rw[Tr.get_del,ab e];exact hM),cM,ab (fun h=>e h.symm)]
    ·rw[g6 y fun e he=>hy e (bz _ he),Tr.get_del,ab (fun e=>hy (i,x) (bK ..) e.symm)]
    ·have key:∀(s2:List (Nat×bq)) (N:Mem),b7 (s2++[(x,blk)]) N=(b7 s2 N).set x blk:=by
      intro s2
      induction s2 with
      |nil=>intro N;show(N.set x blk).force (fun M=>M)=_;rw[Tr.force_eq];rfl
      |cons a s2 ih=>intro N;show(N.set a.1 a.2).force (fun M=>b7 (s2++[(x,blk)]) M)=_;rw[Tr.force_eq,ih];show _=((N.set a.1 a.2).force fun M=>b7 s2 M).set x blk;rw[Tr.force_eq]
     obtain⟨k1,k2⟩:=g5 N hN z;rw[key,Tr.get_set];refine⟨fun a1 a2=>?_,fun a1=>?_⟩
     ·by_cases e1:z=x
      ·subst e1;rw[ac rfl,hb]
      ·rw[ab e1,k1 a1 a2,Tr.get_del,ab e1]
     ·have e1:¬z=x:=by
       intro e;rcases a1 with a1|a1
       ·omega
       ·exact hxh (by rw[←e];exact a1)
      rw[ab e1,k2 a1]
theorem a05{hx:Nat→Prop}(base i mask:Nat)(dst:Option aH)(o:EO)(r:List (Nat×Nat×CO))(t:T)(M:Mem)(c:Nat)(reads:List (Nat×Nat))(R:DS→Prop)(ok:d9 F M c)(hr:∀e∈reads,¬hx e.2)(hs:∀b,b<c→hx b→ ∃x,M.get b=some x)
 (h:∀F' M',d9 F' M' c→(∀b,look F' M' b=look F M b)→(∀b,(∀e∈reads,e.2≠b)→M'.get b=M.get b)→ou (gG o (K Φ rd fn F') M' c t) fun v M2 c2=>GX hx c M' c2 M2∧ ∀M3,GX hx c M c2 M3→(∀x,c≤x∨hx x→M3.get x=M2.get x)→mz base r (K Φ rd fn F) (.mk (setT t dst v) M3 c2 [] reads) R):
 mz base ((i,mask,.mk dst (.e o) none)::r) (K Φ rd fn F) (.mk t M c [] reads) R:=by
 obtain⟨F',M',s2,g1,g2,g3,g4,g6,g5⟩:=kG (c:=c) (h:=hx) mask reads F M [] hr ok.free ok.hiM
 have ok':d9 F' M' c:=by
  refine⟨g4,fun b hb=>?_,fun b hb=>?_,ok.ge⟩
  ·have:=g3 b;rw[aC (g4 b hb),ok.look hb]at this;exact this
  ·have:∃blk,(b,blk)∈F':=by
    clear g1 g2 g3 g5 h
    induction F' with
    |nil=>cases hb
    |cons a F' ih=>
     obtain⟨k,z⟩:=a;rw[cM]at hb;split at hb
     ·rename_i e;have e:k=b:=e;exact⟨z,by rw[e];exact bK ..⟩
     ·obtain⟨blk,hm⟩:=ih hb;exact⟨blk,bz _ hm⟩
   obtain⟨blk,hm⟩:=this;exact lY F' g2 b blk hm
 obtain⟨v,M2,c2,hd,hg,hR⟩:=h F' M' ok' g3 g6
 have hun:=g5 M2 hg.old
 have ok2:d9 F' M2 c2:=hg.ok ok' fun b hb hxb=>by rw[g6 b fun e he e1=>hr e he (by rw[e1];exact hxb)];exact hs b hb hxb
 have he:ui (K Φ rd fn F) base (i,mask,.mk dst (.e o) none) (.mk t M c [] reads)=some (.mk (setT t dst v) (b7 s2 M2) c2 [] reads):=by
  show rK o (K Φ rd fn F) dst t c [] reads (bB mask reads F M [])=_;rw[g1];show lM F' dst t [] reads (s2++[]) (gG o (K Φ rd fn F') M' c t)=_;rw[hd,cL];show(bif bF M2 F'&&true then(b7 s2 M2).force fun M=>(setT t dst v).force fun t=>some (DS.mk t M c2 [] reads)else none)=_;rw[ok2.free];show((b7 s2 M2).force fun M=>(setT t dst v).force fun t=>some (DS.mk t M c2 [] reads))=_;rw[Tr.force_eq,Tr.force_eq]
 rw[fR]
 have hle:=hg.le
 refine⟨_,he,hR _ ⟨hle,fun b hb hn=>(hun b).1 hb hn,fun b hb=>?_⟩ fun x hx=>(hun x).2 hx⟩
 rw[(hun b).2 (.inl (by omega))];exact hg.new b hb
theorem Hc{M:Mem}{c b n ty sz bytes:Nat}{y:V}{es ns:List (List V)}(h:cj F M c sz (.l b 0 n n) es)(hn:es.length=n)(hsz:0<sz)(hy:cj F M c sz y ns)(hne:ns≠[])(h1:bv ns.flatten=true)(hr:kP (es.length+ns.length) bytes=true):
 ou (tM F M c ty sz bytes (.l b 0 n n) y) fun v' M' c'=>c'=c+1∧M'=M.set c (mI ty (es++ns).flatten)∧v'= .u c 0 (es++ns).length 0 (es++ns).length:=by
 unfold tM
 rw[wH hsz hy]
 have hnl:=iS hy.1
 have hn0:ns.length≠0:=fun e=>hne (List.length_eq_zero_iff.1 e)
 have e1:pp F M c ty sz bytes (.l b 0 n n) (some (ns.length,ns.flatten))=ym F M c ty sz bytes b 0 n n ns.length ns.flatten:=by
  show(bif bv ns.flatten&&Nat.beq ns.flatten.length (Nat.mul ns.length sz)then app F M c ty sz bytes (.l b 0 n n) ns.length ns.flatten else _)=_;rw[h1,bp,ae (show ns.flatten.length=Nat.mul ns.length sz from hnl)];show(bif Nat.beq ns.length 0 then _ else _)=_;rw[bp,ag hn0];rfl
 have hcl:cZ F M b 0 es.flatten:=by
  obtain⟨h0,⟨rfl,h2⟩|⟨b',o',hv,hb,hc⟩⟩:=h
  ·intro k hk;cases hk
  ·rcases hv with⟨cap,_,hv⟩|⟨el,kn,_,hv⟩
   ·injection hv with e1 e2;subst e1 e2;exact hc
   ·cases hv
 obtain⟨r,hrd⟩:=nr hsz h.1 hcl
 rw[hn]at hrd
 have e2:ym F M c ty sz bytes b 0 n n ns.length ns.flatten=kC M c ty bytes (es.length+ns.length) 0 false (es.flatten++ns.flatten):=by
  unfold ym;rw[bL,ag (show¬Nat.add n ns.length≤n by show¬n+ns.length≤n;omega),cond_false,hrd,←hn];rfl
 refine⟨_,_,_,(e1.trans e2).trans (vC M c ty bytes _ _ hr),rfl,by rw[List.flatten_append],by rw[bw]⟩
end
def E1(E:cE)(b:Nat):cE:=⟨fun x=>if x<1000 then x else E.ρ b,fun x=>if x<1000 then 0 else E.β b,fun x=>if x<1000 then 0 else E.κ b⟩
open Classical in
def nB:List UInt8→List UInt8→List (List UInt8)
 |[],a=>[a]
 |[x],a=>[a++[x]]
 |x::y::r,a=>if x=44∧y=32 then a::nB r []else nB (y::r) (a++[x])
theorem bg3(x y:UInt8)(r:List UInt8):Lib.occAt (x::y::r) [44,32] 0=decide (x=44∧y=32):=by
 show([44,32]:List UInt8).isPrefixOf (x::y::r)=_
 rw[List.isPrefixOf_cons_cons,List.isPrefixOf_cons_cons]
 have:([]:List UInt8).isPrefixOf r=true:=by cases r<;>rfl
 rw[this,Bool.and_true]
 by_cases h1:x=44
 ·by_cases h2:y=32
  ·subst h1 h2;rfl
  ·have:((32:UInt8)==y)=false:=by rw[beq_eq_false_iff_ne];exact fun e=>h2 e.symm
   rw[this,Bool.and_false,ag (by rintro⟨_,h⟩;exact h2 h)]
 ·have:((44:UInt8)==x)=false:=by rw[beq_eq_false_iff_ne];exact fun e=>h1 e.symm
  rw[this,Bool.false_and,ag (by rintro⟨h,_⟩;exact h1 h)]
theorem bg4(x:UInt8)(r:List UInt8)(j:Nat):Lib.occAt (x::r) [44,32] (j+1)=Lib.occAt r [44,32] j:=rfl
theorem MJ:∀(s a:List UInt8),(∀j,j≤s.length→Lib.occAt s [44,32] j=false)→nB s a=[a++s]
 |[],a,_=>by rw[nB,cL]
 |[x],a,_=>by rw[nB]
 |x::y::r,a,h=>by
  have h0:=h 0 (aF _);rw[bg3]at h0;rw[nB,ab (of_decide_eq_false h0),MJ (y::r) _ fun j hj=>by rw[←bg4 x];exact h (j+1) (by simpa using hj)];simp
theorem D8:∀(i:Nat) (s a:List UInt8),Lib.occAt s [44,32] i=true→(∀j,j<i→Lib.occAt s [44,32] j=false)→nB s a=(a++s.take i)::nB (s.drop (i+2)) []
 |i,[],a,h,_=>by rcases Lib.occAt_room h with h|h<;>simp at h
 |i,[x],a,h,_=>by rcases Lib.occAt_room h with h|h<;>simp at h
 |0,x::y::r,a,h,_=>by
  rw[bg3]at h;rw[nB,ac (bc h)];simp
 |i+1,x::y::r,a,h,hn=>by
  have h0:=hn 0 (Nat.succ_pos _);rw[bg3]at h0;rw[nB,ab (of_decide_eq_false h0),D8 i (y::r) _ (by rw[←bg4 x];exact h) fun j hj=>by rw[←bg4 x];exact hn (j+1) (by omega)];simp
theorem FQ:∀(n:Nat) (s:List UInt8),s.length≤n→Lib.splitK [44,32] 0 (Lib.count s [44,32]) s=nB s []:=by
 intro n
 induction n with
 |zero=>
  intro s hs;obtain rfl:s=[]:=List.length_eq_zero_iff.1 (by omega);rfl
 |succ n ih=>
  intro s hs;rcases Lib.index_spec s [44,32]with⟨h,hn⟩|⟨i,h,hi,ho,hn⟩
  ·rw[Lib.count_miss h,MJ s [] hn];rfl
  ·rw[Lib.count_hit (by simp) h,D8 i s [] ho hn,Nat.add_comm 1];show(if Lib.index s [44,32]== -1 then[s]else _)=_;rw[h,ab (by simp)];show s.take (((i:Int)).toNat+0)::Lib.splitK [44,32] 0 _ (s.drop (((i:Int)).toNat+2))=_;have hr:=Lib.occAt_room ho;rw[Int.toNat_natCast,bT];have hl:(s.drop (i+2)).length≤n:=by
    rcases hr with hr|hr
    ·rw[bP];simp at hr;omega
    ·cases hr
   rw[show([44,32]:List UInt8).length=2 from rfl,ih _ hl];rfl
def cf0(ty:Nat)(ps:List (List UInt8)):bq:= .cells ty (ps.map sV).length true 0 false [] (aW (ps.map sV) 0 .e)
def Zn(ty n:Nat)(ps:List (List UInt8))(M:Mem)(ct:Nat):Option V→RC
 |some (.i .i64 _)=>bif Nat.blt n 4294967281 then .k (.l ct 0 (ps.map sV).length (ps.map sV).length) (M.set ct (cf0 ty ps)) (Nat.succ ct)else .f
 |_=> .f
def wG(ty g:Nat):RO→List V→Mem→Nat→RC:=fun F args M ct=>match args with
 |[.s n x,.s m y]=>bif Nat.beq m 2&&Nat.beq y 8236 then Zn ty n (nB (bl n x) []) M ct (load1 F M g 0)else .f
 |_=> .f
theorem XC(E:cE)(p:ByteArray):conc E (sV p.data.toList)= .string p:=by
 show Value.string (ba p.data.toList.length (bH p.data.toList))=_
 congr 1
 exact(uW (by rw[iM])).symm
theorem OQ{P:Program}{ρ:Ren}(L:Lays.n146 P ρ)(hi9:(P.info? (ρ.t 9)).map (fun i=>(i.zero,i.size,i.bytes))=some (some (.string ByteArray.empty),1,16)){f ty g:Nat}(hf:ρ.f 146=f)(hty:ρ.t 9=ty)(hg:ρ.g 1=g)(hg1:g<1000)
 {fn:Func} (hfn:P.funcs[f]?=some fn) (hb:fn.body.isNone=false) (hn:(fn.name== "runtime.NumGoroutine")=false):ce P f (wG ty g):=by
 subst hf hty hg
 intro F args M ct v N ct' hgv E c w hr hglob hbig hf ha
 unfold wG at hgv
 split at hgv
 ·rename_i n x m y;cases hq:Nat.beq m 2&&Nat.beq y 8236 with
  |false=>rw[hq]at hgv;cases hgv
  |true=>
   rw[hq,cond_true]at hgv;rw[aD,bp,bp]at hq;obtain rfl:=bc hq.1;obtain rfl:=bc hq.2;unfold Zn at hgv;split at hgv
   ·rename_i z hl;cases hlt:Nat.blt n 4294967281 with
    |false=>rw[hlt]at hgv;cases hgv
    |true=>
     rw[hlt,cond_true]at hgv;rw[dY]at hlt;have hn1:=bc hlt;injection hgv with e1 e2 e3
     subst e1 e2 e3;obtain⟨ty',n',ex,fz,str,d,cs,hbk,hgc⟩:=gK (f:=none) hl (by simp);obtain⟨_,_,o,ho,arr,fr,rfl,hC⟩:=hr.has _ _ hbk;have hm:w.cell? ⟨ρ.g 1,0,none⟩=some (.int .i64 z):=by
      rw[(hglob _ hg1).1]at ho;have hcell:=hC.cell 0 _ hgc;rw[(hglob _ hg1).2]at hcell;simp only[World.cell?,ho,Option.isSome_none,aS,if_false];exact hcell
     refine⟨fn,hfn,hb,hn,?_⟩;have hcall:=Go.Proofs.Any.strings_Split L hi9 (ba n x) (ba 2 8236) z w (by rw[d8];exact hn1) hm (by rw[d8];omega);have hargs:(aw E [.s n x,.s 2 8236]).toArray=#[.string (ba n x),.string (ba 2 8236)]:=rfl;rw[hargs];refine hcall.mono ?_;rintro e w' ⟨rfl,rfl⟩;have hps:(Lib.splitB (ba 2 8236) 0 (Lib.countB (ba n x) (ba 2 8236)) (ba n x)).map (·.data.toList)=nB (bl n x) []:=by
      rw[Lib.splitB_data,eV,eV];show Lib.splitK (bl 2 8236) 0 (Lib.count (ba n x).data.toList (ba 2 8236).data.toList) (bl n x)=_;rw[eV,eV,show bl 2 8236=[44,32]from by decide];exact FQ _ _ (ah _)
     have hcells:((Lib.splitB (ba 2 8236) 0 (Lib.countB (ba n x) (ba 2 8236)) (ba n x)).map Value.string).toArray=(aw E ((nB (bl n x) []).map sV)).toArray:=by
      rw[←hps,aZ,List.map_map,List.map_map]
      congr 1
      exact List.map_congr_left fun p _=>(XC E p).symm
     have hlen:((nB (bl n x) []).map sV).length=Lib.countB (ba n x) (ba 2 8236)+1:=by
      rw[←hps,List.length_map,List.length_map];exact Lib.splitB_all _ (by rw[d8];omega) 0 _ _ rfl
     have hbd:fE c ((nB (bl n x) []).map sV):=(kq c _).2 fun v hv=>by obtain⟨l,_,rfl⟩:=List.mem_map.1 hv;trivial
     obtain⟨E',hS,hE,hρ,hβ,hκ⟩:=hr.alloc (cf0 (ρ.t 9) (nB (bl n x) [])) (.cells ((Lib.splitB (ba 2 8236) 0 (Lib.countB (ba n x) (ba 2 8236)) (ba n x)).map Value.string).toArray (ρ.t 9)) ct 0 (fun b=>c b∨b=ct)
      (hf ct (ah _)) (.inr rfl) (fun _ h=> .inl h) (qF hbd fun _ h=> .inl h) (w.alloc (.cells ((Lib.splitB (ba 2 8236) 0 (Lib.countB (ba n x) (ba 2 8236)) (ba n x)).map Value.string).toArray (ρ.t 9))) rfl rfl rfl rfl
      (fun E' he _ hβ _=>vU he hbd hβ hcells)
     refine⟨E',fun b=>c b∨b=ct,?_,hS,.inr rfl,gc c ct⟩;simp only[conc,hρ,hβ,hlen]
   ·cases hgv
 ·cases hgv
def wf(F:RO):Option (Nat×Int):=match aV F 2 with
 |some (.cells ty n false fz true d c)=>bif Nat.beq n 1&&Nat.beq fz 1 then(match cell 1 d c 0 with
  |some (.i .i64 z)=>some (ty,z)
  |_=>none)else none
 |_=>none
theorem OJ{F:RO}{ty:Nat}{z:Int}(h:wf F=some (ty,z)):∃d c,aV F 2=some (.cells ty 1 false 1 true d c)∧cell 1 d c 0=some (.i .i64 z):=by
 unfold wf at h
 split at h
 ·rename_i ty' n fz d c hF;cases hh:Nat.beq n 1&&Nat.beq fz 1 with
  |false=>rw[hh]at h;cases h
  |true=>
   rw[hh,cond_true]at h;rw[aD,bp,bp]at hh;obtain rfl:=bc hh.1;obtain rfl:=bc hh.2;split at h
   ·rename_i z' hc;injection h with h;injection h with h1 h2
    subst h1 h2;exact⟨d,c,hF,hc⟩
   ·cases h
 ·cases h
def w9(ty:Nat)(z:Int):bq:= .cells ty 1 false 1 true [.i .i64 z] .e
theorem CX{x b:Nat}{blk:bq}{R:RO}:aV ((x,blk)::R) b=if x=b then some blk else aV R b:=by
 show Bool.rec (motive:=fun _=>Option bq) (aV R b) (some blk) (Nat.beq x b)=_
 rw[bb,bp]
 by_cases e:x=b
 ·rw[ac (by simpa using e),ac e]
 ·rw[ab (by simpa using e),ab e]
theorem aj0{F:RO}{L:List eT}{gs:List Nat}{ty:Nat→Nat}{q:Nat→Nat×Nat×Nat}{k x:Nat}(h:bA F L=true)(he:j4 F gs=true)(hx:(aV (vu (mc L ty) q gs k) x).isSome=true):x<1000:=by
 obtain⟨y,hy⟩:=bm.1 hx
 rcases qw hy with hy|⟨i,hi,_⟩
 ·obtain⟨t,ht,e,_⟩:=r6 hy;subst e;exact(iD h t ht).1
 ·exact(px he x (List.mem_of_getElem? hi)).1
theorem ao7{P:Program}{E:cE}{F:RO}{M:Mem}{c:Nat→Prop}{w:World}{L:List eT}{gs:List Nat}(hr:jl P E F M c w)(hglob:∀g,g<1000→E.ρ g=g∧E.β g=0)(h:bA F L=true)(he:j4 F gs=true)(hm:(wf F).isSome=true):
 ∃ty q tm z,jl P (qt E F gs) ((2,w9 tm z)::vu (mc L ty) q gs 1000) .e (fun x=>x<1000+gs.length) w:=by
 obtain⟨ty,q,h1⟩:=YV hr hglob h he
 obtain⟨⟨tm,z⟩,hq⟩:=bm.1 hm
 obtain⟨d,cc,hF,hc⟩:=OJ hq
 have hgl:∀g,g<1000→(qt E F gs).ρ g=g:=fun g hg=>((ei E F gs).ρ g hg).trans (hglob g hg).1
 have hl:look F M 2=some (.cells tm 1 false 1 true d cc):=by
  rw[aC (hr.apart 2 (by rw[hF];rfl))];exact hF
 obtain⟨_,hbd,obj,ho,arr,fr,rfl,hC⟩:=hr.has _ _ hl
 refine⟨ty,q,tm,z,⟨?_,?_,fun b hb=>rfl⟩⟩
 ·intro b blk hb;rw[aC (show(Tr.e:Mem).get b=none from rfl),CX]at hb;by_cases e:2=b
  ·rw[ac e]at hb;subst e;obtain rfl:=af hb;refine⟨show 2<1000+gs.length by omega,?_,_,by rw[hgl 2 (by decide),←(hglob 2 (by decide)).1];exact ho,arr,fr,rfl,?_,?_,?_,fun hh=>by cases hh⟩
   ·intro k v hv;rw[cd]at hv;split at hv
    ·obtain rfl:k=0:=by omega
     obtain rfl:=af hv;trivial
    ·cases hv
   ·intro k v hv;rw[cd]at hv;split at hv
    ·obtain rfl:k=0:=by omega
     obtain rfl:=af hv;have:=hC.cell 0 _ hc;rw[(ei E F gs).β 2 (show 2<1000 by decide),this];rfl
    ·cases hv
   ·have:=hC.size;rw[(ei E F gs).β 2 (show 2<1000 by decide),(ei E F gs).κ 2 (show 2<1000 by decide)];exact this
   ·rw[(ei E F gs).β 2 (show 2<1000 by decide)];exact hC.free
  ·rw[ab e]at hb;exact h1.has b blk (by rw[aC (show(Tr.e:Mem).get b=none from rfl)];exact hb)
 ·intro b b' g1 g2 e;have lt:∀x,(look ((2,w9 tm z)::vu (mc L ty) q gs 1000) .e x).isSome→x<1000:=by
   intro x hx;rw[aC (show(Tr.e:Mem).get x=none from rfl),CX]at hx;by_cases e:2=x
   ·omega
   ·rw[ab e]at hx;exact aj0 h he hx
  rw[hgl b (lt b g1),hgl b' (lt b' g2)]at e;exact e
def Ah(L:List eT)(gs:List Nat):RO→List V→Mem→Nat→RC:=fun F args M ct=>match args with|[]=>bif (bA F L&&j4 F gs)&&(wf F).isSome then .k (.b true) M ct else .f|_=> .f
theorem Fc{F:RO}{L:List eT}{gs:List Nat}(h:bA F L=true)(h':j4 F gs=true)(hm:(wf F).isSome=true)(M:Mem)(c:Nat):Ah L gs F [] M c= .k (.b true) M c:=by
 show(bif (bA F L&&j4 F gs)&&(wf F).isSome then RC.k (.b true) M c else .f)=_
 rw[h,h',hm];rfl
theorem wh{P:Program}(hm:P.follows .mixedOrders=true){Φ:Nat→Option CF}(hΦ:fo P Φ){fuel f n:Nat}{L:List eT}{gs:List Nat}(hn:1000+gs.length=n)
 (h:∀ty q tm z,isT (cf1 Φ fuel ((2,w9 tm z)::vu (mc L ty) q gs 1000) f n)=true):ce P f (Ah L gs):=by
 subst hn
 intro F args M ct v N ct' hg E c w hr hglob hbig hf ha
 cases args with
 |cons a r=>cases hg
 |nil=>
  have hg':(bif (bA F L&&j4 F gs)&&(wf F).isSome then RC.k (.b true) M ct else .f)= .k v N ct':=hg;cases ht:(bA F L&&j4 F gs)&&(wf F).isSome with
  |false=>rw[ht]at hg';cases hg'
  |true=>
   rw[ht]at hg';rw[aD,aD]at ht;have hg2:RC.k (.b true) M ct= .k v N ct':=hg';injection hg2 with e1 e2 e3
   subst e1 e2 e3;obtain⟨ty,q,tm,z,hrel⟩:=ao7 hr hglob ht.1.1 ht.1.2 ht.2;obtain⟨M',ct2,hk⟩:=Yi (h ty q tm z);have hgl:∀g,g<1000→(qt E F gs).ρ g=g∧(qt E F gs).β g=0:=fun g hg=>⟨((ei E F gs).ρ g hg).trans (hglob g hg).1,((ei E F gs).β g hg).trans (hglob g hg).2⟩;obtain⟨fn,h1,h2,h3,hC⟩:=ir (rd:=none) (fn:=0) (F₀:=[]) hΦ (vv hm hΦ fuel) ((2,w9 tm z)::vu (mc L ty) q gs 1000) f [] .e (1000+gs.length) (.b true) M' ct2 hk (qt E F gs) (fun x=>x<1000+gs.length) w hrel hgl (fun g hg=>Nat.lt_of_lt_of_le hg (Nat.le_add_right _ _)) (fun b hb hc=>Nat.lt_irrefl _ (Nat.lt_of_lt_of_le hc hb)) trivial;refine⟨fn,h1,h2,h3,hC.mono ?_⟩;rintro e w' ⟨E',c',rfl,hS,hb,hG⟩;have hfr:∀r,r<w.heap.size→w'.heap[r]?=w.heap[r]?:=fun r hr'=>hS.frame r hr' (fun b hb=>by cases hb);have hhas:∀b blk,look F M b=some blk→c b∧f6 c blk∧ ∃o,w'.heap[E.ρ b]?=some o∧eY P E b blk o:=by
    intro b blk hb;obtain⟨g1,g2,o,ho,g3⟩:=hr.has b blk hb;exact⟨g1,g2,o,by rw[hfr _ (Array.getElem?_eq_some_iff.1 ho).1];exact ho,g3⟩
   exact⟨E,c,rfl,⟨.refl c E,fun _ h=>h,⟨hhas,hr.inj,hr.apart⟩,fun b hb=> .inl ⟨b,hb,rfl⟩,fun r hr' _=>hfr r hr',hS.size,hS.os,hS.output,hS.tape⟩,trivial,.refl _ _⟩
theorem bf4{P:Program}{W:World}{C:Nat}{t:TypeId}(h:W.ShapedOpen P)(hg:2<P.globals.size)(h0:((begin P (fun _ _=>0) default).world.heap[2]?).bind Obj.row?=some (#[.int .i64 0],t))
 (hb:P.buildable t=true) (hc:P.cellTypes P.depth t=some [t]) (hu:P.underlying t=some (.int .i64)):(wf (cQ W C)).isSome=true:=by
 obtain⟨m,hm⟩:=Go.Proofs.cell_of_shapedOpen_int h hg h0 rfl hb hc hu
 obtain⟨cs,hh,hs,_⟩:=h.1 2 _ t hg h0
 have hs1:cs.size=1:=hs
 obtain⟨x,hx⟩:∃x,cs=#[x]:=Array.size_eq_one_iff.1 hs1
 subst hx
 have hx:x= .int .i64 m:=by
  unfold World.cell? at hm;rw[hh]at hm;exact af hm
 subst hx
 have hv2:rx C (.int .i64 m)=some (.i .i64 m):=rfl
 have hcell:cell (#[Value.int .i64 m]).size [] (iW ((#[Value.int .i64 m]).toList.map (rx C)) 0 .e) 0=some (.i .i64 m):=(iw (ty:=t)).2 ⟨_,rfl,hv2⟩
 have hcell':cell 1 [] (iW ((#[Value.int .i64 m]).toList.map (rx C)) 0 .e) 0=some (.i .i64 m):=hcell
 unfold wf
 rw[iv,hh]
 show Option.isSome (bif Nat.beq 1 1&&Nat.beq 1 1 then(match cell 1 [] (iW ((#[Value.int .i64 m]).toList.map (rx C)) 0 .e) 0 with
  |some (.i .i64 z)=>some (t,z)
  |_=>none)else none)=true
 rw[hcell']
 rfl
theorem CA{H:Type}{enc:TypeId×Value→H}{C:Checked}{os:Os}{f:FuncId}{fn:Func}{s:ChangeSpec}{conds:List PathCond}{apart fresh handsOn mS:Bool}{X:World→Array Value→Prop}
 (hX:∀(w w':World) (args:Array Value),w.heap=w'.heap→X w args→X w' args) (own:ownKnob C.prog.godebug=none) (started:os.Started) (noInit:C.prog.inits.idxOf? f=none) (hfn:C.prog.funcs[f]?=some fn)
 (wit:∃(w:World) (tape:Tape) (i:Input),w.os=os∧(w.forCall tape i).Shaped C.prog∧i.vars=[]∧Input.okWide C.prog (w.forCall tape i) .any w.heap.size f i∧
  ((s.pre enc C.prog fn conds apart (w.forCall tape i).memory i.args∧X (w.forCall tape i).memory i.args)∧sizedMet enc C.prog fn (OpenSpec.ofChange s) apart (w.forCall tape i).memory i.args)∧({}:Assume).holds C.prog (lone (Frame.enter C.prog f i.args .normal) [] (w.forCall tape i)))
 (k:∀(W:World) (base:Nat) (args:Array Value) (ds gs:List (DataW H)) (before:List MemPlace),W.ShapedOpen C.prog→
  (∀(j:Nat) t v,fn.params[j]?=some t→args[j]?=some v→Value.okWide C.prog W .any base t v)→DataW.Whole enc C.prog fn.params.toList s.vars apart W args.toList ds gs before→
  conds.all (PathCond.test C.prog ⟨fn.params.toList,ds,s.plain.varTypes C.prog,gs⟩)=true→(DataW.weightsEach C.prog (fn.params.toList++s.plain.varTypes C.prog) (ds++gs)).all (· ≤reachBytes)=true→X W args→
  Go.Calls C.prog f args W fun e W'=>∃v,e= .returned v∧s.post enc C.prog fn apart fresh handsOn mS W args v W'):
 ReturnsInHanded {} C os f .any (fun w args=>(s.pre enc C.prog fn conds apart w args∧X w args)∧sizedMet enc C.prog fn (OpenSpec.ofChange s) apart w args) (s.post enc C.prog fn apart fresh handsOn mS):=by
 refine returnsInHanded_of_calls own started noInit wit ?_
 intro w tape i _ hsh _ hok hpre _
 have hval:∀(j:Nat) t v,fn.params[j]?=some t→i.args[j]?=some v→Value.okWide C.prog (w.forCall tape i) .any w.heap.size t v:=by
  obtain⟨_,_,_,fn',h1,_,_,_,_,h2⟩:=hok;rw[hfn]at h1;obtain rfl:=af h1;exact h2
 obtain⟨⟨⟨ds,gs,before,hw,hc⟩,hx⟩,hz⟩:=hpre
 refine(k _ _ _ ds gs before hsh hval (DataW.Whole.of_heap (w':=w.forCall tape i) (by rfl) hw) hc (hz.weights hw) (hX _ _ _ (by rfl) hx)).mono ?_
 rintro e W' ⟨v,rfl,hp⟩
 exact ChangeSpec.post_blind hp
theorem Po{P:Program}{E:cE}{F:RO}{M:Mem}{c:Nat→Prop}{w w':World}(hr:jl P E F M c w)(hb:RowKit.Below w.heap.size w w'):lw P F E M c w E M c w' where
 ext:= .refl c E
 le:=fun _ h=>h
 rel:={
  has:=fun b blk hbk=>by
   obtain⟨h1,h2,o,ho,h3⟩:=hr.has b blk hbk;exact⟨h1,h2,o,(hb.block _ (Array.getElem?_eq_some_iff.1 ho).1).trans ho,h3⟩
  inj:=hr.inj
  apart:=hr.apart}
 own:=fun b hb=> .inl ⟨b,hb,rfl⟩
 frame:=fun r hr _=>hb.block r hr
 size:=hb.size
 os:=hb.os
 output:=hb.output
 tape:=hb.tape
def BJ(P:Program)(g13 g3 g4:Nat)(F:RO):Prop:=∀(E:cE) (M:Mem) (c:Nat→Prop) (w:World),jl P E F M c w→(∀g,g<1000→E.ρ g=g∧E.β g=0)→Lib.CaseVar g13 Lib.caseA w∧Lib.Utf8Tabs g3 g4 w
open Classical in
def Fj(P:Program)(g13 g3 g4:Nat):RO→List V→Mem→Nat→RC:=fun F args M ct=>match args with
 |[.s n x]=>if n<35184372088832∧BJ P g13 g3 g4 F then .k (sV (Lib.toLowerD (bl n x))) M ct else .f
 |_=> .f
open Classical in
theorem al3{P:Program}{g13 g3 g4:Nat}{F:RO}{M:Mem}{ct:Nat}{s:List UInt8}(hs:s.length<35184372088832)(h:BJ P g13 g3 g4 F):Fj P g13 g3 g4 F [sV s] M ct= .k (sV (Lib.toLowerD s)) M ct:=by
 show(if s.length<35184372088832∧BJ P g13 g3 g4 F then RC.k (sV (Lib.toLowerD (bl s.length (bH s)))) M ct else .f)=_
 rw[ac ⟨hs,h⟩,iM]
theorem ah0(E:cE)(l:List UInt8):conc E (sV l)= .string ⟨l.toArray⟩:=by
 show Value.string (ba l.length (bH l))=_
 congr 1
 show(⟨(bl l.length (bH l)).toArray⟩:ByteArray)=_
 rw[iM]
theorem OP{P:Program}{ρ:Ren}(L:Lays.n159 P ρ)(X:Builder.Extra P ρ){f g13 g3 g4:Nat}(hf:ρ.f 159=f)(h13:ρ.g 13=g13)(h3:ρ.g 3=g3)(h4:ρ.g 4=g4)
 {fn:Func} (hfn:P.funcs[f]?=some fn) (hb:fn.body.isNone=false) (hn:(fn.name== "runtime.NumGoroutine")=false):ce P f (Fj P g13 g3 g4):=by
 subst hf h13 h3 h4
 intro F args M ct v N ct' hgv E c w hr hglob hbig hfr ha
 unfold Fj at hgv
 split at hgv
 ·rename_i n x;split at hgv
  ·rename_i hc;injection hgv with e1 e2 e3
   subst e1 e2 e3;obtain⟨hV,hT⟩:=hc.2 E M c w hr hglob;refine⟨fn,hfn,hb,hn,?_⟩;have hcall:=Go.Proofs.Any.strings_ToLower_any L X (ba n x) w (by rw[d8];exact hc.1) hV hT;have hargs:(aw E [.s n x]).toArray=#[.string (ba n x)]:=rfl;rw[hargs];refine hcall.mono ?_;rintro e w' ⟨rfl,hbl⟩;refine⟨E,c,?_,Po hr hbl,trivial,j2.refl c ct⟩;rw[ah0,eV]
  ·cases hgv
 ·cases hgv
theorem yN{P:Program}{W:World}{C:Nat}{E:cE}{M:Mem}{c:Nat→Prop}{w:World}(hr:jl P E (cQ W C) M c w){r o:Nat}{x:Value}{v:V}(h:W.cell? ⟨r,o,none⟩=some x)(hv:rx C x=some v):
 w.cell? ⟨E.ρ r,E.β r+o,none⟩=some (conc E v):=by
 unfold World.cell? at h
 split at h
 ·rename_i cs ty fr hh;have h':cs[o]?=some x:=h;have hh':W.heap[r]?=some (.cells cs ty fr):=hh;have hg:aV (cQ W C) r=some (.cells ty cs.size false cs.size true [] (iW (cs.toList.map (rx C)) 0 .e)):=by
   rw[iv,hh'];rfl
  have hM:=hr.apart r (by rw[hg];rfl);have hl:look (cQ W C) M r=some (.cells ty cs.size false cs.size true [] (iW (cs.toList.map (rx C)) 0 .e)):=by rw[aC hM];exact hg
  obtain⟨_,_,o',ho,arr,fr',rfl,hC⟩:=hr.has r _ hl;have hcell:=hC.cell o v ((iw (ty:=ty)).2 ⟨x,h',hv⟩);unfold World.cell?;simp only[ho];exact hcell
 ·cases h
theorem iT{P:Program}{W:World}{C:Nat}{E:cE}{M:Mem}{c:Nat→Prop}{w:World}(hr:jl P E (cQ W C) M c w){r o:Nat}{k:IntKind}{z:Int}(h:W.cell? ⟨r,o,none⟩=some (.int k z)):
 w.cell? ⟨E.ρ r,E.β r+o,none⟩=some (.int k z):=yN hr (v:= .i k z) h rfl
theorem OG{P:Program}{W:World}{C g13 g3 g4:Nat}(hC:W.heap.size≤C)(l13:g13<1000)(l3:g3<1000)(l4:g4<1000)(hV:Lib.CaseVar g13 Lib.caseA W)(hT:Lib.Utf8Tabs g3 g4 W):BJ P g13 g3 g4 (cQ W C):=by
 intro E M c w hr hglob
 constructor
 ·obtain⟨R,oR,cap,h1,h2⟩:=hV;have h336:0<Lib.caseA.size:=by decide+kernel
  obtain⟨ra,rb,he,hlt⟩:=vf (h2 0 h336).1;have hR:R<C:=by
   have:R=ra:=congrArg Addr.block he;omega
  have k1:=yN hr (v:= .l R oR Lib.caseA.size cap) h1 (ac ⟨rfl,hR⟩);rw[(hglob g13 l13).1,(hglob g13 l13).2]at k1;refine⟨E.ρ R,E.β R+oR,cap,k1,fun i hi=>?_⟩;obtain⟨q0,q1,q2,q3,q4⟩:=h2 i hi;have q0:=iT hr q0;have q1:=iT hr q1;have q2:=iT hr q2;have q3:=iT hr q3;have q4:=iT hr q4;simp only[Nat.add_assoc]at q0 q1 q2 q3 q4⊢;exact⟨q0,q1,q2,q3,q4⟩
 ·refine⟨fun k hk=>?_,fun i hi=>?_⟩
  ·have:=iT hr (hT.1 k hk);rw[(hglob g3 l3).1,(hglob g3 l3).2,Nat.zero_add]at this;exact this
  ·have a:=iT hr (hT.2 i hi).1;have b:=iT hr (hT.2 i hi).2;rw[(hglob g4 l4).1,(hglob g4 l4).2,Nat.zero_add]at a b;exact⟨a,b⟩
variable{Φ:Nat→Option CF}{rd:Option Nat}{fn:Nat}{F:RO}
theorem zx{F:RO}{x:Nat}{blk:bq}:∀{L:List eT},(∀t∈L,t.1≠x)→bA ((x,blk)::F) L=bA F L
 |[],_=>rfl
 |t::r,h=>by
  have h1:=h t (bK ..);show(Nat.blt t.1 1000&&(jY ((x,blk)::F) t&&bA ((x,blk)::F) r))=(Nat.blt t.1 1000&&(jY F t&&bA F r))
  rw[zx fun t ht=>h t (bz _ ht)];have:jY ((x,blk)::F) t=jY F t:=by
   unfold jY;rw[cM,ab (fun e=>h1 e.symm)]
  rw[this]
theorem kH{L:List eT}(mask:Nat):∀(reads:List (Nat×Nat)) (F:RO) (M:Mem) (s:List (Nat×bq)) {F':RO} {M':Mem} {s':List (Nat×bq)},bB mask reads F M s=Pr.mk F' M' s'→bA F L=true→(∀t∈L,M.get t.1=none)→bA F' L=true
 |[],F,M,s,F',M',s',h,ht,_=>by
  cases h;exact ht
 |(i,x)::r,F,M,s,F',M',s',h,ht,hn=>by
  rw[bB]at h;cases hb:testBit mask i with
  |true=>rw[hb]at h;exact kH mask r F M s h ht hn
  |false=>
   rw[hb]at h;have h:(match M.get x with|none=>bB mask r F M s|some blk=>(M.del x).force fun M=>bB mask r ((x,blk)::F) M ((x,blk)::s))=Pr.mk F' M' s':=h;cases hx:M.get x with
   |none=>rw[hx]at h;exact kH mask r F M s h ht hn
   |some blk=>
    rw[hx]at h;have h:(M.del x).force (fun M=>bB mask r ((x,blk)::F) M ((x,blk)::s))=Pr.mk F' M' s':=h;rw[Tr.force_eq]at h;have hne:∀t∈L,t.1≠x:=fun t htm e=>by have:=hn t htm;rw[e,hx]at this;cases this
    exact kH mask r _ _ _ h ((zx hne).trans ht) fun t htm=>by rw[Tr.get_del,ab (hne t htm)];exact hn t htm
theorem b49{f:Nat}{h:List V→Option V}{L:List eT}(hf:Φ f=some (.orc (eQ L h)))(ht:bA F L=true){M:Mem}(hM:bF M F=true)(hn:∀t∈L,M.get t.1=none)(base i mask:Nat)(dst:Option aH)(as0:List X)(r:List (Nat×Nat×CO))(t:T)(c:Nat)(reads:List (Nat×Nat))(R:DS→Prop):
 mz base ((i,mask,.mk dst (.e (.call f as0)) none)::r) (K Φ rd fn F) (.mk t M c [] reads) R=H1 (h (evs as0 t)) dst base r (K Φ rd fn F) t M c reads R:=by
 have hd:ui (K Φ rd fn F) base (i,mask,.mk dst (.e (.call f as0)) none) (.mk t M c [] reads)=(match h (evs as0 t)with|some v=>some (DS.mk (setT t dst v) M c [] reads)|none=>none):=by
  obtain⟨F',M',s',h1,h2,h3⟩:=gy mask reads F M [] hM;have ht':=kH mask reads F M [] h1 ht hn;show rK (.call f as0) (K Φ rd fn F) dst t c [] reads (bB mask reads F M [])=_;rw[h1];show(bif cz F' M' []then lM F' dst t [] reads s' (cu (iu Φ) F' f (evs as0 t) M' c (Φ f))else none)=_;rw[hf];show lM F' dst t [] reads s' (eQ L h F' (evs as0 t) M' c)=_;rw[en ht'];cases hv:h (evs as0 t)with
  |none=>rfl
  |some v=>
   show(bif bF M' F'&&cz F' M' []then(b7 s' M').force fun M=>(setT t dst v).force fun t=>some (DS.mk t M c [] reads)else none)=_;rw[h2];show(b7 s' M').force (fun M=>(setT t dst v).force fun t=>some (DS.mk t M c [] reads))=_;rw[Tr.force_eq,Tr.force_eq,h3];rfl
 rw[fR,hd]
 cases h (evs as0 t)with
 |none=>
  apply propext;constructor
  ·rintro⟨s,h,_⟩;cases h
  ·intro h;exact h.elim
 |some v=>
  apply propext;constructor
  ·rintro⟨s,h,hr⟩;obtain rfl:=af h;exact hr
  ·intro h;exact⟨_,rfl,h⟩
theorem Dc{M:Mem}{c:Nat}{L:List eT}(ok:d9 F M c)(ht:bA F L=true):∀t∈L,M.get t.1=none:=fun t h=>ok.ap _ (by
 have:=(iD ht t h).2
 unfold jY at this
 cases hr:aV F t.1 with
 |none=>rw[hr]at this;cases this
 |some _=>rfl)
theorem cq5{f:Nat}{h:List V→Option V}(hf:Φ f=some (.orc (bg h))){M:Mem}(hM:bF M F=true)(base i mask:Nat)(dst:Option aH)(as0:List X)(r:List (Nat×Nat×CO))(t:T)(c:Nat)(reads:List (Nat×Nat))(R:DS→Prop):
 mz base ((i,mask,.mk dst (.e (.call f as0)) none)::r) (K Φ rd fn F) (.mk t M c [] reads) R=H1 (h (evs as0 t)) dst base r (K Φ rd fn F) t M c reads R:=by
 have hd:ui (K Φ rd fn F) base (i,mask,.mk dst (.e (.call f as0)) none) (.mk t M c [] reads)=(match h (evs as0 t)with|some v=>some (DS.mk (setT t dst v) M c [] reads)|none=>none):=by
  obtain⟨F',M',s',h1,h2,h3⟩:=gy mask reads F M [] hM;show rK (.call f as0) (K Φ rd fn F) dst t c [] reads (bB mask reads F M [])=_;rw[h1];show(bif cz F' M' []then lM F' dst t [] reads s' (cu (iu Φ) F' f (evs as0 t) M' c (Φ f))else none)=_;rw[hf];show lM F' dst t [] reads s' (bg h F' (evs as0 t) M' c)=_;unfold bg;cases hv:h (evs as0 t)with
  |none=>rfl
  |some v=>
   show(bif bF M' F'&&cz F' M' []then(b7 s' M').force fun M=>(setT t dst v).force fun t=>some (DS.mk t M c [] reads)else none)=_;rw[h2];show(b7 s' M').force (fun M=>(setT t dst v).force fun t=>some (DS.mk t M c [] reads))=_;rw[Tr.force_eq,Tr.force_eq,h3];rfl
 rw[fR,hd]
 cases h (evs as0 t)with
 |none=>
  apply propext;constructor
  ·rintro⟨s,h,_⟩;cases h
  ·intro h;exact h.elim
 |some v=>
  apply propext;constructor
  ·rintro⟨s,h,hr⟩;obtain rfl:=af h;exact hr
  ·intro h;exact⟨_,rfl,h⟩
theorem cd2(o:Option V):qr o= .f∨ ∃y,qr o= .v y:=by cases o with
 |none=>exact .inl rfl
 |some v=>exact .inr ⟨v,rfl⟩
theorem ah5{F:RO}(len sz:Nat)(x i:X)(M:Mem)(t:T):oB (.ixA1 len sz x i) F M t=oV (Cz len sz (x.ev t) (i.ev t)):=by
 refine(gO ?_).trans (congrArg oV (ZC (F:=F) len sz x i M t))
 intro F' M'
 refine lc ?_
 show((Fr (x.ev t) QR.f fun cs=>qC len sz cs (oA (i.ev t)))= .f∨ ∃y,(Fr (x.ev t) QR.f fun cs=>qC len sz cs (oA (i.ev t)))= .v y)
 cases x.ev t with
 |g cs=>
  show qC len sz cs (oA (i.ev t))= .f∨ ∃y,qC len sz cs (oA (i.ev t))= .v y;cases oA (i.ev t)with
  |none=>exact .inl rfl
  |some n=>
   show(bif Nat.blt n len then qr (xX cs (Nat.mul n sz))else QR.f)= .f∨ ∃y,(bif Nat.blt n len then qr (xX cs (Nat.mul n sz))else QR.f)= .v y;cases Nat.blt n len with
   |false=>exact .inl rfl
   |true=>exact cd2 _
 |_=>exact .inl rfl
theorem Yx{P:Program}{ρ:Ren}(L:Lays.n159 P ρ)(X:CaseExtra P ρ)(Y:U8Extra P ρ){l:List (String×DataW Unit)}{W:World}(hL:laidMet P l W){C:Nat}(hC:W.heap.size≤C)
 (l13:ρ.g 13<1000) (l3:ρ.g 3<1000) (l4:ρ.g 4<1000)
 {d1 d2 d3:DataW Unit} (e1:d1=Go.Lib.caseData) (e2:d2=Go.Lib.firstData) (e3:d3=Go.Lib.acceptData)
 (m1:("unicode.CaseRanges",d1)∈l) (m2:("unicode/utf8.first",d2)∈l) (m3:("unicode/utf8.acceptRanges",d3)∈l):BJ P (ρ.g 13) (ρ.g 3) (ρ.g 4) (cQ W C):=by
 subst e1 e2 e3
 exact OG hC l13 l3 l4 (caseVar_of_reads (ρ:=ρ) {L with} L.t206 X (Go.Lib.laidMet.reads hL m1)) (utf8Tabs_of_reads (ρ:=ρ) {L with} Y (Go.Lib.laidMet.reads hL m2) (Go.Lib.laidMet.reads hL m3))
end
end Go.Proofs.YtdnddpmjnlagfaaGreatDoor.Ev
