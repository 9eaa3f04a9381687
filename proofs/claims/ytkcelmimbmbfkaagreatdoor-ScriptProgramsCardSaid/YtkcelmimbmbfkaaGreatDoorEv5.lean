/- What is proved here: pieces of the evaluator's soundness: if the evaluator comes to a value, the model's run comes to it, for every world and tape; no conditions beyond the hypotheses of each theorem. -/
import Derived.Test.YtkcelmimbmbfkaaGreatDoorEv4
import Derived.Stop.LaidErr
import Derived.Shelf.Strings.Split
import Derived.Handed
import Derived.Shelf.Vars
set_option linter.unusedSimpArgs false
set_option linter.unusedVariables false
set_option linter.defProp false
set_option maxRecDepth 10000
set_option maxHeartbeats 4000000
namespace Go.Proofs.YtkcelmimbmbfkaaGreatDoor.Ev
open Go Go.RowKit Go.ChangeShapes Go.Shelf Go.Proofs
noncomputable section
abbrev a0:aE:= .h
abbrev z0:X:= .t a0
abbrev a1:aE:= .l a0
abbrev z1:X:= .t a1
abbrev a2:aE:= .r a0
abbrev z2:X:= .t a2
abbrev a3:aE:= .l a1
abbrev z3:X:= .t a3
abbrev a4:aE:= .r a1
abbrev z4:X:= .t a4
abbrev a5:aE:= .l a2
abbrev z5:X:= .t a5
abbrev a6:aE:= .r a2
abbrev z6:X:= .t a6
abbrev a7:aE:= .l a3
abbrev z7:X:= .t a7
abbrev a8:aE:= .r a3
abbrev z8:X:= .t a8
abbrev a9:aE:= .l a4
abbrev z9:X:= .t a9
abbrev cg:aE:= .r a4
abbrev cj:X:= .t cg
abbrev cI:aE:= .l a5
abbrev cD:X:= .t cI
abbrev de:aE:= .r a5
abbrev cS:X:= .t de
abbrev cH:aE:= .l a6
abbrev cR:X:= .t cH
abbrev db:aE:= .r a6
abbrev dD:X:= .t db
abbrev du:aE:= .l a7
abbrev dj:X:= .t du
abbrev dE:aE:= .r a7
abbrev dQ:X:= .t dE
abbrev dO:aE:= .l a8
abbrev dM:X:= .t dO
abbrev dY:aE:= .r a8
abbrev ey:X:= .t dY
abbrev eg:aE:= .l a9
abbrev eV:X:= .t eg
abbrev eQ:aE:= .r a9
abbrev eW:X:= .t eQ
abbrev dP:aE:= .l cg
abbrev fm:X:= .t dP
abbrev eB:aE:= .r cg
abbrev eX:X:= .t eB
abbrev ec:aE:= .l cI
abbrev fG:X:= .t ec
abbrev dH:aE:= .r cI
abbrev fH:X:= .t dH
abbrev eR:aE:= .l de
abbrev fJ:X:= .t eR
abbrev eD:aE:= .r de
abbrev fK:X:= .t eD
abbrev eJ:aE:= .l cH
abbrev fL:X:= .t eJ
abbrev fk:aE:= .r cH
abbrev g9:X:= .t fk
abbrev eE:aE:= .l db
abbrev gA:X:= .t eE
abbrev eY:aE:= .r db
abbrev gC:X:= .t eY
abbrev gH:aE:= .l du
abbrev gD:X:= .t gH
abbrev fo:aE:= .r du
abbrev iE:X:= .t fo
abbrev gu:aE:= .l dE
abbrev j1:X:= .t gu
abbrev gh:aE:= .r dE
abbrev ji:X:= .t gh
abbrev iq:aE:= .l dO
abbrev jj:X:= .t iq
abbrev j3:aE:= .r dO
abbrev jz:X:= .t j3
abbrev iO:aE:= .l dY
abbrev jk:X:= .t iO
abbrev ib:aE:= .r dY
abbrev kf:X:= .t ib
abbrev j4:aE:= .l eg
abbrev kq:X:= .t j4
abbrev gJ:aE:= .r eg
abbrev kO:X:= .t gJ
abbrev jL:aE:= .l eQ
abbrev kr:X:= .t jL
abbrev ja:aE:= .r eQ
abbrev l5:X:= .t ja
abbrev jA:aE:= .l dP
abbrev lJ:X:= .t jA
abbrev jB:aE:= .r dP
abbrev lM:X:= .t jB
abbrev kl:aE:= .l eB
abbrev mE:X:= .t kl
abbrev kg:aE:= .r eB
abbrev mR:X:= .t kg
abbrev km:aE:= .l ec
abbrev lN:X:= .t km
abbrev jb:aE:= .r ec
abbrev n6:X:= .t jb
abbrev ga:aE:= .l dH
abbrev mS:X:= .t ga
abbrev mU:aE:= .r dH
abbrev oG:X:= .t mU
abbrev ko:aE:= .l eR
abbrev oH:X:= .t ko
abbrev jC:aE:= .r eR
abbrev pq:X:= .t jC
abbrev ig:aE:= .l eD
abbrev oL:X:= .t ig
abbrev lK:aE:= .r eD
abbrev qc:X:= .t lK
abbrev nh:aE:= .l eJ
abbrev pv:X:= .t nh
abbrev ky:aE:= .r eJ
abbrev oM:X:= .t ky
abbrev l6:aE:= .l fk
abbrev qd:X:= .t l6
abbrev lL:aE:= .r fk
abbrev qf:X:= .t lL
abbrev oO:aE:= .l eE
abbrev rv:X:= .t oO
abbrev n7:aE:= .r eE
abbrev rx:X:= .t n7
abbrev l7:aE:= .l eY
abbrev rB:X:= .t l7
abbrev oJ:aE:= .r eY
abbrev ry:X:= .t oJ
abbrev ni:aE:= .l gH
abbrev rz:X:= .t ni
abbrev oP:aE:= .r gH
abbrev ww:X:= .t oP
abbrev oK:aE:= .l fo
abbrev sE:X:= .t oK
abbrev nj:aE:= .r fo
abbrev u6:X:= .t nj
abbrev oQ:aE:= .l gu
abbrev uu:X:= .t oQ
abbrev lP:aE:= .r gu
abbrev uv:X:= .t lP
abbrev nk:aE:= .l gh
abbrev u7:X:= .t nk
abbrev sI:aE:= .r gh
abbrev uw:X:= .t sI
abbrev sJ:aE:= .l iq
abbrev wy:X:= .t sJ
abbrev rF:aE:= .r iq
abbrev wU:X:= .t rF
abbrev uE:aE:= .l j3
abbrev wV:X:= .t uE
abbrev wC:aE:= .r j3
abbrev A2:X:= .t wC
abbrev wH:aE:= .l iO
abbrev A3:X:= .t wH
abbrev sK:aE:= .r iO
abbrev A4:X:= .t sK
abbrev x5:aE:= .l ib
abbrev C2:X:= .t x5
abbrev Ad:aE:= .r ib
abbrev ER:X:= .t Ad
abbrev Ae:aE:= .l j4
abbrev IY:X:= .t Ae
abbrev yG:aE:= .r j4
abbrev IZ:X:= .t yG
abbrev yH:aE:= .l gJ
abbrev XQ:X:= .t yH
abbrev Cm:aE:= .r gJ
abbrev Lk:X:= .t Cm
abbrev Cn:aE:= .l jL
abbrev XR:X:= .t Cn
abbrev uF:aE:= .r jL
abbrev Ll:X:= .t uF
abbrev EY:aE:= .l ja
abbrev Lw:X:= .t EY
abbrev EZ:aE:= .r ja
abbrev Lm:X:= .t EZ
abbrev F2:aE:= .l jA
abbrev XS:X:= .t F2
abbrev F3:aE:= .r jA
abbrev XT:X:= .t F3
abbrev A1:aE:= .l jB
abbrev XU:X:= .t A1
abbrev F4:aE:= .r jB
abbrev XV:X:= .t F4
abbrev F5:aE:= .l kl
abbrev Ln:X:= .t F5
abbrev F6:aE:= .r kl
abbrev XW:X:= .t F6
abbrev F7:aE:= .l kg
abbrev XX:X:= .t F7
abbrev Co:aE:= .r kg
abbrev Y4:X:= .t Co
abbrev F8:aE:= .l km
abbrev z95:X:= .t F8
abbrev Lq:aE:= .r km
abbrev XY:X:= .t Lq
abbrev Lr:aE:= .l jb
abbrev z97:X:= .t Lr
abbrev Lt:aE:= .r jb
abbrev z98:X:= .t Lt
abbrev Jk:aE:= .l ga
abbrev Y5:X:= .t Jk
abbrev tB:aE:= .r ga
abbrev A0:X:= .t tB
abbrev oI:aE:= .l mU
abbrev wv:X:= .t oI
abbrev qk:aE:= .r mU
abbrev EJ:X:= .t qk
abbrev tC:aE:= .l ko
abbrev EK:X:= .t tC
abbrev A7:aE:= .r ko
abbrev EL:X:= .t A7
abbrev yz:aE:= .l jC
abbrev C1:X:= .t yz
abbrev A8:aE:= .r jC
abbrev EM:X:= .t A8
abbrev jK:aE:= .l ig
abbrev EN:X:= .t jK
abbrev Cd:aE:= .r ig
abbrev EP:X:= .t Cd
abbrev A9:aE:= .l lK
abbrev Lb:X:= .t A9
abbrev Aa:aE:= .r lK
abbrev EQ:X:= .t Aa
abbrev Ce:aE:= .l nh
abbrev Xr:X:= .t Ce
abbrev Cf:aE:= .r nh
abbrev Lc:X:= .t Cf
abbrev Cg:aE:= .l ky
abbrev Ld:X:= .t Cg
abbrev Ch:aE:= .r ky
abbrev Le:X:= .t Ch
abbrev la:aE:= .l l6
abbrev Lf:X:= .t la
abbrev Ci:aE:= .r l6
abbrev Lg:X:= .t Ci
abbrev J2:aE:= .l lL
abbrev Xs:X:= .t J2
abbrev J3:aE:= .r lL
abbrev Xt:X:= .t J3
abbrev Cj:aE:= .l oO
abbrev Lh:X:= .t Cj
abbrev J4:aE:= .r oO
abbrev Xu:X:= .t J4
abbrev uB:aE:= .l n7
abbrev Xv:X:= .t uB
abbrev J5:aE:= .r n7
abbrev Xw:X:= .t J5
abbrev J6:aE:= .l l7
abbrev Xx:X:= .t J6
abbrev yA:aE:= .r l7
abbrev Xy:X:= .t yA
abbrev yB:aE:= .l oJ
abbrev Xz:X:= .t yB
abbrev J7:aE:= .r oJ
abbrev XA:X:= .t J7
abbrev J8:aE:= .l ni
abbrev XB:X:= .t J8
abbrev yC:aE:= .r ni
abbrev XC:X:= .t yC
abbrev yD:aE:= .l oP
abbrev XD:X:= .t yD
abbrev J9:aE:= .r oP
abbrev XE:X:= .t J9
abbrev Ja:aE:= .l oK
abbrev XF:X:= .t Ja
abbrev Jb:aE:= .r oK
abbrev XG:X:= .t Jb
abbrev Jc:aE:= .l nj
abbrev XH:X:= .t Jc
abbrev yE:aE:= .r nj
abbrev XI:X:= .t yE
abbrev Jd:aE:= .l oQ
abbrev XJ:X:= .t Jd
abbrev Je:aE:= .r oQ
abbrev XK:X:= .t Je
abbrev Jf:aE:= .l lP
abbrev XL:X:= .t Jf
abbrev Ck:aE:= .r lP
abbrev Li:X:= .t Ck
abbrev wG:aE:= .l nk
abbrev Lj:X:= .t wG
abbrev Jg:aE:= .r nk
abbrev XM:X:= .t Jg
abbrev Jh:aE:= .l sI
abbrev XN:X:= .t Jh
abbrev Ji:aE:= .r sI
abbrev XO:X:= .t Ji
abbrev LF:aE:= .l sJ
abbrev ag4:X:= .t LF
abbrev Ab:aE:= .r sJ
abbrev ag5:X:= .t Ab
abbrev LG:aE:= .l rF
abbrev ag6:X:= .t LG
abbrev Jj:aE:= .r rF
abbrev XP:X:= .t Jj
abbrev LH:aE:= .l uE
abbrev ag7:X:= .t LH
abbrev LI:aE:= .r uE
abbrev ag8:X:= .t LI
abbrev tD:aE:= .l wC
abbrev ag9:X:= .t tD
abbrev LJ:aE:= .r wC
abbrev ah0:X:= .t LJ
abbrev LL:aE:= .l wH
abbrev ah1:X:= .t LL
abbrev LM:aE:= .r wH
abbrev ah2:X:= .t LM
abbrev LN:aE:= .l sK
abbrev ah3:X:= .t LN
abbrev yF:aE:= .r sK
abbrev ah4:X:= .t yF
abbrev uC:aE:= .l x5
abbrev ah5:X:= .t uC
abbrev LQ:aE:= .r x5
abbrev ah6:X:= .t LQ
abbrev LT:aE:= .l Ad
abbrev ah7:X:= .t LT
abbrev LU:aE:= .r Ad
abbrev ah8:X:= .t LU
abbrev LV:aE:= .l Ae
abbrev ah9:X:= .t LV
abbrev tE:aE:= .r Ae
abbrev ai0:X:= .t tE
abbrev LW:aE:= .l yG
abbrev ai1:X:= .t LW
abbrev LX:aE:= .r yG
abbrev ai2:X:= .t LX
abbrev LY:aE:= .l yH
abbrev ai3:X:= .t LY
abbrev LZ:aE:= .r yH
abbrev ai4:X:= .t LZ
abbrev uD:aE:= .l Cm
abbrev ai5:X:= .t uD
abbrev M9:aE:= .r Cm
abbrev ai6:X:= .t M9
abbrev Ya:aE:= .l Cn
abbrev bq7:X:= .t Ya
abbrev Yb:aE:= .r Cn
abbrev bq8:X:= .t Yb
abbrev Mb:aE:= .l uF
abbrev bq9:X:= .t Mb
abbrev Cl:aE:= .r uF
abbrev br0:X:= .t Cl
abbrev Yc:aE:= .l EY
abbrev br1:X:= .t Yc
abbrev bt8:aE:= .r EY
abbrev cE2:X:= .t bt8
abbrev bt9:aE:= .l EZ
abbrev cE3:X:= .t bt9
abbrev bu0:aE:= .r EZ
abbrev cE4:X:= .t bu0
abbrev Yd:aE:= .l F2
abbrev cE5:X:= .t Yd
abbrev bu1:aE:= .r F2
abbrev cE6:X:= .t bu1
abbrev bu2:aE:= .l F3
abbrev cE7:X:= .t bu2
abbrev bu3:aE:= .r F3
abbrev cE8:X:= .t bu3
abbrev Ac:aE:= .l A1
abbrev cE9:X:= .t Ac
abbrev bu4:aE:= .r A1
abbrev cF0:X:= .t bu4
abbrev bu5:aE:= .l F4
abbrev cF1:X:= .t bu5
abbrev bu6:aE:= .r F4
abbrev cF2:X:= .t bu6
abbrev bu7:aE:= .l F5
abbrev cF3:X:= .t bu7
abbrev bu8:aE:= .r F5
abbrev cF4:X:= .t bu8
abbrev bu9:aE:= .l F6
abbrev cF5:X:= .t bu9
abbrev bv0:aE:= .r F6
abbrev cF6:X:= .t bv0
abbrev Ye:aE:= .l F7
abbrev cF7:X:= .t Ye
abbrev bv1:aE:= .r F7
abbrev cF8:X:= .t bv1
abbrev bv2:aE:= .l Co
abbrev cF9:X:= .t bv2
abbrev bv3:aE:= .r Co
abbrev cG0:X:= .t bv3
abbrev Yf:aE:= .l F8
abbrev cG1:X:= .t Yf
abbrev bv4:aE:= .r F8
abbrev cG2:X:= .t bv4
abbrev bv5:aE:= .l Lq
abbrev cG3:X:= .t bv5
abbrev bv6:aE:= .r Lq
abbrev cG4:X:= .t bv6
abbrev Mc:aE:= .l Lr
abbrev cG5:X:= .t Mc
abbrev bv7:aE:= .r Lr
abbrev cG6:X:= .t bv7
abbrev bv8:aE:= .l Lt
abbrev cG7:X:= .t bv8
abbrev bv9:aE:= .r Lt
abbrev cG8:X:= .t bv9
abbrev bw0:aE:= .l Jk
abbrev cG9:X:= .t bw0
abbrev Yg:aE:= .r Jk
abbrev cH0:X:= .t Yg
abbrev bw1:aE:= .l tB
abbrev cH1:X:= .t bw1
abbrev bw2:aE:= .r tB
abbrev cH2:X:= .t bw2
abbrev bw3:aE:= .l oI
abbrev cH3:X:= .t bw3
abbrev Md:aE:= .r oI
abbrev cH4:X:= .t Md
abbrev bw4:aE:= .l qk
abbrev cH5:X:= .t bw4
abbrev bw5:aE:= .r qk
abbrev cH6:X:= .t bw5
abbrev bw6:aE:= .l tC
abbrev cH7:X:= .t bw6
abbrev bw7:aE:= .r tC
abbrev cH8:X:= .t bw7
abbrev sk1:T:= .n .e none .e
abbrev mN:T:= .n sk1 none sk1
abbrev iC:T:= .n mN none mN
abbrev l8:T:= .n iC none iC
abbrev mr:T:= .n l8 none l8
abbrev tk:T:= .n mr none mr
abbrev sk7:T:= .n tk none tk
abbrev kp(u:List (Option V))(a:Nat):T:= .n .e (uO u a) .e
abbrev eH(u:List (Option V))(a b c:Nat):T:= .n (kp u a) (uO u b) (kp u c)
abbrev ay(u:List (Option V))(a b c d e f g:Nat):T:= .n (eH u a b c) (uO u d) (eH u e f g)
abbrev qq(d:aE)(o:QO):CO:=⟨some d,.q o,none⟩
abbrev US(d:aE)(o:AO)(g:aE):CO:=⟨some d,.a o,some (g,true)⟩
abbrev tM(d:aE)(o:EO)(g:aE):CO:=⟨some d,.e o,some (g,false)⟩
abbrev ed(d:aE)(o:EO)(g:aE):CO:=⟨some d,.e o,some (g,true)⟩
abbrev aL(d:aE)(o:QO)(g:aE):CO:=⟨some d,.q o,some (g,false)⟩
abbrev ak(d:aE)(o:QO)(g:aE):CO:=⟨some d,.q o,some (g,true)⟩
abbrev aa(d:aE)(o:AO):CO:=⟨some d,.a o,none⟩
abbrev ee(d:aE)(o:EO):CO:=⟨some d,.e o,none⟩
abbrev ez(o:EO):CO:=⟨none,.e o,none⟩
abbrev x6(n:Int):X:= .c (.i .i64 n)
abbrev xT:X:= .c (.b true)
abbrev xF:X:= .c (.b false)
theorem wu{b b1:CC}(h:b=b1)(k:Kn)(s:St)(R:Ex→St→Prop):Wp b k s R=Wp b1 k s R:=congrArg (fun x=>Wp x k s R) h
def ce(L:List gF)(h:List V→Option V):RO→List V→Mem→Nat→RC:=fun F args M c=>bif bB F L then ofO (h args) M c else .f
theorem eu{L:List gF}{F:RO}(ht:bB F L=true)(h:List V→Option V)(args:List V)(M:Mem)(c:Nat):ce L h F args M c=ofO (h args) M c:=by
 show(bif bB F L then ofO (h args) M c else .f)=_
 rw[ht];rfl
theorem Wt{F:RO}{M:Mem}{L:List gF}(ht:bB F L=true)(hap:∀b,(aZ F b).isSome→M.get b=none){g:Nat}{k:IntKind}{zs:List Int}(hm:(g,k,zs)∈L){i:Nat}{z:Int}(hz:zs[i]?=some z):load1 F M g i=some (.i k z):=by
 obtain⟨_,hin⟩:=kd ht _ hm
 unfold rq at hin
 split at hin
 ·rename_i ty n fz d cs hF;rw[aJ]at hin;obtain⟨h1,h2⟩:=mz hin.2
  have hg:M.get g=none:=hap g (by
   show(aZ F g).isSome=true;rw[show aZ F g=_ from hF];rfl)
  unfold load1;rw[aO hg,show aZ F g=_ from hF];have:=h2 i z hz
  rwa [Nat.zero_add]at this
 ·cases hin
theorem a09{L:List gF}{ty:Nat→Nat}{ct:Nat}(hL:∀t∈L,t.1<1000)(hc:1000≤ct):eA (mA L ty) .e ct:=by
 refine⟨fun b _=>rfl,fun b hb=>?_,fun b _=>rfl,hc⟩
 cases h:aZ (mA L ty) b with
 |none=>rfl
 |some x=>
  obtain⟨t,ht,e,_⟩:=rp h;have:=hL t ht;omega
theorem lC{P:Program}(hm:P.follows .mixedOrders=true){Φ:Nat→Option CF}(hΦ:eC P Φ){f:Nat}{L:List gF}{h:List V→Option V}
 (hh:∀args v ct ty,h args=some v→1000≤ct→bd (fun _=>False) v∧Calls Φ (mA L ty) f args .e ct fun r _ _=>r=v):bg P f (ce L h):=by
 intro F args M ct v N ct' hg E c w hr hglob hbig hf ha
 have hW:=b51 hr hbig hf ha
 cases ht:bB F L with
 |false=>
  have hg':(bif bB F L then ofO (h args) M ct else .f)= .k v N ct':=hg;rw[ht]at hg';cases hg'
 |true=>
  rw[eu ht]at hg;cases hx:h args with
  |none=>rw[hx]at hg;cases hg
  |some x=>
   rw[hx]at hg;have hg2:RC.k x M ct= .k v N ct':=hg;injection hg2 with e1 e2 e3
   subst e1 e2 e3;obtain⟨ty,hrel⟩:=vX hr hglob ht;obtain⟨hbv,r,M1,ct1,hcall,rfl⟩:=hh args x ct ty hx hW.ge;obtain⟨fn,h1,h2,h3,hC⟩:=iw (rd:=none) (fn:=0) (F₀:=[]) hΦ (D1 hm hΦ) (mA L ty) f args .e ct r M1 ct1 hcall E c w (hrel.more fun b hb=>hbig b hb) hglob hbig hf ha;refine⟨fn,h1,h2,h3,hC.mono ?_⟩;rintro e w' ⟨E',c',rfl,hS,hb,hG⟩;have hfr:∀r,r<w.heap.size→w'.heap[r]?=w.heap[r]?:=fun r hr'=>hS.frame r hr' (fun b hb=>by cases hb);have hhas:∀b blk,look F M b=some blk→c b∧ff c blk∧ ∃o,w'.heap[E.ρ b]?=some o∧fe P E b blk o:=by
    intro b blk hb;obtain⟨g1,g2,o,ho,g3⟩:=hr.has b blk hb;exact⟨g1,g2,o,by rw[hfr _ (Array.getElem?_eq_some_iff.1 ho).1];exact ho,g3⟩
   refine⟨E,c,?_,⟨.refl c E,fun _ h=>h,⟨hhas,hr.inj,hr.apart⟩,fun b hb=> .inl ⟨b,hb,rfl⟩,fun r hr' _=>hfr r hr',hS.size,hS.os,hS.output,hS.tape⟩,dw (fun b hb=>hb.elim) r hbv,.refl _ _⟩;rw[dB hS.ext r (dw (fun b hb=>hb.elim) r hbv)]
section
variable{Φ:Nat→Option CF}{rd:Option Nat}{fn:Nat}{F:RO}
def bg4:V→Option V
 | .p b o=>some (.p b o)
 | .f g h c=>some (.f g h c)
 | .y l=>some (.y l)
 | .a t v=>some (.a t v)
 |_=>none
theorem yt(x:X)(M:Mem)(t:T):(cY (.nck x) F M t).val=bg4 (x.ev t):=by
 show(nQ x F M t).val=_
 unfold nQ
 cases x.ev t<;>rfl
theorem kU(b o:Nat):bg4 (.p b o)=some (.p b o):=Eq.trans rfl (Eq.refl _)
theorem rP(x:X)(M:Mem)(t:T):oZ (.nck x) F M t=oV (bg4 (x.ev t)):=by
 refine(gR ?_).trans (congrArg oV (yt (F:=F) x M t))
 intro F' M'
 refine mM ?_
 show(nQ x F' M' t= .f∨ ∃y,nQ x F' M' t= .v y)
 unfold nQ
 cases x.ev t<;>first|exact .inl rfl|exact .inr ⟨_,rfl⟩
def cpV:V→Option V
 | .l0=>some (.i .i64 0)
 | .l _ _ _ c=>some (.i .i64 (c:Int))
 |_=>none
theorem cB0(x:X)(M:Mem)(t:T):(cY (.cp x) F M t).val=cpV (x.ev t):=by
 show(vQ x F M t).val=_
 unfold vQ
 cases x.ev t<;>rfl
theorem CY:cpV .l0=some (.i .i64 0):=Eq.trans rfl (Eq.refl _)
theorem Uv(x:X)(M:Mem)(t:T):oZ (.cp x) F M t=oV (cpV (x.ev t)):=by
 refine(gR ?_).trans (congrArg oV (cB0 (F:=F) x M t))
 intro F' M'
 refine mM ?_
 show(vQ x F' M' t= .f∨ ∃y,vQ x F' M' t= .v y)
 unfold vQ
 cases x.ev t<;>first|exact .inl rfl|exact .inr ⟨_,rfl⟩
def sdV:V→Option V
 | .l0=>some .p0
 | .l b o _ c=>if c=0 then none else some (.p b o)
 | .u b o _ el kn=>if el<kn then some (.p b o)else none
 |_=>none
theorem zC(x:X)(M:Mem)(t:T):vT x F M t=oV (sdV (x.ev t)):=by
 unfold vT
 cases x.ev t with
 |l b o n c=>
  show(bif Nat.beq c 0 then QR.f else .v (.p b o))=oV (if c=0 then none else some (.p b o));rw[bp];by_cases h:c=0
  ·rw[af h,ac h];rfl
  ·rw[ag h,ab h];rfl
 |u b o n el kn=>
  show(bif Nat.blt el kn then QR.v (.p b o)else .f)=oV (if el<kn then some (.p b o)else none);rw[eT];by_cases h:el<kn
  ·rw[af h,ac h];rfl
  ·rw[ag h,ab h];rfl
 |_=>rfl
theorem Vx(o:Option V):(oV o).val=o:=by cases o<;>rfl
theorem cB3(x:X)(M:Mem)(t:T):(cY (.sd x) F M t).val=sdV (x.ev t):=by
 show(vT x F M t).val=_
 rw[zC,Vx]
theorem Uw(x:X)(M:Mem)(t:T):oZ (.sd x) F M t=oV (sdV (x.ev t)):=by
 refine(gR ?_).trans (congrArg oV (cB3 (F:=F) x M t))
 intro F' M'
 show vT x F' M' t=oV (vT x [] .e t).val
 rw[zC,zC,Vx]
theorem bk0:sdV .l0=some .p0:=Eq.trans rfl (Eq.refl _)
theorem b05{b o n el kn:Nat}(h:el<kn):sdV (.u b o n el kn)=some (.p b o):=ac h
def upV(F:RO)(M:Mem)(x:V):Option V:=(cY (.up (.c x)) F M .e).val
theorem cB4(x:X)(M:Mem)(t:T):(cY (.up x) F M t).val=upV F M (x.ev t):=Eq.trans rfl (Eq.refl _)
theorem ae6{M:Mem}{b o ty n:Nat}{ex str:Bool}{fz:Nat}{d:List V}{t:T}(h:M.get b=some (.cells ty n ex fz str d t))(ho:o<n):upV F M (.p b o)=some (.p b o):=by
 show(qm (look F M b) QR.f fun n _ _=>bif Nat.blt o n then QR.r (.p b o) b else .f).val=_
 rw[am h]
 show(bif Nat.blt o n then QR.r (.p b o) b else .f).val=_
 rw[eT,af ho];rfl
def dnV(ty sz:Nat)(F:RO)(M:Mem)(x:V):Option V:=(cY (.dn ty sz (.c x)) F M .e).val
theorem cB1(ty sz:Nat)(x:X)(M:Mem)(t:T):(cY (.dn ty sz x) F M t).val=dnV ty sz F M (x.ev t):=Eq.trans rfl (Eq.refl _)
theorem YY{M:Mem}{b ty n:Nat}{str:Bool}{fz:Nat}{d:List V}{t:T}(h:M.get b=some (.cells ty n true fz str d t)):dnV ty n F M (.p b 0)=some (.p b 0):=by
 show(ba6 ty n b (look F M b)).val=_
 rw[am h]
 show(bif Nat.beq ty ty&&Nat.beq n n then QR.r (.p b 0) b else .f).val=_
 rw[Nat.beq_refl,Nat.beq_refl];rfl
def QV(r:QR):Prop:=r= .f∨ ∃y,r= .v y
theorem sk{r:QR}(b:Bool)(h:QV r):QV (bif b then r else .f):=by
 cases b with
 |false=>exact .inl rfl
 |true=>exact h
theorem Il{r s:QR}(b:Bool)(h:QV r)(h':QV s):QV (bif b then r else s):=by
 cases b with
 |false=>exact h'
 |true=>exact h
theorem VP(b o n c:Nat):QV (mkL b o n c):= .inr ⟨_,Dz b o n c⟩
theorem VQ(b o n e k:Nat):QV (mkU b o n e k):= .inr ⟨_,zp b o n e k⟩
theorem ad6(sz:Nat)(v:V)(a b d:Option Nat):QV (tZ sz v a b d):=by
 unfold tZ
 refine sk _ ?_
 cases v with
 |l b0 o len cap=>exact sk _ (VP _ _ _ _)
 |l0=>exact sk _ (.inr ⟨_,rfl⟩)
 |u b0 o len el kn=>
  cases d with
  |none=>exact sk _ (Il _ (VQ _ _ _ _ _) (Il _ (VQ _ _ _ _ _) (.inr ⟨_,by rw[aQ]⟩)))
  |some m=>exact sk _ (VP _ _ _ _)
 |ue b0 o0 o=>exact sk _ (.inr ⟨_,rfl⟩)
 |_=>exact .inl rfl
theorem bb8(sz:Nat)(x:X)(lo hi mx:Option X)(M:Mem)(t:T):oZ (.slL sz x lo hi mx) F M t=oV (zN sz (x.ev t) (lo.map fun x=>x.ev t) (hi.map fun x=>x.ev t) (mx.map fun x=>x.ev t)):=by
 refine(gR ?_).trans (congrArg oV (b12 (F:=F) sz x lo hi mx M t))
 intro F' M'
 refine mM ?_
 show QV (sj sz (x.ev t) (optNN t lo) (optNN t hi) (optNN t mx))
 cases optNN t lo with
 |none=>exact .inl rfl
 |some a=>
  cases optNN t hi with
  |none=>exact .inl rfl
  |some b=>
   cases optNN t mx with
   |none=>exact .inl rfl
   |some d=>exact ad6 _ _ _ _ _
def aj4(o:Option (V×bz))(base i:Nat)(p:aE)(r:List (Nat×Nat×CO))(k:Kn)(t:T)(M:Mem)(c:Nat)(pend:List (Nat×Nat×bz))(reads:List (Nat×Nat))(R:DS→Prop):Prop:=match o with
 |some x=>qj base r k (.mk (t.setP p x.1) M c ((i,base+i,x.2)::pend) reads) R
 |none=>False
theorem I0(v:V)(b:bz)(base i:Nat)(p:aE)(r:List (Nat×Nat×CO))(k:Kn)(t:T)(M:Mem)(c:Nat)(pend:List (Nat×Nat×bz))(reads:List (Nat×Nat))(R:DS→Prop):
 aj4 (some (v,b)) base i p r k t M c pend reads R=qj base r k (.mk (t.setP p v) M c ((i,base+i,b)::pend) reads) R:=Eq.trans rfl (Eq.refl _)
theorem af2(base i mask:Nat)(p:aE)(o:AO)(r:List (Nat×Nat×CO))(t:T)(M:Mem)(c:Nat)(pend:List (Nat×Nat×bz))(reads:List (Nat×Nat))(R:DS→Prop)(hl:(look F M (base+i)).isNone=true)(hr:dU (base+i) reads=true):
 qj base ((i,mask,.mk (some p) (.a o) none)::r) (K Φ rd fn F) (.mk t M c pend reads) R=aj4 (kP o (base+i) t) base i p r (K Φ rd fn F) t M c pend reads R:=by
 have he:wJ (K Φ rd fn F) base (i,mask,.mk (some p) (.a o) none) (.mk t M c pend reads)=D0 i (base+i) (some p) t M c pend reads (kP o (base+i) t):=by
  show(fN (Nat.add base i) fun b=>bif (look F M b).isNone&&dU b reads then D0 i b (some p) t M c pend reads (kP o b t)else none)=_;rw[aQ];show(bif (look F M (base+i)).isNone&&dU (base+i) reads then D0 i (base+i) (some p) t M c pend reads (kP o (base+i) t)else none)=_;rw[hl,hr];rfl
 apply propext
 rw[iL,he]
 cases kP o (base+i) t with
 |none=>exact⟨fun⟨s',h,_⟩=>(by cases h),False.elim⟩
 |some x=>
  have h2:D0 i (base+i) (some p) t M c pend reads (some x)=some (.mk (t.setP p x.1) M c ((i,base+i,x.2)::pend) reads):=by
   show((setT t (some p) x.1).force fun t=>some (DS.mk t M c ((i,base+i,x.2)::pend) reads))=_;rw[Tr.force_eq];rfl
  rw[h2];constructor
  ·rintro⟨s',h,q⟩;obtain rfl:=ae h;exact q
  ·exact fun q=>⟨_,rfl,q⟩
theorem kS(i b:Nat)(x:bz)(r:List (Nat×Nat×bz))(M:Mem):dT ((i,b,x)::r) M=dT r (M.set b x):=by
 show(M.set b x).force (fun M=>dT r M)=_
 rw[Tr.force_eq]
theorem jv(b:Nat):dU b []=true:=Eq.trans rfl (Eq.refl _)
theorem gd(b i b':Nat)(r:List (Nat×Nat))(h:b'≠b):dU b ((i,b')::r)=dU b r:=by
 show(bif Nat.beq b' b then false else dU b r)=_
 rw[bp,ag h];rfl
def qZ(ty n:Nat)(row:List V):bz:= .cells ty n false 0 false [] (iZ row)
def nzA(ty:Nat)(l:V)(b:Nat):Option (V×bz):=kP (.nz ty (.c l)) b .e
theorem b63(ty:Nat)(l:X)(b:Nat)(t:T):kP (.nz ty l) b t=nzA ty (l.ev t) b:=Eq.trans rfl (Eq.refl _)
theorem bP0(ty n b:Nat)(h:n≤1099511627776):nzA ty (.i .i64 (n:Int)) b=some (.u b 0 n 0 n,qZ ty n []):=by
 show(match Ff (.i .i64 (n:Int))with|some n=>bif Nat.ble n 1099511627776 then some (V.u b 0 n 0 n,bz.cells ty n false 0 false [] .e)else none|none=>none)=_
 show(bif Nat.ble n 1099511627776 then some (V.u b 0 n 0 n,bz.cells ty n false 0 false [] .e)else none)=_
 rw[bG,af h];rfl
theorem KH{n:Nat}{row:List V}(h:row.length≤n)(i:Nat)(hi:i<row.length):cell n [] (iZ row) i=row[i]?:=by
 rw[bY,ac (by omega)]
 unfold iZ
 rw[dk,ac (by omega)]
 simp only[Nat.sub_zero]
 rw[List.getElem?_eq_getElem hi]
theorem w8{M:Mem}{b ty n:Nat}{row:List V}(h:M.get b=some (qZ ty n row))(hn:row.length≤n):cP F M b 0 row:=fun k hk=>by
 rw[Nat.zero_add]
 unfold Ev.load1
 rw[am h]
 exact KH hn k hk
theorem DW{M:Mem}{b ty n:Nat}{row vs:List V}(h:M.get b=some (qZ ty n row))(hn:row.length+vs.length≤n)(h1:br vs=true):dA M b row.length vs=some (M.set b (qZ ty n (row++vs))):=by
 rw[sw h hn (aM _) h1]
 unfold qZ iZ
 have:=nF row vs 0 .e
 rw[Nat.zero_add]at this
 rw[this]
def sF(M:Mem)(c0 c b:Nat)(v:V)(l:List UInt8):Prop:=
 (l=[]∧v= .l0)∨(c0≤b∧b<c∧ ∃n,(l.length≤n∧0<n)∧v= .u b 0 l.length 0 n∧M.get b=some (qZ 5 n (l.map bV)))
theorem sF.up{M M':Mem}{c0 c c' b:Nat}{v:V}{l:List UInt8}(h:sF M c0 c b v l)(hc:c≤c')(hb:b<c→M'.get b=M.get b):sF M' c0 c' b v l:=by
 rcases h with h|⟨h1,h2,n,h3,h4,h5⟩
 ·exact .inl h
 ·exact .inr ⟨h1,by omega,n,h3,h4,by rw[hb h2];exact h5⟩
theorem b85{M0 M:Mem}{c0 c b:Nat}{v:V}{l s:List UInt8}(h:sF M c0 c b v l)(hg:Gr c0 M0 c M)(hr:kY (l.length+s.length) 1=true):
 wY (tF F M c 5 1 1 v (sV s)) fun v' M' c'=>∃b',sF M' c0 c' b' v' (l++s)∧Gr c0 M0 c' M'∧c≤c'∧(∀x,x<c→x≠b→M'.get x=M.get x)∧(b'=b∨c≤b'):=by
 unfold tF
 rw[ae1]
 have e1:kR F M c 5 1 1 v (some (s.length,s.map bV))=app F M c 5 1 1 v s.length (s.map bV):=by
  show(bif br (s.map bV)&&Nat.beq (s.map bV).length (Nat.mul s.length 1)then _ else _)=_;rw[gL,bp,af (show(s.map bV).length=Nat.mul s.length 1 by rw[List.length_map];exact(Nat.mul_one _).symm)];rfl
 rw[e1]
 have hmap:(l++s).map bV=l.map bV++s.map bV:=List.map_append
 by_cases hz:s=[]
 ·subst hz;have e2:app F M c 5 1 1 v 0 []= .k v M c:=by
   show(bif Nat.beq 0 0 then(bif xX v then RC.k v M c else .f)else _)=_;have:xX v=true:=by
    rcases h with⟨_,rfl⟩|⟨_,_,n,⟨hn,_⟩,rfl,_⟩
    ·rfl
    ·show Nat.ble l.length (Nat.sub n 0)=true;rw[bG];exact af hn
   rw[this];rfl
  exact⟨v,M,c,e2,b,by rw[di];exact h,hg,ah _,fun _ _ _=>rfl,.inl rfl⟩
 ·have hn0:s.length≠0:=fun e=>hz (List.length_eq_zero_iff.1 e);have grownEq:∀(N:Mem) (vs:List V) (k:Nat),kY k 1=true→vs.length=k→jW N c 5 1 k 0 false vs= .k (.u c 0 k 0 k) (N.set c (qZ 5 k vs)) (c+1):=by
   intro N vs k hk hv;rw[qH N c 5 1 k vs hk];unfold Bu qZ;rw[hv]
  rcases h with⟨rfl,rfl⟩|⟨ha,hb,n,⟨hn,hn1⟩,rfl,hM⟩
  ·rw[cF,Nat.zero_add]at hr;refine⟨_,_,_,(Fd hn0).trans (grownEq M (s.map bV) s.length hr (List.length_map ..)),c,.inr ⟨hg.le,by omega,s.length,⟨ah _,by omega⟩,rfl,?_⟩,hg.set c _ hg.le (by omega) (by omega),by omega,fun x hx _=>aq _ _ (by omega),.inr (ah _)⟩;rw[Tr.get_set,ac rfl];rfl
  ·by_cases hfit:l.length+s.length≤n
   ·have hst:=DW hM (vs:=s.map bV) (by rw[List.length_map,List.length_map];exact hfit) (gL s);rw[List.length_map]at hst;have e3:oR F M c 5 1 1 b 0 l.length 0 n s.length (s.map bV)= .k (.u b 0 (l.length+s.length) 0 n) (M.set b (qZ 5 n (l.map bV++s.map bV))) c:=by
     unfold oR;rw[bG,af (show Nat.add (Nat.add 0 l.length) s.length≤n by show 0+l.length+s.length≤n;omega),cond_true];unfold x8;rw[show Nat.add 0 (Nat.mul l.length 1)=l.length by show 0+l.length*1=l.length;omega,hst];show fN (l.length+s.length) (fun len=>RC.k (.u b 0 len 0 n) _ c)=_;rw[aQ]
    refine⟨_,_,_,(Ct hn0).trans e3,b,.inr ⟨ha,hb,n,⟨by rw[bE];exact hfit,hn1⟩,by rw[bE],?_⟩,hg.set b _ ha hb (ah _),ah _,fun x _ hxb=>aq _ _ hxb,.inl rfl⟩;rw[Tr.get_set,ac rfl,hmap]
   ·have hcl:=(w8 (F:=F) hM (by rw[List.length_map];exact hn))
    have hcl2:cP F M b 0 (l.map fun x=>[bV x]).flatten:=by rw[ix];exact hcl
    obtain⟨r,hrd⟩:=nR Nat.one_pos (es:=l.map fun x=>[bV x]) (fun e he=>by obtain⟨x,_,rfl⟩:=List.mem_map.1 he;rfl) hcl2;rw[List.length_map,ix]at hrd;have hmw:gT M b 5 (Nat.add 0 (Nat.mul l.length 1)) (Nat.add 0 (Nat.mul (Nat.sub n 0) 1))=some (0,false):=by
     unfold gT;rw[hM];show(bif Nat.beq 5 5&&Nat.beq n (0+(n-0)*1)&&Nat.ble 0 (0+l.length*1)&&Nat.ble (0+l.length*1) (0+(n-0)*1)then some (0,false)else none)=_;rw[bp,bp,bG,bG,af (show 5=5 from rfl),af (show n=0+(n-0)*1 by omega),af (aM _),af (show 0+l.length*1≤0+(n-0)*1 by omega)];rfl
    have e3:oR F M c 5 1 1 b 0 l.length 0 n s.length (s.map bV)= .k (.u c 0 (l.length+s.length) 0 (l.length+s.length)) ((M.del b).set c (qZ 5 (l.length+s.length) (l.map bV++s.map bV))) (c+1):=by
     unfold oR;rw[bG,ag (show¬Nat.add (Nat.add 0 l.length) s.length≤n by show¬0+l.length+s.length≤n;omega),cond_false,hmw];show(bif Nat.beq 0 0&&Nat.beq (n-0) l.length then Df (M.del b) c 5 1 (l.length+s.length) 0 false (s.map bV) (M.get b)else rT (M.del b) c 5 1 (l.length+s.length) 0 false (s.map bV) (readB F M 1 l.length b 0))=_;by_cases hnl:n=l.length
     ·rw[bp,bp,af rfl,af (show n-0=l.length from hnl),Bool.true_and,cond_true,hM,hnl];have:=xN (M.del b) c 5 1 (l.length+s.length) (l.map bV) (s.map bV) hr;rw[List.length_map]at this;unfold Bu at this;rw[bE,List.length_map,List.length_map]at this;exact this
     ·rw[bp,bp,af rfl,ag (show¬n-0=l.length from hnl),Bool.true_and,cond_false,hrd];exact grownEq _ _ _ hr (by rw[bE,List.length_map,List.length_map])
    refine⟨_,_,_,(Ct hn0).trans e3,c,.inr ⟨by omega,by omega,l.length+s.length,⟨by rw[bE];exact ah _,by omega⟩,by rw[bE],?_⟩,(hg.del b ha).set c _ (by omega) (by omega) (by omega),by omega,fun x hx hxb=>?_,.inr (ah _)⟩
    ·rw[Tr.get_set,ac rfl,hmap]
    ·rw[aq _ _ (by omega),Tr.get_del,ab hxb]
def b96(F:RO)(M:Mem)(c sz:Nat)(x y:V):RC:=Au sz (.c x) (.c y) F M c .e
theorem BX(sz:Nat)(x y:X)(M:Mem)(c:Nat)(t:T):iG (.cpy sz x y) (K Φ rd fn F) M c t=b96 F M c sz (x.ev t) (y.ev t):=Eq.trans rfl (Eq.refl _)
theorem b97(M:Mem)(c sz b o e k:Nat):b96 F M c sz (.u b o 0 e k) .l0= .k (.i .i64 0) M c:=by
 show fN (bif Nat.ble 0 0 then 0 else 0) (fun n=>bif Nat.beq n 0 then RC.k (.i .i64 0) M c else b99 M c n (.u b o 0 e k) (pD F M sz n .l0))=_
 rw[aQ];rfl
end
section
variable{Φ:Nat→Option CF}{rd:Option Nat}{fn:Nat}{F:RO}
def bt4(M M':Mem)(F F':RO)(s:List (Nat×bz)):Prop:=
 (∀b,(∃blk,(b,blk)∈s∧M'.get b=none∧M.get b=some blk)∨((∀blk,(b,blk)∉s)∧M'.get b=M.get b))∧(∀b,(aZ F' b).isSome→(∃blk,(b,blk)∈s)∨(aZ F b).isSome)∧(∀b blk,(b,blk)∈s→M.get b=some blk)
theorem js(mask:Nat)(M0:Mem)(F0:RO):∀(reads:List (Nat×Nat)) (F:RO) (M:Mem) (s:List (Nat×bz)),bt4 M0 M F0 F s→ ∃F' M' s',cQ mask reads F M s=Pr.mk F' M' s'∧bt4 M0 M' F0 F' s'
 |[],F,M,s,h=>⟨F,M,s,rfl,h⟩
 |(i,b)::r,F,M,s,h=>by
  rw[cQ];cases testBit mask i with
  |true=>exact js mask M0 F0 r F M s h
  |false=>
   rw[cond_false];cases hb:M.get b with
   |none=>exact js mask M0 F0 r F M s h
   |some blk=>
    show∃F' M' s',(M.del b).force (fun M=>cQ mask r ((b,blk)::F) M ((b,blk)::s))=Pr.mk F' M' s'∧_;rw[Tr.force_eq];refine js mask M0 F0 r _ _ _ ⟨fun x=>?_,fun x hx=>?_,fun x y hxy=>?_⟩
    ·rw[Tr.get_del];rcases h.1 x with⟨y,h1,h2,h3⟩|⟨h1,h2⟩
     ·refine .inl ⟨y,bc _ h1,?_,h3⟩;split
      ·rfl
      ·exact h2
     ·by_cases e:x=b
      ·subst e;rw[ac rfl];exact .inl ⟨blk,bh ..,rfl,by rw[←h2];exact hb⟩
      ·rw[ab e];refine .inr ⟨fun y hy=>?_,h2⟩;rcases bj.1 hy with hy|hy
       ·injection hy with e1 _;exact e e1
       ·exact h1 y hy
    ·rw[fD]at hx;by_cases e:b=x
     ·subst e;exact .inl ⟨blk,bh ..⟩
     ·rw[ab e]at hx;rcases h.2.1 x hx with⟨y,hy⟩|hy
      ·exact .inl ⟨y,bc _ hy⟩
      ·exact .inr hy
    ·rcases bj.1 hxy with hxy|hxy
     ·injection hxy with e1 e2
      subst e1 e2;rcases h.1 x with⟨z,k1,k2,k3⟩|⟨k1,k2⟩
      ·rw[k2]at hb;cases hb
      ·rw[←k2];exact hb
     ·exact h.2.2 x y hxy
theorem iK:∀(s:List (Nat×bz)) (N:Mem) (b:Nat),(∀blk,(b,blk)∉s)→(bO s N).get b=N.get b
 |[],N,b,h=>rfl
 |(x,y)::r,N,b,h=>by
  show((N.set x y).force fun N=>bO r N).get b=_;rw[Tr.force_eq,iK r _ b fun blk hb=>h blk (bc _ hb),aq];intro e;subst e;exact h y (bh ..)
theorem pp:∀(s:List (Nat×bz)) (N:Mem) (b:Nat) (blk:bz),(b,blk)∈s→(∀y,(b,y)∈s→y=blk)→(bO s N).get b=some blk
 |[],N,b,blk,h,_=>by cases h
 |(x,y)::r,N,b,blk,h,hu=>by
  show((N.set x y).force fun N=>bO r N).get b=_;rw[Tr.force_eq];by_cases hr:∃z,(b,z)∈r
  ·obtain⟨z,hz⟩:=hr;have:z=blk:=hu z (bc _ hz);subst this;exact pp r _ b z hz fun y hy=>hu y (bc _ hy)
  ·rw[iK r _ b fun z hz=>hr ⟨z,hz⟩];rcases bj.1 h with h|h
   ·injection h with e1 e2;subst e1 e2;exact aw _ _ _
   ·exact absurd ⟨blk,h⟩ hr
theorem BS{f:Nat}{v:V}{blk:bz}(base i mask:Nat)(dst:Option aE)(as0:List X)(r:List (Nat×Nat×CO))(t:T)(M:Mem)(c:Nat)(reads:List (Nat×Nat))(R:DS→Prop)(ok:eA F M c)
 (hf:∀(F':RO) (M':Mem),fu (mW Φ) F' f (evs as0 t) M' c (Φ f)= .k v (M'.set c blk) (c+1))
 (hk:∀N:Mem,N.get c=some blk→(∀b,b≠c→N.get b=M.get b)→qj base r (K Φ rd fn F) (.mk (setT t dst v) N (c+1) [] reads) R):
 qj base ((i,mask,.mk dst (.e (.call f as0)) none)::r) (K Φ rd fn F) (.mk t M c [] reads) R:=by
 obtain⟨F',M',s,hp,h1,h2,h3⟩:=js mask M F reads F M [] ⟨fun b=> .inr ⟨fun _ h=>(by cases h),rfl⟩,fun b h=> .inr h,fun b blk h=>(by cases h)⟩
 have hcs:∀y,(c,y)∉s:=by
  intro y hy;rcases h1 c with⟨z,g1,g2,g3⟩|⟨g1,g2⟩
  ·rw[ok.hiM c (ah _)]at g3;cases g3
  ·exact g1 y hy
 have hro:bN (M'.set c blk) F'=true:=sm _ _ fun b hb=>by
  have hbc:b≠c:=by
   intro e;subst e;rcases h2 b hb with⟨y,hy⟩|hy
   ·exact hcs y hy
   ·rw[ok.hiF b (ah _)]at hy;cases hy
  rw[aq _ _ hbc];rcases h1 b with⟨z,g1,g2,g3⟩|⟨g1,g2⟩
  ·exact g2
  ·rcases h2 b hb with⟨y,hy⟩|hy
   ·exact absurd hy (g1 y)
   ·rw[g2];exact ok.ap b hy
 have he:wJ (K Φ rd fn F) base (i,mask,.mk dst (.e (.call f as0)) none) (.mk t M c [] reads)=some (.mk (setT t dst v) (bO s (M'.set c blk)) (c+1) [] reads):=by
  show wK (.call f as0) (K Φ rd fn F) dst t c [] reads (cQ mask reads F M [])=_;rw[hp];show(bif cW F' M' []then qz F' dst t [] reads s (fu (mW Φ) F' f (evs as0 t) M' c (Φ f))else none)=_;rw[hf];show(bif bN (M'.set c blk) F'&&cW F' (M'.set c blk) []then(bO s (M'.set c blk)).force fun M=>(setT t dst v).force fun t=>some (DS.mk t M (c+1) [] reads)else none)=_;rw[hro];show(bO s (M'.set c blk)).force (fun M=>(setT t dst v).force fun t=>some (DS.mk t M (c+1) [] reads))=_;rw[Tr.force_eq,Tr.force_eq]
 rw[iL]
 refine⟨_,he,hk _ ?_ fun b hb=>?_⟩
 ·rw[iK _ _ _ hcs];exact aw _ _ _
 ·rcases h1 b with⟨z,g1,g2,g3⟩|⟨g1,g2⟩
  ·rw[pp s _ b z g1 fun y hy=>?_,g3];have:=h3 b y hy;rw[g3]at this;exact(ae this).symm
  ·rw[iK _ _ _ g1,aq _ _ hb,g2]
end
theorem cb5{Φ:Nat→Option CF}{rd:Option Nat}{fn:Nat}{F:RO}(base i mask j b:Nat)(blk:bz)(dst:Option aE)(o:EO)(r:List (Nat×Nat×CO))(t:T)(M:Mem)(c:Nat)(reads:List (Nat×Nat))(R:DS→Prop)(hj:(mask/2^j%2==1)=true)(hb:CJ mask reads=true):
 qj base ((i,mask,.mk dst (.e o) none)::r) (K Φ rd fn F) (.mk t M c [(j,b,blk)] reads) R=EW (iG o (K Φ rd fn F) (M.set b blk) c t) F dst base r (K Φ rd fn F) t reads R:=by
 have hp:=lT hb
 have hj':testBit mask j=true:=by
  show Nat.beq (Nat.mod (Nat.div mask (Nat.pow 2 j)) 2) 1=true;rw[bp];exact af (show mask/2^j%2=1 by simpa using hj)
 have hmg:je mask [(j,b,blk)] M=(M.set b blk,[]):=by
  show(bif testBit mask j then(M.set b blk).force (fun M=>je mask [] M)else _)=_;rw[hj',cond_true,Tr.force_eq];rfl
 have he:wJ (K Φ rd fn F) base (i,mask,.mk dst (.e o) none) (.mk t M c [(j,b,blk)] reads)=qz F dst t [] reads [] (iG o (K Φ rd fn F) (M.set b blk) c t):=by
  show Aq o (K Φ rd fn F) mask dst t c reads (je mask [(j,b,blk)] M)=_;rw[hmg];show wK o (K Φ rd fn F) dst t c [] reads (cQ mask reads F (M.set b blk) [])=_;rw[hp];rfl
 apply propext
 rw[iL,he]
 cases hd:iG o (K Φ rd fn F) (M.set b blk) c t with
 |f=>exact⟨fun⟨s',h,_⟩=>(by cases h),False.elim⟩
 |k v M' c'=>
  have h2:qz F dst t [] reads [] (.k v M' c')=if bN M' F=true then some (DS.mk (setT t dst v) M' c' [] reads)else none:=by
   show(bif bN M' F&&cW F M' []then(bO [] M').force fun M=>(setT t dst v).force fun t=>some (DS.mk t M c' [] reads)else none)=_;cases hr:bN M' F with
   |false=>rfl
   |true=>
    show((bO [] M').force fun M=>(setT t dst v).force fun t=>some (DS.mk t M c' [] reads))=_;rw[Tr.force_eq,Tr.force_eq];rfl
  rw[h2];show _↔(bN M' F=true∧qj base r (K Φ rd fn F) (.mk (setT t dst v) M' c' [] reads) R);cases hr:bN M' F with
  |false=>exact⟨fun⟨s',h,_⟩=>(by simp at h),fun h=>(by cases h.1)⟩
  |true=>
   constructor
   ·rintro⟨s',h,q⟩;simp only[if_true]at h;obtain rfl:=ae h;exact⟨rfl,q⟩
   ·exact fun h=>⟨_,rfl,h.2⟩
def bF(F:RO)(g:Nat):Prop:=∃t b o,∀M:Mem,M.get g=none→load1 F M g 0=some (.a t (.p b o))
theorem CU{W:World}{a:Addr}{v:Value}(h:W.cell? a=some v):∃r o,a=⟨r,o,none⟩∧r<W.heap.size:=by
 obtain⟨r,o,sp⟩:=a
 unfold World.cell? at h
 split at h
 ·rename_i cs ty fr hh;have hlt:r<W.heap.size:=(Array.getElem?_eq_some_iff.1 hh).1;cases sp with
  |none=>exact⟨r,o,rfl,hlt⟩
  |some k=>simp at h
 ·cases h
def pF(F:RO)(g:Nat):Option (Nat×Nat×Nat×Nat):=match aZ F g with
 |some (.cells ty n false fz true d c)=>bif Nat.beq n 1&&Nat.beq fz 1 then(match cell 1 d c 0 with
  |some (.a t (.p b o))=>some (ty,t,b,o)
  |_=>none)else none
 |_=>none
theorem xG{F:RO}{g ty t b o:Nat}(h:pF F g=some (ty,t,b,o)):∃d c,aZ F g=some (.cells ty 1 false 1 true d c)∧cell 1 d c 0=some (.a t (.p b o)):=by
 unfold pF at h
 split at h
 ·rename_i ty' n fz d c hF;cases hh:Nat.beq n 1&&Nat.beq fz 1 with
  |false=>rw[hh]at h;cases h
  |true=>
   rw[hh,cond_true]at h;rw[aJ,bp,bp]at hh;obtain rfl:=aP hh.1;obtain rfl:=aP hh.2;split at h
   ·rename_i t' b' o' hc;injection h with h;injection h with h1 h;injection h with h2 h;injection h with h3 h4
    subst h1 h2 h3 h4;exact⟨d,c,hF,hc⟩
   ·cases h
 ·cases h
def j6(F:RO):List Nat→Bool
 |[]=>true
 |g::r=>Nat.blt g 1000&&((pF F g).isSome&&j6 F r)
theorem pG{F:RO}:∀{L:List Nat},j6 F L=true→ ∀g∈L,g<1000∧ ∃ty t b o,pF F g=some (ty,t,b,o)
 |[],_,g,hg=>by cases hg
 |x::r,h,g,hg=>by
  have h':(Nat.blt x 1000&&((pF F x).isSome&&j6 F r))=true:=h;rw[aJ,aJ,eT]at h';rcases bj.1 hg with e|hg'
  ·subst e;obtain⟨⟨ty,t,b,o⟩,hq⟩:=bn.1 h'.2.1;exact⟨aP h'.1,ty,t,b,o,hq⟩
  ·exact pG h'.2.2 g hg'
theorem xH{F:RO}{g:Nat}(h:(pF F g).isSome=true):bF F g:=by
 obtain⟨⟨ty,t,b,o⟩,hq⟩:=bn.1 h
 obtain⟨d,c,hF,hc⟩:=xG hq
 refine⟨t,b,o,fun M hM=>?_⟩
 unfold Ev.load1
 rw[aO hM,hF]
 exact hc
def D6(ty t k o:Nat):bz:= .cells ty 1 false 1 true [.a t (.p k o)] .e
def vd(F:RO)(q:Nat→Nat×Nat×Nat):List Nat→Nat→RO
 |[],_=>F
 |g::r,k=>(g,D6 (q g).1 (q g).2.1 k (q g).2.2)::vd F q r (Nat.succ k)
theorem qE{F:RO}{q:Nat→Nat×Nat×Nat}:∀{L:List Nat} {k b:Nat} {blk:bz},aZ (vd F q L k) b=some blk→aZ F b=some blk∨ ∃i,L[i]?=some b∧blk=D6 (q b).1 (q b).2.1 (k+i) (q b).2.2
 |[],k,b,blk,h=> .inl h
 |g::r,k,b,blk,h=>by
  have h':Bool.rec (motive:=fun _=>Option bz) (aZ (vd F q r (k+1)) b) (some (D6 (q g).1 (q g).2.1 k (q g).2.2)) (Nat.beq g b)=some blk:=h;rw[bb,bp]at h';by_cases e:g=b
  ·rw[ac (by simpa using e)]at h';subst e;exact .inr ⟨0,rfl,(ae h').symm⟩
  ·rw[ab (by simpa using e)]at h';rcases qE h' with h|⟨i,h1,h2⟩
   ·exact .inl h
   ·exact .inr ⟨i+1,h1,by rw[h2,show k+1+i=k+(i+1) by omega]⟩
def D7(F:RO)(L:List Nat)(i:Nat):Nat:=match L[i]? with
 |some g=>(match pF F g with|some (_,_,b,_)=>b|none=>0)
 |none=>0
def qD(E:cT)(F:RO)(L:List Nat):cT:=⟨fun x=>if x<1000 then E.ρ x else E.ρ (D7 F L (x-1000)),fun x=>if x<1000 then E.β x else E.β (D7 F L (x-1000)),fun x=>if x<1000 then E.κ x else E.κ (D7 F L (x-1000))⟩
theorem en(E:cT)(F:RO)(L:List Nat):qe (fun x=>x<1000) E (qD E F L):=⟨fun b hb=>ac hb,fun b hb=>ac hb,fun b hb=>ac hb⟩
theorem VT{P:Program}{E:cT}{F:RO}{M:Mem}{c:Nat→Prop}{w:World}{L:List gF}{gs:List Nat}(hr:kj P E F M c w)(hglob:∀g,g<1000→E.ρ g=g∧E.β g=0)(h:bB F L=true)(he:j6 F gs=true):
 ∃ty q,kj P (qD E F gs) (vd (mA L ty) q gs 1000) .e (fun x=>x<1000+gs.length) w:=by
 obtain⟨ty,hT⟩:=vX hr hglob h
 have hall:=pG he
 have hgl:∀g,g<1000→(qD E F gs).ρ g=g:=fun g hg=>((en E F gs).ρ g hg).trans (hglob g hg).1
 refine⟨ty,fun g=>match pF F g with|some (ty,t,_,o)=>(ty,t,o)|none=>(0,0,0),⟨?_,?_,fun b hb=>rfl⟩⟩
 ·intro b blk hb;rw[aO (show(Tr.e:Mem).get b=none from rfl)]at hb;rcases qE hb with hb|⟨i,hi,rfl⟩
  ·obtain⟨h1,h2,o,h3,h4⟩:=hT.has b blk (by rw[aO (show(Tr.e:Mem).get b=none from rfl)];exact hb);have h1':b<1000:=h1;exact⟨Nat.lt_of_lt_of_le h1' (Nat.le_add_right _ _),fp (fun x (hx:x<1000)=>Nat.lt_of_lt_of_le hx (Nat.le_add_right _ _)) blk h2,o,by rw[hgl b h1',←(hglob b h1').1];exact h3,h4.ext (en E F gs) h1' h2⟩
  ·have hm:=List.mem_of_getElem? hi;obtain⟨hb1,ty',t,b',o,hq⟩:=hall b hm;obtain⟨d,cc,hF,hc⟩:=xG hq;have hl:look F M b=some (.cells ty' 1 false 1 true d cc):=by
    rw[aO (hr.apart b (by rw[hF];rfl))];exact hF
   obtain⟨_,hbd,obj,ho,arr,fr,rfl,hC⟩:=hr.has _ _ hl;have hil:i<gs.length:=(List.getElem?_eq_some_iff.1 hi).1;have hn:D7 F gs i=b':=by unfold D7;rw[hi];simp only[hq]
   simp only[hq];refine⟨Nat.lt_of_lt_of_le hb1 (Nat.le_add_right _ _),?_,_,by rw[hgl b hb1,←(hglob b hb1).1];exact ho,arr,fr,rfl,?_,?_,?_,fun hh=>by cases hh⟩
   ·intro k v hv;rw[bY]at hv;split at hv
    ·obtain rfl:k=0:=by omega
     obtain rfl:=ae hv;show 1000+i<1000+gs.length;omega
    ·cases hv
   ·intro k v hv;rw[bY]at hv;split at hv
    ·obtain rfl:k=0:=by omega
     obtain rfl:=ae hv;have:=hC.cell 0 _ hc;rw[(en E F gs).β b hb1,this];show some (Value.iface t (.pointer (some ⟨E.ρ b',E.β b'+o,none⟩)))=some (Value.iface t (.pointer (some ⟨(qD E F gs).ρ (1000+i),(qD E F gs).β (1000+i)+o,none⟩)));have e1:(qD E F gs).ρ (1000+i)=E.ρ b':=by
      show(if 1000+i<1000 then _ else E.ρ (D7 F gs (1000+i-1000)))=_;rw[ab (by omega),show 1000+i-1000=i by omega,hn]
     have e2:(qD E F gs).β (1000+i)=E.β b':=by
      show(if 1000+i<1000 then _ else E.β (D7 F gs (1000+i-1000)))=_;rw[ab (by omega),show 1000+i-1000=i by omega,hn]
     rw[e1,e2]
    ·cases hv
   ·have:=hC.size;show arr.size=(qD E F gs).β b+1+(qD E F gs).κ b*_;rw[(en E F gs).β b hb1,(en E F gs).κ b hb1];exact this
   ·rw[(en E F gs).β b hb1];exact hC.free
 ·intro b b' h1 h2 e
  have lt:∀x,(look (vd (mA L ty) (fun g=>match pF F g with|some (ty,t,_,o)=>(ty,t,o)|none=>(0,0,0)) gs 1000) .e x).isSome→x<1000:=by
   intro x hx;obtain⟨y,hy⟩:=bn.1 hx;rw[aO (show(Tr.e:Mem).get x=none from rfl)]at hy;rcases qE hy with hy|⟨i,hi,_⟩
   ·exact(hT.has x y (by rw[aO (show(Tr.e:Mem).get x=none from rfl)];exact hy)).1
   ·exact(hall x (List.mem_of_getElem? hi)).1
  rw[hgl b (lt b h1),hgl b' (lt b' h2)]at e;exact e
def bV9(Φ:Nat→Option CF)(fuel:Nat)(F:RO)(f n:Nat):RC:=fu (exec Φ fuel) F f [] .e n (Φ f)
theorem Hs{P:Program}{n nm:String}{text:List UInt8}{r:List (String×DataW Unit)}{W:World}{C g:Nat}{ti tp te ts:TypeId}{ms:Array (String×TypeId)}{f:Field}
 (hC:W.heap.size≤C) (h:laidMet P ((n,.iface nm (.ptr (.agg [.lit (.string text)])))::r) W)
 (hg:P.globalNamed n=some g) (ht:(P.globals[g]?).map (·.type)=some ti) (hi:P.underlying ti=some (.interface ms)) (hrow:∀u,P.typeName? 3 u=some nm→u=tp)
 (hp:P.underlying tp=some (.pointer te)) (he:P.underlying te=some (.struct #[f])) (hft:f.type=ts) (hfo:f.offset=0) (hs:P.underlying ts=some .string) (hc:P.cellsOf te=1) (hcs:P.cellsOf ts=1):
 (pF (dJ W C) g).isSome=true:=by
 obtain⟨a,s,hv,hca,_,_⟩:=laid_sentinel h hg ht hi hrow hp he hft hfo hs hc hcs
 obtain⟨rb,o,rfl,hlt⟩:=CU hca
 have hv2:u5 C (.iface tp (.pointer (some ⟨rb,o,none⟩)))=some (.a tp (.p rb o)):=ac (Nat.lt_of_lt_of_le hlt hC)
 unfold World.var? at hv
 rw[hg]at hv
 simp only[Option.bind_some]at hv
 split at hv
 ·rename_i cs ty fr hh;obtain rfl:=ae hv;have hcell:cell (#[Value.iface tp (.pointer (some ⟨rb,o,none⟩))]).size [] (jZ ((#[Value.iface tp (.pointer (some ⟨rb,o,none⟩))]).toList.map (u5 C)) 0 .e) 0=some (.a tp (.p rb o)):=(jF (ty:=ty)).2 ⟨_,rfl,hv2⟩;unfold pF;rw[jE];have hh':W.heap[g]?=some (.cells #[Value.iface tp (.pointer (some ⟨rb,o,none⟩))] ty fr):=hh;rw[hh'];show Option.isSome (bif Nat.beq 1 1&&Nat.beq 1 1 then(match cell 1 [] (jZ ((#[Value.iface tp (.pointer (some ⟨rb,o,none⟩))]).toList.map (u5 C)) 0 .e) 0 with
   |some (.a t (.p b o))=>some (ty,t,b,o)
   |_=>none)else none)=true
  have hcell':cell 1 [] (jZ ((#[Value.iface tp (.pointer (some ⟨rb,o,none⟩))]).toList.map (u5 C)) 0 .e) 0=some (.a tp (.p rb o)):=hcell;rw[hcell'];rfl
 ·cases hv
section
variable{Φ:Nat→Option CF}{rd:Option Nat}{fn:Nat}{F:RO}
end
section
variable{Φ:Nat→Option CF}{rd:Option Nat}{fn:Nat}{F:RO}
end
section
variable{Φ:Nat→Option CF}{rd:Option Nat}{fn:Nat}{F:RO}
end
section
variable{Φ:Nat→Option CF}{rd:Option Nat}{fn:Nat}{F:RO}
structure EU(h:Nat→Prop)(c:Nat)(M:Mem)(c':Nat)(M':Mem):Prop where
 le:c≤c'
 old:∀b,b<c→ ¬h b→M'.get b=M.get b
 new:∀b,c'≤b→M'.get b=none
theorem EU.of{h:Nat→Prop}{c c':Nat}{M M':Mem}(g:Gr c M c' M'):EU h c M c' M':=⟨g.le,fun b hb _=>g.old b hb,g.new⟩
theorem EU.trans{h:Nat→Prop}{M M1 M2:Mem}{c c1 c2:Nat}(g:EU h c M c1 M1)(g2:EU h c1 M1 c2 M2):EU h c M c2 M2:=
 ⟨bm g.le g2.le,fun b hb hn=>(g2.old b (Nat.lt_of_lt_of_le hb g.le) hn).trans (g.old b hb hn),g2.new⟩
theorem EU.wk{h h':Nat→Prop}{M M1:Mem}{c c1:Nat}(g:EU h c M c1 M1)(hh:∀b,b<c→h b→h' b):EU h' c M c1 M1:=
 ⟨g.le,fun b hb hn=>g.old b hb fun hx=>hn (hh b hb hx),g.new⟩
theorem EU.gr{h:Nat→Prop}{M M1:Mem}{c0 c c1:Nat}(g:EU h c M c1 M1)(h0:c0≤c)(hh:∀b,b<c0→ ¬h b):Gr c0 M c1 M1:=
 ⟨bm h0 g.le,fun b hb=>g.old b (by omega) (hh b hb),g.new⟩
theorem EU.ok{h:Nat→Prop}{M M1:Mem}{c c1:Nat}(g:EU h c M c1 M1)(ho:eA F M c)(hh:∀b,b<c→h b→ ∃x,M.get b=some x):eA F M1 c1:=by
 refine⟨g.new,fun b hb=>ho.hiF b (bm g.le hb),fun b hb=>?_,bm ho.ge g.le⟩
 have hlt:b<c:=by
  by_cases hc:b<c
  ·exact hc
  ·rw[ho.hiF b (by omega)]at hb;cases hb
 rw[g.old b hlt fun hx=>?_]
 ·exact ho.ap b hb
 ·obtain⟨x,hx⟩:=hh b hlt hx;rw[ho.ap b hb]at hx;cases hx
end
def E1(E:cT)(b:Nat):cT:=⟨fun x=>if x<1000 then x else E.ρ b,fun x=>if x<1000 then 0 else E.β b,fun x=>if x<1000 then 0 else E.κ b⟩
open Classical in
def cC:List UInt8→List UInt8→List (List UInt8)
 |[],a=>[a]
 |[x],a=>[a++[x]]
 |x::y::r,a=>if x=44∧y=32 then a::cC r []else cC (y::r) (a++[x])
theorem bh1(x y:UInt8)(r:List UInt8):Lib.occAt (x::y::r) [44,32] 0=decide (x=44∧y=32):=by
 show([44,32]:List UInt8).isPrefixOf (x::y::r)=_
 rw[List.isPrefixOf_cons_cons,List.isPrefixOf_cons_cons]
 have:([]:List UInt8).isPrefixOf r=true:=by cases r<;>rfl
 rw[this,Bool.and_true]
 by_cases h1:x=44
 ·by_cases h2:y=32
  ·subst h1 h2;rfl
  ·have:((32:UInt8)==y)=false:=by rw[beq_eq_false_iff_ne];exact fun e=>h2 e.symm
   rw[this,Bool.and_false,ag (by rintro⟨_,h⟩;exact h2 h)]
 ·have:((44:UInt8)==x)=false:=by rw[beq_eq_false_iff_ne];exact fun e=>h1 e.symm
  rw[this,Bool.false_and,ag (by rintro⟨h,_⟩;exact h1 h)]
theorem bh2(x:UInt8)(r:List UInt8)(j:Nat):Lib.occAt (x::r) [44,32] (j+1)=Lib.occAt r [44,32] j:=rfl
theorem IA:∀(s a:List UInt8),(∀j,j≤s.length→Lib.occAt s [44,32] j=false)→cC s a=[a++s]
 |[],a,_=>by rw[cC,di]
 |[x],a,_=>by rw[cC]
 |x::y::r,a,h=>by
  have h0:=h 0 (aM _);rw[bh1]at h0;rw[cC,ab (of_decide_eq_false h0),IA (y::r) _ fun j hj=>by rw[←bh2 x];exact h (j+1) (by simpa using hj)];simp
theorem BE:∀(i:Nat) (s a:List UInt8),Lib.occAt s [44,32] i=true→(∀j,j<i→Lib.occAt s [44,32] j=false)→cC s a=(a++s.take i)::cC (s.drop (i+2)) []
 |i,[],a,h,_=>by rcases Lib.occAt_room h with h|h<;>simp at h
 |i,[x],a,h,_=>by rcases Lib.occAt_room h with h|h<;>simp at h
 |0,x::y::r,a,h,_=>by
  rw[bh1]at h;rw[cC,ac (aP h)];simp
 |i+1,x::y::r,a,h,hn=>by
  have h0:=hn 0 (Nat.succ_pos _);rw[bh1]at h0;rw[cC,ab (of_decide_eq_false h0),BE i (y::r) _ (by rw[←bh2 x];exact h) fun j hj=>by rw[←bh2 x];exact hn (j+1) (by omega)];simp
theorem Ea:∀(n:Nat) (s:List UInt8),s.length≤n→Lib.splitK [44,32] 0 (Lib.count s [44,32]) s=cC s []:=by
 intro n
 induction n with
 |zero=>
  intro s hs;obtain rfl:s=[]:=List.length_eq_zero_iff.1 (by omega);rfl
 |succ n ih=>
  intro s hs;rcases Lib.index_spec s [44,32]with⟨h,hn⟩|⟨i,h,hi,ho,hn⟩
  ·rw[Lib.count_miss h,IA s [] hn];rfl
  ·rw[Lib.count_hit (by simp) h,BE i s [] ho hn,Nat.add_comm 1];show(if Lib.index s [44,32]== -1 then[s]else _)=_;rw[h,ab (by simp)];show s.take (((i:Int)).toNat+0)::Lib.splitK [44,32] 0 _ (s.drop (((i:Int)).toNat+2))=_;have hr:=Lib.occAt_room ho;rw[Int.toNat_natCast,cE];have hl:(s.drop (i+2)).length≤n:=by
    rcases hr with hr|hr
    ·rw[cM];simp at hr;omega
    ·cases hr
   rw[show([44,32]:List UInt8).length=2 from rfl,ih _ hl];rfl
def ac6(ty:Nat)(ps:List (List UInt8)):bz:= .cells ty (ps.map sV).length true 0 false [] (aX (ps.map sV) 0 .e)
def E8(ty n:Nat)(ps:List (List UInt8))(M:Mem)(ct:Nat):Option V→RC
 |some (.i .i64 _)=>bif Nat.blt n 4294967281 then .k (.l ct 0 (ps.map sV).length (ps.map sV).length) (M.set ct (ac6 ty ps)) (Nat.succ ct)else .f
 |_=> .f
def pX(ty g:Nat):RO→List V→Mem→Nat→RC:=fun F args M ct=>match args with
 |[.s n x,.s m y]=>bif Nat.beq m 2&&Nat.beq y 8236 then E8 ty n (cC (bl n x) []) M ct (load1 F M g 0)else .f
 |_=> .f
theorem KW{ty g:Nat}{F:RO}{M:Mem}{ct:Nat}{s:List UInt8}{z:Int}(hs:s.length<4294967281)(h:load1 F M g 0=some (.i .i64 z)):pX ty g F [sV s,.s 2 8236] M ct= .k (.l ct 0 ((cC s []).map sV).length ((cC s []).map sV).length) (M.set ct (ac6 ty (cC s []))) (ct+1):=by
 show E8 ty s.length (cC (bl s.length (bP s)) []) M ct (load1 F M g 0)=_
 rw[jx,h]
 show(bif Nat.blt s.length 4294967281 then _ else _)=_
 rw[eT,af hs];rfl
theorem Up(E:cT)(p:ByteArray):conc E (sV p.data.toList)= .string p:=by
 show Value.string (ba p.data.toList.length (bP p.data.toList))=_
 congr 1
 exact(uL (by rw[jx])).symm
theorem Ki{P:Program}{ρ:Ren}(L:Lays.n146 P ρ)(hi9:(P.info? (ρ.t 9)).map (fun i=>(i.zero,i.size,i.bytes))=some (some (.string ByteArray.empty),1,16)){f ty g:Nat}(hf:ρ.f 146=f)(hty:ρ.t 9=ty)(hg:ρ.g 1=g)(hg1:g<1000)
 {fn:Func} (hfn:P.funcs[f]?=some fn) (hb:fn.body.isNone=false) (hn:(fn.name== "runtime.NumGoroutine")=false):bg P f (pX ty g):=by
 subst hf hty hg
 intro F args M ct v N ct' hgv E c w hr hglob hbig hf ha
 unfold pX at hgv
 split at hgv
 ·rename_i n x m y;cases hq:Nat.beq m 2&&Nat.beq y 8236 with
  |false=>rw[hq]at hgv;cases hgv
  |true=>
   rw[hq,cond_true]at hgv;rw[aJ,bp,bp]at hq;obtain rfl:=aP hq.1;obtain rfl:=aP hq.2;unfold E8 at hgv;split at hgv
   ·rename_i z hl;cases hlt:Nat.blt n 4294967281 with
    |false=>rw[hlt]at hgv;cases hgv
    |true=>
     rw[hlt,cond_true]at hgv;rw[eT]at hlt;have hn1:=aP hlt;injection hgv with e1 e2 e3
     subst e1 e2 e3;obtain⟨ty',n',ex,fz,str,d,cs,hbk,hgc⟩:=gN (f:=none) hl (by simp);obtain⟨_,_,o,ho,arr,fr,rfl,hC⟩:=hr.has _ _ hbk;have hm:w.cell? ⟨ρ.g 1,0,none⟩=some (.int .i64 z):=by
      rw[(hglob _ hg1).1]at ho;have hcell:=hC.cell 0 _ hgc;rw[(hglob _ hg1).2]at hcell;simp only[World.cell?,ho,Option.isSome_none,aR,if_false];exact hcell
     refine⟨fn,hfn,hb,hn,?_⟩;have hcall:=Go.Proofs.Any.strings_Split L hi9 (ba n x) (ba 2 8236) z w (by rw[dv];exact hn1) hm (by rw[dv];omega);have hargs:(au E [.s n x,.s 2 8236]).toArray=#[.string (ba n x),.string (ba 2 8236)]:=rfl;rw[hargs];refine hcall.mono ?_;rintro e w' ⟨rfl,rfl⟩;have hps:(Lib.splitB (ba 2 8236) 0 (Lib.countB (ba n x) (ba 2 8236)) (ba n x)).map (·.data.toList)=cC (bl n x) []:=by
      rw[Lib.splitB_data,fO,fO];show Lib.splitK (bl 2 8236) 0 (Lib.count (ba n x).data.toList (ba 2 8236).data.toList) (bl n x)=_;rw[fO,fO,show bl 2 8236=[44,32]from by decide];exact Ea _ _ (ah _)
     have hcells:((Lib.splitB (ba 2 8236) 0 (Lib.countB (ba n x) (ba 2 8236)) (ba n x)).map Value.string).toArray=(au E ((cC (bl n x) []).map sV)).toArray:=by
      rw[←hps,bf,List.map_map,List.map_map]
      congr 1
      exact List.map_congr_left fun p _=>(Up E p).symm
     have hlen:((cC (bl n x) []).map sV).length=Lib.countB (ba n x) (ba 2 8236)+1:=by
      rw[←hps,List.length_map,List.length_map];exact Lib.splitB_all _ (by rw[dv];omega) 0 _ _ rfl
     have hbd:fq c ((cC (bl n x) []).map sV):=(jm c _).2 fun v hv=>by obtain⟨l,_,rfl⟩:=List.mem_map.1 hv;trivial
     obtain⟨E',hS,hE,hρ,hβ,hκ⟩:=hr.alloc (ac6 (ρ.t 9) (cC (bl n x) [])) (.cells ((Lib.splitB (ba 2 8236) 0 (Lib.countB (ba n x) (ba 2 8236)) (ba n x)).map Value.string).toArray (ρ.t 9)) ct 0 (fun b=>c b∨b=ct)
      (hf ct (ah _)) (.inr rfl) (fun _ h=> .inl h) (qL hbd fun _ h=> .inl h) (w.alloc (.cells ((Lib.splitB (ba 2 8236) 0 (Lib.countB (ba n x) (ba 2 8236)) (ba n x)).map Value.string).toArray (ρ.t 9))) rfl rfl rfl rfl
      (fun E' he _ hβ _=>vD he hbd hβ hcells)
     refine⟨E',fun b=>c b∨b=ct,?_,hS,.inr rfl,gc c ct⟩;simp only[conc,hρ,hβ,hlen]
   ·cases hgv
 ·cases hgv
def rZ(F:RO):Option (Nat×Int):=match aZ F 0 with
 |some (.cells ty n false fz true d c)=>bif Nat.beq n 1&&Nat.beq fz 1 then(match cell 1 d c 0 with
  |some (.i .i64 z)=>some (ty,z)
  |_=>none)else none
 |_=>none
theorem xZ{F:RO}{ty:Nat}{z:Int}(h:rZ F=some (ty,z)):∃d c,aZ F 0=some (.cells ty 1 false 1 true d c)∧cell 1 d c 0=some (.i .i64 z):=by
 unfold rZ at h
 split at h
 ·rename_i ty' n fz d c hF;cases hh:Nat.beq n 1&&Nat.beq fz 1 with
  |false=>rw[hh]at h;cases h
  |true=>
   rw[hh,cond_true]at h;rw[aJ,bp,bp]at hh;obtain rfl:=aP hh.1;obtain rfl:=aP hh.2;split at h
   ·rename_i z' hc;injection h with h;injection h with h1 h2
    subst h1 h2;exact⟨d,c,hF,hc⟩
   ·cases h
 ·cases h
theorem Vq{F:RO}(h:(rZ F).isSome=true):∃z:Int,∀M:Mem,M.get 0=none→load1 F M 0 0=some (.i .i64 z):=by
 obtain⟨⟨ty,z⟩,hq⟩:=bn.1 h
 obtain⟨d,c,hF,hc⟩:=xZ hq
 refine⟨z,fun M hM=>?_⟩
 unfold Ev.load1
 rw[aO hM,hF]
 exact hc
def vF(ty:Nat)(z:Int):bz:= .cells ty 1 false 1 true [.i .i64 z] .e
theorem Bs{x b:Nat}{blk:bz}{R:RO}:aZ ((x,blk)::R) b=if x=b then some blk else aZ R b:=by
 show Bool.rec (motive:=fun _=>Option bz) (aZ R b) (some blk) (Nat.beq x b)=_
 rw[bb,bp]
 by_cases e:x=b
 ·rw[ac (by simpa using e),ac e]
 ·rw[ab (by simpa using e),ab e]
theorem Zc{F:RO}{L:List gF}{gs:List Nat}{ty:Nat→Nat}{q:Nat→Nat×Nat×Nat}{k x:Nat}(h:bB F L=true)(he:j6 F gs=true)(hx:(aZ (vd (mA L ty) q gs k) x).isSome=true):x<1000:=by
 obtain⟨y,hy⟩:=bn.1 hx
 rcases qE hy with hy|⟨i,hi,_⟩
 ·obtain⟨t,ht,e,_⟩:=rp hy;subst e;exact(kd h t ht).1
 ·exact(pG he x (List.mem_of_getElem? hi)).1
theorem ac0{P:Program}{E:cT}{F:RO}{M:Mem}{c:Nat→Prop}{w:World}{L:List gF}{gs:List Nat}(hr:kj P E F M c w)(hglob:∀g,g<1000→E.ρ g=g∧E.β g=0)(h:bB F L=true)(he:j6 F gs=true)(hm:(rZ F).isSome=true):
 ∃ty q tm z,kj P (qD E F gs) ((0,vF tm z)::vd (mA L ty) q gs 1000) .e (fun x=>x<1000+gs.length) w:=by
 obtain⟨ty,q,h1⟩:=VT hr hglob h he
 obtain⟨⟨tm,z⟩,hq⟩:=bn.1 hm
 obtain⟨d,cc,hF,hc⟩:=xZ hq
 have hgl:∀g,g<1000→(qD E F gs).ρ g=g:=fun g hg=>((en E F gs).ρ g hg).trans (hglob g hg).1
 have hl:look F M 0=some (.cells tm 1 false 1 true d cc):=by
  rw[aO (hr.apart 0 (by rw[hF];rfl))];exact hF
 obtain⟨_,hbd,obj,ho,arr,fr,rfl,hC⟩:=hr.has _ _ hl
 refine⟨ty,q,tm,z,⟨?_,?_,fun b hb=>rfl⟩⟩
 ·intro b blk hb;rw[aO (show(Tr.e:Mem).get b=none from rfl),Bs]at hb;by_cases e:0=b
  ·rw[ac e]at hb;subst e;obtain rfl:=ae hb;refine⟨show 0<1000+gs.length by omega,?_,_,by rw[hgl 0 (by decide),←(hglob 0 (by decide)).1];exact ho,arr,fr,rfl,?_,?_,?_,fun hh=>by cases hh⟩
   ·intro k v hv;rw[bY]at hv;split at hv
    ·obtain rfl:k=0:=by omega
     obtain rfl:=ae hv;trivial
    ·cases hv
   ·intro k v hv;rw[bY]at hv;split at hv
    ·obtain rfl:k=0:=by omega
     obtain rfl:=ae hv;have:=hC.cell 0 _ hc;rw[(en E F gs).β 0 (show 0<1000 by decide),this];rfl
    ·cases hv
   ·have:=hC.size;rw[(en E F gs).β 0 (show 0<1000 by decide),(en E F gs).κ 0 (show 0<1000 by decide)];exact this
   ·rw[(en E F gs).β 0 (show 0<1000 by decide)];exact hC.free
  ·rw[ab e]at hb;exact h1.has b blk (by rw[aO (show(Tr.e:Mem).get b=none from rfl)];exact hb)
 ·intro b b' g1 g2 e;have lt:∀x,(look ((0,vF tm z)::vd (mA L ty) q gs 1000) .e x).isSome→x<1000:=by
   intro x hx;rw[aO (show(Tr.e:Mem).get x=none from rfl),Bs]at hx;by_cases e:0=x
   ·omega
   ·rw[ab e]at hx;exact Zc h he hx
  rw[hgl b (lt b g1),hgl b' (lt b' g2)]at e;exact e
def zl(L:List gF)(gs:List Nat):RO→List V→Mem→Nat→RC:=fun F args M ct=>match args with|[]=>bif (bB F L&&j6 F gs)&&(rZ F).isSome then .k (.b true) M ct else .f|_=> .f
theorem Dp{F:RO}{L:List gF}{gs:List Nat}(h:bB F L=true)(h':j6 F gs=true)(hm:(rZ F).isSome=true)(M:Mem)(c:Nat):zl L gs F [] M c= .k (.b true) M c:=by
 show(bif (bB F L&&j6 F gs)&&(rZ F).isSome then RC.k (.b true) M c else .f)=_
 rw[h,h',hm];rfl
theorem vK{P:Program}(hm:P.follows .mixedOrders=true){Φ:Nat→Option CF}(hΦ:eC P Φ){fuel f n:Nat}{L:List gF}{gs:List Nat}(hn:1000+gs.length=n)
 (h:∀ty q tm z,isT (bV9 Φ fuel ((0,vF tm z)::vd (mA L ty) q gs 1000) f n)=true):bg P f (zl L gs):=by
 subst hn
 intro F args M ct v N ct' hg E c w hr hglob hbig hf ha
 cases args with
 |cons a r=>cases hg
 |nil=>
  have hg':(bif (bB F L&&j6 F gs)&&(rZ F).isSome then RC.k (.b true) M ct else .f)= .k v N ct':=hg;cases ht:(bB F L&&j6 F gs)&&(rZ F).isSome with
  |false=>rw[ht]at hg';cases hg'
  |true=>
   rw[ht]at hg';rw[aJ,aJ]at ht;have hg2:RC.k (.b true) M ct= .k v N ct':=hg';injection hg2 with e1 e2 e3
   subst e1 e2 e3;obtain⟨ty,q,tm,z,hrel⟩:=ac0 hr hglob ht.1.1 ht.1.2 ht.2;obtain⟨M',ct2,hk⟩:=Vc (h ty q tm z);have hgl:∀g,g<1000→(qD E F gs).ρ g=g∧(qD E F gs).β g=0:=fun g hg=>⟨((en E F gs).ρ g hg).trans (hglob g hg).1,((en E F gs).β g hg).trans (hglob g hg).2⟩;obtain⟨fn,h1,h2,h3,hC⟩:=iw (rd:=none) (fn:=0) (F₀:=[]) hΦ (ve hm hΦ fuel) ((0,vF tm z)::vd (mA L ty) q gs 1000) f [] .e (1000+gs.length) (.b true) M' ct2 hk (qD E F gs) (fun x=>x<1000+gs.length) w hrel hgl (fun g hg=>Nat.lt_of_lt_of_le hg (Nat.le_add_right _ _)) (fun b hb hc=>Nat.lt_irrefl _ (Nat.lt_of_lt_of_le hc hb)) trivial;refine⟨fn,h1,h2,h3,hC.mono ?_⟩;rintro e w' ⟨E',c',rfl,hS,hb,hG⟩;have hfr:∀r,r<w.heap.size→w'.heap[r]?=w.heap[r]?:=fun r hr'=>hS.frame r hr' (fun b hb=>by cases hb);have hhas:∀b blk,look F M b=some blk→c b∧ff c blk∧ ∃o,w'.heap[E.ρ b]?=some o∧fe P E b blk o:=by
    intro b blk hb;obtain⟨g1,g2,o,ho,g3⟩:=hr.has b blk hb;exact⟨g1,g2,o,by rw[hfr _ (Array.getElem?_eq_some_iff.1 ho).1];exact ho,g3⟩
   exact⟨E,c,rfl,⟨.refl c E,fun _ h=>h,⟨hhas,hr.inj,hr.apart⟩,fun b hb=> .inl ⟨b,hb,rfl⟩,fun r hr' _=>hfr r hr',hS.size,hS.os,hS.output,hS.tape⟩,trivial,.refl _ _⟩
theorem bg0{P:Program}{W:World}{C:Nat}{t:TypeId}(h:W.ShapedOpen P)(hg:0<P.globals.size)(h0:((begin P (fun _ _=>0) default).world.heap[0]?).bind Obj.row?=some (#[.int .i64 0],t))
 (hb:P.buildable t=true) (hc:P.cellTypes P.depth t=some [t]) (hu:P.underlying t=some (.int .i64)):(rZ (dJ W C)).isSome=true:=by
 obtain⟨m,hm⟩:=Go.Proofs.cell_of_shapedOpen_int h hg h0 rfl hb hc hu
 obtain⟨cs,hh,hs,_⟩:=h.1 0 _ t hg h0
 have hs1:cs.size=1:=hs
 obtain⟨x,hx⟩:∃x,cs=#[x]:=Array.size_eq_one_iff.1 hs1
 subst hx
 have hx:x= .int .i64 m:=by
  unfold World.cell? at hm;rw[hh]at hm;exact ae hm
 subst hx
 have hv2:u5 C (.int .i64 m)=some (.i .i64 m):=rfl
 have hcell:cell (#[Value.int .i64 m]).size [] (jZ ((#[Value.int .i64 m]).toList.map (u5 C)) 0 .e) 0=some (.i .i64 m):=(jF (ty:=t)).2 ⟨_,rfl,hv2⟩
 have hcell':cell 1 [] (jZ ((#[Value.int .i64 m]).toList.map (u5 C)) 0 .e) 0=some (.i .i64 m):=hcell
 unfold rZ
 rw[jE,hh]
 show Option.isSome (bif Nat.beq 1 1&&Nat.beq 1 1 then(match cell 1 [] (jZ ((#[Value.int .i64 m]).toList.map (u5 C)) 0 .e) 0 with
  |some (.i .i64 z)=>some (t,z)
  |_=>none)else none)=true
 rw[hcell']
 rfl
theorem AV{H:Type}{enc:TypeId×Value→H}{C:Checked}{os:Os}{f:FuncId}{fn:Func}{s:ChangeSpec}{conds:List PathCond}{apart fresh handsOn nl:Bool}{X:World→Array Value→Prop}
 (hX:∀(w w':World) (args:Array Value),w.heap=w'.heap→X w args→X w' args) (own:ownKnob C.prog.godebug=none) (started:os.Started) (noInit:C.prog.inits.idxOf? f=none) (hfn:C.prog.funcs[f]?=some fn)
 (wit:∃(w:World) (tape:Tape) (i:Input),w.os=os∧(w.forCall tape i).Shaped C.prog∧i.vars=[]∧Input.okWide C.prog (w.forCall tape i) .any w.heap.size f i∧
  ((s.pre enc C.prog fn conds apart (w.forCall tape i).memory i.args∧X (w.forCall tape i).memory i.args)∧sizedMet enc C.prog fn (OpenSpec.ofChange s) apart (w.forCall tape i).memory i.args)∧({}:Assume).holds C.prog (lone (Frame.enter C.prog f i.args .normal) [] (w.forCall tape i)))
 (k:∀(W:World) (base:Nat) (args:Array Value) (ds gs:List (DataW H)) (before:List MemPlace),W.ShapedOpen C.prog→
  (∀(j:Nat) t v,fn.params[j]?=some t→args[j]?=some v→Value.okWide C.prog W .any base t v)→DataW.Whole enc C.prog fn.params.toList s.vars apart W args.toList ds gs before→
  conds.all (PathCond.test C.prog ⟨fn.params.toList,ds,s.plain.varTypes C.prog,gs⟩)=true→(DataW.weightsEach C.prog (fn.params.toList++s.plain.varTypes C.prog) (ds++gs)).all (· ≤reachBytes)=true→X W args→
  Go.Calls C.prog f args W fun e W'=>∃v,e= .returned v∧s.post enc C.prog fn apart fresh handsOn nl W args v W'):
 ReturnsInHanded {} C os f .any (fun w args=>(s.pre enc C.prog fn conds apart w args∧X w args)∧sizedMet enc C.prog fn (OpenSpec.ofChange s) apart w args) (s.post enc C.prog fn apart fresh handsOn nl):=by
 refine returnsInHanded_of_calls own started noInit wit ?_
 intro w tape i _ hsh _ hok hpre _
 have hval:∀(j:Nat) t v,fn.params[j]?=some t→i.args[j]?=some v→Value.okWide C.prog (w.forCall tape i) .any w.heap.size t v:=by
  obtain⟨_,_,_,fn',h1,_,_,_,_,h2⟩:=hok;rw[hfn]at h1;obtain rfl:=ae h1;exact h2
 obtain⟨⟨⟨ds,gs,before,hw,hc⟩,hx⟩,hz⟩:=hpre
 refine(k _ _ _ ds gs before hsh hval (DataW.Whole.of_heap (w':=w.forCall tape i) (by rfl) hw) hc (hz.weights hw) (hX _ _ _ (by rfl) hx)).mono ?_
 rintro e W' ⟨v,rfl,hp⟩
 exact ChangeSpec.post_blind hp
structure nc where
 op:Int
 d:Int
 a:Int
 b:Int
 i:Int
def mY(x:nc):List V:=[.i .i64 x.op,.i .i64 x.d,.i .i64 x.a,.i .i64 x.b,.i .i64 x.i]
theorem pj(p q:aE)(x y:V)(t:T):cZ [p,q] [x,y] t=some ((t.setP p x).setP q y):=by
 show(t.setP p x).force (fun t=>(t.setP q y).force fun t=>some t)=_
 rw[Tr.force_eq,Tr.force_eq]
def N3:CC:=(.reg [(qq a4 (.mv (x6 0)))])
def N4:CC:=(.reg [(qq a5 (.mv z0)),(qq a6 (.mv z1)),(qq a7 (.xib z5 z6)),(qq a4 (.mv z7))])
def Yy:CF:= .mk 4 [.t a4] (.seq N3 (.seq N4 .ret))
theorem cl3(v0 v1:V):aS 4 [v0,v1]=(.n (.n mN (some v1) mN) (some v0) iC):=rfl
def ci1:=ai @cl3 (ai (wu N3.eq_1) (wu N4.eq_1))
def Mn:CC:=(.reg [(qq a4 (.mv (x6 0)))])
def Mo:CC:=(.reg [(qq db (.mv z1)),(qq du (.ln .str dD)),(qq a5 (.mv dj))])
def Mp:CC:=(.reg [(qq dO (.mv z5)),(qq dY (.bi .eql dM (x6 0))),(qq eg (.mv ey)),(aL eQ (.mv z1) eg),(aL dP (.mv z0) eg),(aL eB (.bi .eql eW fm) eg),(qq ec (.pk eV xT eX)),(qq dE (.mv fG))])
def Mq:CC:=(.reg [(qq a4 (.mv (x6 0)))])
def Ms:CC:=(.reg [(qq eR (.mv z5)),(qq eD (.bi .eql fJ (x6 1))),(qq dH (.mv fK))])
def Mt:CC:=(.reg [(qq eJ (.mv z0)),(qq fk (.mv z1)),(qq eE (.ixS g9 (x6 0))),(ee eY (.call 128 [fL,gA])),(qq a4 (.mv gC))])
def Mu:CC:=(.reg [(qq fo (.mv z5)),(qq gu (.mv z0)),(qq gh (.ln .str j1)),(qq iq (.bi .geq iE ji)),(qq gH (.mv jj))])
def Mv:CC:=(.reg [(qq a4 (.mv (x6 (-1))))])
def Mw:CC:=(.reg [(qq iO (.mv z5)),(qq ib (.ld1 (.c (.p 0 0)))),(qq j4 (.bi .leq jk kf)),(qq gJ (.mv kq)),(ak jL (.mv z0) gJ),(ak ja (.ln .str kr) gJ),(ak jA (.bi .leq l5 (x6 64)) gJ),(qq jB (.pk kO lJ xF)),(qq j3 (.mv lM))])
def Fh:CC:=(.reg [(qq kl (.mv z0)),(qq kg (.mv z1)),(qq km (.bad)),(qq a4 (.mv lN))])
def Fi:CC:=(.cond jz (.seq Fh .ret) .skip)
def Fj:CC:=(.cond gD (.seq Mv .ret) (.seq Mw Fi))
def Fk:CC:=(.cond fH (.seq Mt .ret) (.seq Mu Fj))
def Fl:CC:=(.cond dQ (.seq Mq .ret) (.seq Ms Fk))
def Fm:CC:=(.reg [(qq jb (.mv z1)),(qq ga (.ixS n6 (x6 0))),(qq a6 (.mv mS))])
def Fo:CC:=(.reg [(qq mU (.mv z1)),(qq ko (.ixS oG (x6 1))),(qq a7 (.mv oH))])
def Fp:CC:=(.reg [(qq a8 (.mv (x6 0)))])
def Fq:CC:=(.reg [(qq jC (.mv z0)),(qq ig (.ln .str pq)),(qq lK (.mv z5)),(qq nh (.bi .sub oL qc)),(qq ky (.bi .add pv (x6 1))),(qq a9 (.mv oM))])
def Fr:CC:=(.reg [(qq cg (.mv (x6 0)))])
def Fs:CC:=(.reg [(qq l6 (.mv z8)),(qq lL (.mv z9)),(qq oO (.bi .lss qd qf))])
def Ft:CC:=(.seq Fs (.cond rv .skip (.exit 1)))
def Fu:CC:=(.reg [(qq n7 (.mv z0)),(qq l7 (.mv z8)),(qq oJ (.ixS rx rB)),(qq ni (.mv z6)),(qq oP (.bi .neq ry rz))])
def Fv:CC:=(.reg [(qq oK (.mv z0)),(qq nj (.mv z8)),(qq oQ (.bi .add u6 (x6 1))),(qq lP (.mv z9)),(qq nk (.slS sE (some uu) (some uv))),(qq sI (.mv z6)),(ee sJ (.call 128 [u7,uw])),(qq cI (.mv wy))])
def Fw:CC:=(.reg [(qq rF (.mv cD)),(qq uE (.bi .lss wU (x6 0)))])
def Fx:CC:=(.reg [(qq a4 (.mv (x6 (-1))))])
def Fy:CC:=(.cond wV (.seq Fx .ret) .skip)
def Fz:CC:=(.reg [(qq wC (.mv z8)),(qq wH (.mv cD)),(qq sK (.bi .add A3 (x6 1))),(qq x5 (.bi .add A2 A4)),(qq a8 (.mv C2))])
def FA:CC:=(.cond ww (.seq Fv (.seq (.seq Fw Fy) Fz)) .skip)
def FB:CC:=(.reg [(qq Ad (.mv z0)),(qq Ae (.mv z8)),(qq yG (.bi .add IY (x6 1))),(qq yH (.ixS ER IZ)),(qq Cm (.mv z7)),(qq Cn (.bi .eql XQ Lk)),(qq uF (.mv XR)),(ak EY (.mv z0) uF),(ak EZ (.mv z8) uF),(ak F2 (.mv z8) uF),(ak F3 (.mv z5) uF),(ak A1 (.bi .add XS XT) uF),(ak F4 (.slS Lw (some Lm) (some XU)) uF),(ak F5 (.mv z1) uF),(ak F6 (.bi .eql XV Ln) uF),(qq F7 (.pk Ll XW xF))])
def FC:CC:=(.reg [(qq Co (.mv z8)),(qq a4 (.mv Y4))])
def FD:CC:=(.cond XX (.seq FC .ret) .skip)
def FE:CC:=(.reg [(qq F8 (.mv z8)),(qq Lq (.bi .add z95 (x6 1))),(qq a8 (.mv XY))])
def FF:CC:=(.reg [(qq Lr (.mv cj)),(qq Lt (.bi .add z97 (x6 1))),(qq cg (.mv z98))])
def FG:CC:=(.reg [(qq Jk (.mv z5)),(qq tB (.ld1 (.c (.p 0 0)))),(qq oI (.bi .leq Y5 A0)),(qq qk (.mv wv)),(ak tC (.mv cj) qk),(ak A7 (.mv z8) qk),(ed yz (.call 130 [EL]) qk),(ak A8 (.bi .gtr EK C1) qk),(qq jK (.pk EJ EM xF))])
def FH:CC:=(.reg [(qq Cd (.mv z0)),(qq A9 (.mv z8)),(qq Aa (.slS EP (some Lb) none)),(qq Ce (.mv z1)),(qq Cf (.bad)),(qq de (.mv Lc))])
def FI:CC:=(.reg [(qq Cg (.mv cS)),(qq Ch (.bi .geq Ld (x6 0)))])
def FJ:CC:=(.reg [(qq la (.mv cS)),(qq Ci (.mv z8)),(qq J2 (.bi .add Lf Lg)),(qq a4 (.mv Xs))])
def FK:CC:=(.cond Le (.seq FJ .ret) .skip)
def FL:CC:=(.reg [(qq a4 (.mv (x6 (-1))))])
def FM:CC:=(.seq FH (.seq (.seq FI FK) (.seq FL .ret)))
def FN:CC:=(.reg [(qq J3 (.mv z5)),(qq Cj (.ld1 (.c (.p 0 0)))),(qq J4 (.bi .gtr Xt Lh)),(qq uB (.mv Xu)),(ak J5 (.mv cj) uB),(ak J6 (.mv z8) uB),(ak yA (.bi .shr Xx (.c (.i .u64 4))) uB),(ak yB (.bi .add (x6 4) Xy) uB),(ak J7 (.bi .geq Xw Xz) uB),(qq J8 (.pk Xv XA xF)),(qq yC (.mv XB)),(ak yD (.mv z8) yC),(ak J9 (.mv z9) yC),(ak Ja (.bi .lss XD XE) yC),(qq Jb (.pk XC XF xF))])
def FO:CC:=(.reg [(qq Jc (.mv z0)),(qq yE (.mv z8)),(qq Jd (.slS XH (some XI) none)),(qq Je (.mv z1)),(ee Jf (.call 131 [XJ,XK])),(qq cH (.mv XL))])
def FP:CC:=(.reg [(qq Ck (.mv cR)),(qq wG (.bi .lss Li (x6 0)))])
def FQ:CC:=(.reg [(qq a4 (.mv (x6 (-1))))])
def FR:CC:=(.cond Lj (.seq FQ .ret) .skip)
def FS:CC:=(.reg [(qq Jg (.mv z8)),(qq Jh (.mv cR)),(qq Ji (.bi .add XM XN)),(qq a4 (.mv XO))])
def FT:CC:=(.seq FO (.seq (.seq FP FR) (.seq FS .ret)))
def FU:CC:=(.cond XG FT .skip)
def FV:CC:=(.cond EN FM (.seq FN FU))
def FW:CC:=(.seq (.seq FB FD) (.seq FE (.seq FF (.seq FG FV))))
def FX:CC:=(.seq Ft (.block 2 (.seq (.seq Fu FA) FW)))
def FY:CC:=(.reg [(qq a4 (.mv (x6 (-1))))])
def FZ:CC:=(.seq Fr (.seq (.block 1 (.loop FX)) (.seq FY .ret)))
def G0:CC:=(.seq Fm (.seq Fo (.seq Fp (.seq Fq FZ))))
def G1:CC:=(.seq Mo (.seq (.block 0 (.seq Mp Fl)) G0))
def Yv:CF:= .mk 8 [.t a4] (.seq Mn G1)
theorem ck6(v0 v1:V):aS 8 [v0,v1]=(.n (.n tk (some v1) tk) (some v0) sk7):=rfl
def bs2:=ai @ck6 (ai (wu Mn.eq_1) (ai (wu Mo.eq_1) (ai (wu Mp.eq_1) (ai (wu Mq.eq_1) (ai (wu Ms.eq_1) (ai (wu Mt.eq_1) (ai (wu Mu.eq_1) (ai (wu Mv.eq_1) (ai (wu Mw.eq_1) (ai (wu Fh.eq_1) (ai (wu Fi.eq_1) (ai (wu Fj.eq_1) (ai (wu Fk.eq_1) (ai (wu Fl.eq_1) (ai (wu Fm.eq_1) (ai (wu Fo.eq_1) (ai (wu Fp.eq_1) (ai (wu Fq.eq_1) (ai (wu Fr.eq_1) (ai (wu Fs.eq_1) (ai (wu Ft.eq_1) (ai (wu Fu.eq_1) (ai (wu Fv.eq_1) (ai (wu Fw.eq_1) (ai (wu Fx.eq_1) (ai (wu Fy.eq_1) (ai (wu Fz.eq_1) (ai (wu FA.eq_1) (ai (wu FB.eq_1) (ai (wu FC.eq_1) (ai (wu FD.eq_1) (ai (wu FE.eq_1) (ai (wu FF.eq_1) (ai (wu FG.eq_1) (ai (wu FH.eq_1) (ai (wu FI.eq_1) (ai (wu FJ.eq_1) (ai (wu FK.eq_1) (ai (wu FL.eq_1) (ai (wu FM.eq_1) (ai (wu FN.eq_1) (ai (wu FO.eq_1) (ai (wu FP.eq_1) (ai (wu FQ.eq_1) (ai (wu FR.eq_1) (ai (wu FS.eq_1) (ai (wu FT.eq_1) (ai (wu FU.eq_1) (ai (wu FV.eq_1) (ai (wu FW.eq_1) (ai (wu FX.eq_1) (ai (wu FY.eq_1) (ai (wu FZ.eq_1) (ai (wu G0.eq_1) (wu G1.eq_1)))))))))))))))))))))))))))))))))))))))))))))))))))))))
def aN3:CC:=(.reg [(qq a4 (.mv (.c (.s 0 0)))),(qq a5 (.mv (.c (.s 0 0)))),(qq a6 (.mv xF))])
def aN4:CC:=(.reg [(qq a8 (.mv z0)),(qq a9 (.mv z1)),(ee cg (.call 106 [z8,z9])),(qq a7 (.mv cj))])
def aN5:CC:=(.reg [(qq cI (.mv z7)),(qq de (.bi .geq cD (x6 0)))])
def aN6:CC:=(.dreg 12 [(0,0,(qq cH (.mv z0))),(1,0,(qq db (.mv z7))),(2,3,(qq du (.slS cR none (some dD)))),(3,0,(qq dE (.mv z0))),(4,0,(qq dO (.mv z7))),(5,0,(qq dY (.mv z1))),(6,32,(qq eg (.ln .str ey))),(7,112,(qq eQ (.bi .add dM eV))),(8,248,(qq dP (.slS dQ (some eW) none))),(9,7,(qq a4 (.mv dj))),(10,1023,(qq a5 (.mv fm))),(11,2047,(qq a6 (.mv xT)))])
def aN7:CC:=(.seq aN5 (.cond cS (.seq aN6 .ret) .skip))
def aN8:CC:=(.reg [(qq eB (.mv z0)),(qq a4 (.mv eX)),(qq a5 (.mv (.c (.s 0 0)))),(qq a6 (.mv xF))])
def c75:CF:= .mk 5 [.t a4,.t a5,.t a6] (.seq aN3 (.seq (.seq aN4 aN7) (.seq aN8 .ret)))
theorem e75(v0 v1:V):aS 5 [v0,v1]=(.n (.n iC (some v1) iC) (some v0) l8):=rfl
def B75:=ai @e75 (ai (wu aN3.eq_1) (ai (wu aN4.eq_1) (ai (wu aN5.eq_1) (ai (wu aN6.eq_1) (ai (wu aN7.eq_1) (wu aN8.eq_1))))))
def av2:CC:=(.reg [(qq a4 (.mv (.c (.s 0 0)))),(qq a5 (.mv (.c (.s 0 0)))),(qq a6 (.mv xF))])
def av3:CC:=(.reg [(qq a7 (.mv z0)),(qq a8 (.mv z1)),(ee a9 (.call 75 [z7,z8])),(qq cg (.ex 0 z9)),(qq cI (.ex 1 z9)),(qq de (.ex 2 z9)),(qq a4 (.mv cj)),(qq a5 (.mv cD)),(qq a6 (.mv cS))])
def c35:CF:= .mk 4 [.t a4,.t a5,.t a6] (.seq av2 (.seq av3 .ret))
theorem e35(v0 v1:V):aS 4 [v0,v1]=(.n (.n mN (some v1) mN) (some v0) iC):=rfl
def B35:=ai @e35 (ai (wu av2.eq_1) (wu av3.eq_1))
def aR6:CC:=(.reg [(qq a4 (.mv xF))])
def aR7:CC:=(.reg [(qq a5 (.mv z0)),(qq a6 (.ln .str z5)),(qq a7 (.mv z1)),(qq a8 (.ln .str z7)),(qq a9 (.bi .geq z6 z8)),(qq cg (.mv z9)),(ak cI (.mv z0) cg),(ak de (.mv z1) cg),(ak cH (.ln .str cS) cg),(ak db (.slS cD none (some cR)) cg),(ak du (.mv z1) cg),(ak dE (.bi .eql dD dj) cg),(qq dO (.pk cj dQ xF)),(qq a4 (.mv dM))])
def c83:CF:= .mk 5 [.t a4] (.seq aR6 (.seq aR7 .ret))
theorem e83(v0 v1:V):aS 5 [v0,v1]=(.n (.n iC (some v1) iC) (some v0) l8):=rfl
def B83:=ai @e83 (ai (wu aR6.eq_1) (wu aR7.eq_1))
def aV3:CC:=(.reg [(qq a4 (.mv (.c (.s 0 0))))])
def aV4:CC:=(.reg [(qq a5 (.mv z0)),(qq a6 (.mv z1)),(ee a7 (.call 83 [z5,z6]))])
def aV5:CC:=(.reg [(qq a8 (.mv z0)),(qq a9 (.mv z1)),(qq cg (.ln .str z9)),(qq cI (.slS z8 (some cj) none)),(qq a4 (.mv cD))])
def aV6:CC:=(.seq aV4 (.cond z7 (.seq aV5 .ret) .skip))
def aV7:CC:=(.reg [(qq de (.mv z0)),(qq a4 (.mv cS))])
def c90:CF:= .mk 4 [.t a4] (.seq aV3 (.seq aV6 (.seq aV7 .ret)))
theorem e90(v0 v1:V):aS 4 [v0,v1]=(.n (.n mN (some v1) mN) (some v0) iC):=rfl
def B90:=ai @e90 (ai (wu aV3.eq_1) (ai (wu aV4.eq_1) (ai (wu aV5.eq_1) (ai (wu aV6.eq_1) (wu aV7.eq_1)))))
def aE7:CC:=(.reg [(qq a4 (.mv (.c (.s 0 0))))])
def aE8:CC:=(.reg [(qq a5 (.mv z0)),(qq a6 (.mv z1)),(ee a7 (.call 90 [z5,z6])),(qq a4 (.mv z7))])
def c53:CF:= .mk 4 [.t a4] (.seq aE7 (.seq aE8 .ret))
theorem e53(v0 v1:V):aS 4 [v0,v1]=(.n (.n mN (some v1) mN) (some v0) iC):=rfl
def B53:=ai @e53 (ai (wu aE7.eq_1) (wu aE8.eq_1))
def sM:V→Option (List UInt8)
 | .s n x=>if bP (bl n x)=x then some (bl n x)else none
 |_=>none
theorem nn(l:List UInt8):sM (sV l)=some l:=by
 show(if bP (bl l.length (bP l))=bP l then some (bl l.length (bP l))else none)=_
 rw[jx,ac rfl]
theorem bh4{v:V}{l:List UInt8}(h:sM v=some l):v=sV l:=by
 unfold sM at h
 split at h
 ·rename_i n x;split at h
  ·rename_i hx;obtain rfl:=ae h;show V.s n x=V.s (bl n x).length (bP (bl n x));rw[hx,eZ]
  ·cases h
 ·cases h
def mX(c:UInt8):List UInt8→Nat→Option Nat
 |[],_=>none
 |x::r,i=>if x=c then some i else mX c r (i+1)
theorem UR{c:UInt8}:∀{l:List UInt8} {i k:Nat},mX c l i=some k→i≤k∧k<i+l.length
 |[],i,k,h=>by cases h
 |x::r,i,k,h=>by
  unfold mX at h;split at h
  ·obtain rfl:=ae h;simp
  ·have:=UR h;rw[bk];omega
theorem Hv(c:UInt8):∀(l:List UInt8) (i:Nat),ny c.toNat l.length (bP l) i=mX c l i
 |[],i=>rfl
 |x::r,i=>by
  have hx:=UInt8.toNat_lt x;show(bif Nat.beq ((x.toNat+256*bP r)%256) c.toNat then some i else ny c.toNat r.length ((x.toNat+256*bP r)/256) (Nat.succ i))=_;rw[show(x.toNat+256*bP r)%256=x.toNat by omega,show(x.toNat+256*bP r)/256=bP r by omega,bp,mX];by_cases h:x=c
  ·subst h;rw[af rfl,ac rfl];rfl
  ·rw[ag (fun e=>h (UInt8.toNat_inj.1 e)),ab h,cond_false];exact Hv c r (i+1)
def cc5(x c:V):Option V:=(cY (.xib (.c x) (.c c)) [] .e .e).val
theorem bZ7{F:RO}(x c:X)(M:Mem)(t:T):(cY (.xib x c) F M t).val=cc5 (x.ev t) (c.ev t):=Eq.trans rfl (Eq.refl _)
def vr:Option Nat→Int
 |some k=>(k:Int)
 |none=> -1
theorem bq4(l:List UInt8)(c:UInt8):cc5 (sV l) (bV c)=some (.i .i64 (vr (mX c l 0))):=by
 show(DN (ny (Nat.mod c.toNat 256) l.length (bP l) 0)).val=_
 have:=UInt8.toNat_lt c
 rw[show Nat.mod c.toNat 256=c.toNat from Nat.mod_eq_of_lt (by omega),Hv]
 cases mX c l 0<;>rfl
theorem cz5(Φ:Nat→Option CF)(h:Φ 128=some Yy)(l:List UInt8)(b:UInt8)(ct:Nat):To Φ 128 [sV l,bV b] ct (.i .i64 (vr (mX b l 0))):=by
 refine bL h ?_
 simp only[WX,ci1,bZ7,bq4]
def XZ:V→Option UInt8
 | .i .u8 (.ofNat n)=>if n<256 then some (UInt8.ofNat n)else none
 |_=>none
theorem Ml(b:UInt8):XZ (bV b)=some b:=by
 have:=UInt8.toNat_lt b
 show(if b.toNat<256 then some (UInt8.ofNat b.toNat)else none)=_
 rw[ac (by omega),UInt8.ofNat_toNat]
theorem bh3{v:V}{b:UInt8}(h:XZ v=some b):v=bV b:=by
 unfold XZ at h
 split at h
 ·rename_i n;split at h
  ·obtain rfl:=ae h;show V.i .u8 (n:Int)=V.i .u8 ((UInt8.ofNat n).toNat:Int);rw[UInt8.toNat_ofNat',Nat.mod_eq_of_lt (by omega)]
  ·cases h
 ·cases h
def vl:List V→Option V
 |[v,w]=>(sM v).bind fun l=>(XZ w).bind fun b=>some (.i .i64 (vr (mX b l 0)))
 |_=>none
theorem Zk(l:List UInt8)(b:UInt8):vl [sV l,bV b]=some (.i .i64 (vr (mX b l 0))):=by
 show(sM (sV l)).bind (fun l=>(XZ (bV b)).bind fun b=>some (V.i .i64 (vr (mX b l 0))))=_
 rw[nn,Option.bind_some,Ml,Option.bind_some]
theorem cm6(b:UInt8):qI (sV [b]) (.i .i64 0)=some (bV b):=tU [b] .i64 0 (by simp)
theorem cz3(Φ:Nat→Option CF)(h:Φ 106=some Yv)(vl:Φ 128=some (.orc (aj vl)))(l:List UInt8)(b:UInt8)(ct:Nat):To Φ 106 [sV l,sV [b]] ct (.i .i64 (vr (mX b l 0))):=by
 refine bL h ?_
 have e:((([b]:List UInt8).length:Nat):Int)=1:=rfl
 have d0:decide (((([b]:List UInt8).length:Nat):Int)=0)=false:=rfl
 have d1:decide (((([b]:List UInt8).length:Nat):Int)=1)=true:=rfl
 by_cases hl:[b]=l
 ·have dl:decide ([b]=l)=true:=af hl;have hf:mX b l 0=some 0:=by rw[←hl];simp[mX]
  simp only[WX,Int.reduceEq,bs2,Int.ofNat_one,dl,hf];rfl
 ·have dl:decide ([b]=l)=false:=ag hl;simp only[WX,Int.reduceEq,bs2,Int.ofNat_one,dl,vl,cm6,Zk]
def tO:List V→Option V
 |[v,w]=>(sM v).bind fun l=>(sM w).bind fun s=>match s with|[b]=>some (.i .i64 (vr (mX b l 0)))|_=>none
 |_=>none
theorem Hy(l:List UInt8)(b:UInt8):tO [sV l,sV [b]]=some (.i .i64 (vr (mX b l 0))):=by
 show(sM (sV l)).bind (fun l=>(sM (sV [b])).bind fun s=>match s with|[b]=>some (V.i .i64 (vr (mX b l 0)))|_=>none)=_
 rw[nn,Option.bind_some,nn,Option.bind_some]
def tK(c:UInt8)(l:List UInt8):V:=match mX c l 0 with
 |some k=> .t [sV (l.take k),sV (l.drop (k+1)),.b true]
 |none=> .t [sV l,.s 0 0,.b false]
theorem Ux{F:RO}(x:X)(lo hi:Option X)(M:Mem)(t:T):oZ (.slS x lo hi) F M t=oV (BB (x.ev t) (lo.map fun x=>x.ev t) (hi.map fun x=>x.ev t)):=by
 refine(gR ?_).trans (congrArg oV (b13 (F:=F) x lo hi M t))
 intro F' M'
 refine mM ?_
 show((pR (x.ev t) QR.f fun n s=>k9 n s (optN t 0 lo) (optN t n hi))= .f∨ ∃y,(pR (x.ev t) QR.f fun n s=>k9 n s (optN t 0 lo) (optN t n hi))= .v y)
 cases x.ev t with
 |s n s=>
  show QV (k9 n s (optN t 0 lo) (optN t n hi));generalize optN t 0 lo=a;generalize optN t n hi=b;cases a with
  |none=>exact .inl rfl
  |some a=>
   cases b with
   |none=>exact .inl rfl
   |some b=>
    show QV (Bool.rec (motive:=fun _=>QR) .f (Bool.rec (motive:=fun _=>QR) .f (vS (b-a) (s/256^a%256^(b-a))) (Nat.ble b n)) (Nat.ble a b));cases Nat.ble a b with
    |false=>exact .inl rfl
    |true=>
     cases Nat.ble b n with
     |false=>exact .inl rfl
     |true=>exact .inr ⟨_,by show vS _ _=_;unfold vS;rw[aQ,aQ]⟩
 |_=>exact .inl rfl
theorem t75(Φ:Nat→Option CF)(h:Φ 75=some c75)(tO:Φ 106=some (.orc (aj tO)))(l:List UInt8)(b:UInt8)(hl:l.length≤1073741824)(ct:Nat):To Φ 75 [sV l,sV [b]] ct (tK b l):=by
 refine bL h ?_
 unfold tK
 cases hf:mX b l 0 with
 |none=>
  have d:decide ((0:Int)≤vr none)=false:=rfl;simp only[WX,B75,tO,Hy,hf,d]
 |some k=>
  have hk:=(UR hf).2;have d:decide ((0:Int)≤(k:Int))=true:=af (by omega);have hz:vr (some k)=(k:Int):=rfl;have e:((([b]:List UInt8).length:Nat):Int)=1:=rfl;have q1:bu .add (.i .i64 (k:Int)) (.i .i64 1)=some (.i .i64 ((k+1:Nat):Int)):=by rw[bA _ _ (by omega) (by omega)];simp
  have s1:=BC l .i64 k (by omega);have s2:=pl l .i64 (k+1) (by omega);simp only[WX,B75,tO,Hy,hf,d,hz,Int.ofNat_one,q1,s1,s2,Ux]
def vn:List V→Option V
 |[v,w]=>(sM v).bind fun l=>(sM w).bind fun s=>match s with|[b]=>if l.length≤1073741824 then some (tK b l)else none|_=>none
 |_=>none
theorem UY(l:List UInt8)(b:UInt8)(hl:l.length≤1073741824):vn [sV l,sV [b]]=some (tK b l):=by
 show(sM (sV l)).bind (fun l=>(sM (sV [b])).bind fun s=>match s with|[b]=>if l.length≤1073741824 then some (tK b l)else none|_=>none)=_
 rw[nn,Option.bind_some,nn,Option.bind_some]
 exact ac hl
theorem ba0(b:UInt8)(l:List UInt8):∃x y z,tK b l= .t [x,y,z]:=by
 unfold tK
 cases mX b l 0<;>exact⟨_,_,_,rfl⟩
theorem t35(Φ:Nat→Option CF)(h:Φ 35=some c35)(vn:Φ 75=some (.orc (aj vn)))(l:List UInt8)(b:UInt8)(hl:l.length≤1073741824)(ct:Nat):To Φ 35 [sV l,sV [b]] ct (tK b l):=by
 refine bL h ?_
 have h1:=UY l b hl
 obtain⟨x,y,z,hc⟩:=ba0 b l
 rw[hc]at h1⊢
 simp only[WX,B35,vn,h1]
def kK(l p:List UInt8):List UInt8:=if p.length≤l.length∧l.take p.length=p then l.drop p.length else l
theorem t83(Φ:Nat→Option CF)(h:Φ 83=some c83)(l p:List UInt8)(ct:Nat):To Φ 83 [sV l,sV p] ct (.b (decide (p.length≤l.length∧l.take p.length=p))):=by
 refine bL h ?_
 by_cases h1:p.length≤l.length
 ·have d1:decide ((p.length:Int)≤(l.length:Int))=true:=af (by omega);have s1:=BC l .i64 p.length h1;have e:decide (p.length≤l.length∧l.take p.length=p)=decide (l.take p.length=p):=by simp[h1]
  rw[e];simp only[WX,B83,d1,s1]
 ·have d1:decide ((p.length:Int)≤(l.length:Int))=false:=ag (by omega);have e:decide (p.length≤l.length∧l.take p.length=p)=false:=ag (fun hh=>h1 hh.1);rw[e];simp only[WX,B83,d1]
def xO:List V→Option V
 |[v,w]=>(sM v).bind fun l=>(sM w).bind fun p=>some (.b (decide (p.length≤l.length∧l.take p.length=p)))
 |_=>none
theorem Dk(l p:List UInt8):xO [sV l,sV p]=some (.b (decide (p.length≤l.length∧l.take p.length=p))):=by
 show(sM (sV l)).bind (fun l=>(sM (sV p)).bind fun p=>some (V.b (decide (p.length≤l.length∧l.take p.length=p))))=_
 rw[nn,Option.bind_some,nn,Option.bind_some]
theorem t90(Φ:Nat→Option CF)(h:Φ 90=some c90)(xO:Φ 83=some (.orc (aj xO)))(l p:List UInt8)(ct:Nat):To Φ 90 [sV l,sV p] ct (sV (kK l p)):=by
 refine bL h ?_
 unfold kK
 by_cases hp:p.length≤l.length∧l.take p.length=p
 ·have d1:decide (p.length≤l.length∧l.take p.length=p)=true:=af hp;have s1:=pl l .i64 p.length hp.1;rw[ac hp];simp only[WX,B90,xO,Dk,d1,s1]
 ·have d1:decide (p.length≤l.length∧l.take p.length=p)=false:=ag hp;rw[ab hp];simp only[WX,B90,xO,Dk,d1]
def wM:List V→Option V
 |[v,w]=>(sM v).bind fun l=>(sM w).bind fun p=>some (sV (kK l p))
 |_=>none
theorem V2(l p:List UInt8):wM [sV l,sV p]=some (sV (kK l p)):=by
 show(sM (sV l)).bind (fun l=>(sM (sV p)).bind fun p=>some (sV (kK l p)))=_
 rw[nn,Option.bind_some,nn,Option.bind_some]
theorem t53(Φ:Nat→Option CF)(h:Φ 53=some c53)(wM:Φ 90=some (.orc (aj wM)))(l p:List UInt8)(ct:Nat):To Φ 53 [sV l,sV p] ct (sV (kK l p)):=by
 refine bL h ?_
 simp only[WX,B53,wM,V2]
end
end Go.Proofs.YtkcelmimbmbfkaaGreatDoor.Ev
