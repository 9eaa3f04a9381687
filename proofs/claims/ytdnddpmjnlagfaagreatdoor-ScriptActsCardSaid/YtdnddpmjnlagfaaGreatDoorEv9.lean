/- What is proved here: pieces of the evaluator's soundness: if the evaluator comes to a value, the model's run comes to it, for every world and tape; no conditions beyond the hypotheses of each theorem. -/
import Derived.Test.YtdnddpmjnlagfaaGreatDoorEv8
set_option linter.unusedSimpArgs false
set_option linter.unusedVariables false
set_option linter.defProp false
set_option maxRecDepth 10000
set_option maxHeartbeats 8000000
namespace Go.Proofs.YtdnddpmjnlagfaaGreatDoor.Ev
open Go
noncomputable section
abbrev ch4(u:List (Option V))(x0 x2 x3 x6:V):T:=(.n (.n (.n (.n (am u 63 31 95 15 79 47 111) (uO u 7) (am u 71 39 103 23 87 55 119)) (some x3) (.n (am u 67 35 99 19 83 51 115) (uO u 11) (am u 75 43 107 27 91 59 123))) (uO u 1) (.n (.n (am u 65 33 97 17 81 49 113) (uO u 9) (am u 73 41 105 25 89 57 121)) (uO u 5) (.n (am u 69 37 101 21 85 53 117) (uO u 13) (am u 77 45 109 29 93 61 125)))) (some x0) (.n (.n (.n (am u 64 32 96 16 80 48 112) (uO u 8) (am u 72 40 104 24 88 56 120)) (uO u 4) (.n (am u 68 36 100 20 84 52 116) (uO u 12) (am u 76 44 108 28 92 60 124))) (some x2) (.n (.n (am u 66 34 98 18 82 50 114) (uO u 10) (am u 74 42 106 26 90 58 122)) (some x6) (.n (am u 70 38 102 22 86 54 118) (uO u 14) (am u 78 46 110 30 94 62 126)))))
def az0:CC:=(.reg [(aa a2 (.al 26 [(.i .i64 0),(.i .i64 0),(.s 0 0),.l0,.l0])),(qq a3 (.mv (x6 0)))])
def ck2:=wu az0.eq_1
def az1:CC:=(.reg [(qq dC (.mv z0)),(ee dJ (.call 34 [dy,(.c (.s 1 32))])),(qq dm (.mv ec)),(qq dX (.ex 0 dB)),(qq dS (.ex 1 dB)),(qq a4 (.mv dL)),(qq a5 (.mv eA))])
def ck3:=wu az1.eq_1
def az2:CC:=(.reg [(aa a6 (.al 26 [(.i .i64 0),(.i .i64 0),(.s 0 0),.l0,.l0]))])
def ck4:=wu az2.eq_1
def az3:CC:=(.reg [(qq dN (.mv z4)),(ee fi (.cv fk [])),(qq a7 (.mv fl))])
def ck5:=wu az3.eq_1
def az4:CC:=(.reg [(ee eL (.call 35 [])),(qq eM (.mv (x6 0)))])
def ck6:=wu az4.eq_1
def az5:CC:=(.reg [(qq ew (.bi .lss fm (x6 8)))])
def b31:=wu az5.eq_1
def az6:CC:=(.reg [(qq dG (.mv fm)),(qq eE (.ixA1 8 1 fT fm)),(qq a8 (.mv fX)),(qq a9 (.mv fY))])
def ck7:=wu az6.eq_1
def az7:CC:=(.reg [(qq eU (.mv z8)),(qq fC (.bi .gtr ib (x6 0))),(qq fU (.mv gi)),(ak fp (.mv z9) fU),(ak fD (.mv z7) fU),(ak iF (.bi .eql ij il) fU),(qq gu (.pk ic iE xF))])
def ck8:=wu az7.eq_1
def az8:CC:=(.reg [(qq gH (.mv z8)),(qq ga (.fa 0 z6)),(ez (.st 1 jz ji))])
def ck9:=wu az8.eq_1
def Qy:CC:=(.seq az7 (.cond jh az8 .skip))
def bk2:=wu Qy.eq_1
def Qz:CC:=(.reg [(qq iG (.bi .add fm (x6 1))),(qq eM (.mv jj))])
def bk3:=wu Qz.eq_1
def QA:CC:=(.seq (.cond fW .skip (.exit 0)) (.seq (.block 1 (.seq az6 Qy)) Qz))
def ZD:=wu QA.eq_1
def lz:CC:=(.reg [(qq jb (.fa 0 z6)),(qq iP (.ld1 k5))])
def wT:=wu lz.eq_1
def QB:CC:=(.reg [(qq j0 (.bi .eql jk (x6 1))),(qq ia (.mv k8))])
def wU:=wu QB.eq_1
def QC:CC:=(.reg [(qq ie (.bi .eql jk (x6 2))),(qq ia (.mv kg))])
def AR:=wu QC.eq_1
def lA:CC:=(.seq QB (.cond j1 .skip QC))
def wV:=wu lA.eq_1
def E7:CC:=(.reg [(qq jB (.mv z5)),(ee jc (.cv kh [])),(ee jd (.call 36 [kK])),(qq jm (.fa 1 z6)),(ez (.st 1 lm ll))])
def bk4:=wu E7.eq_1
def QD:CC:=(.reg [(qq kS (.bi .eql jk (x6 3))),(qq k6 (.mv mJ))])
def FY:=wu QD.eq_1
def QE:CC:=(.reg [(qq jv (.mv z5)),(ee gj (.cv mw [])),(ee mh (.call 37 [mf])),(qq kT (.mv mM)),(qq k7 (.ex 0 lq)),(qq kd (.ex 1 lq)),(qq iH (.fa 3 z6)),(ez (.st 1 nO nN))])
def bk5:=wu QE.eq_1
def QF:CC:=(.reg [(qq mC (.bi .eql jk (x6 4))),(qq mB (.mv ot))])
def FZ:=wu QF.eq_1
def QG:CC:=(.reg [(qq kL (.mv z5)),(ee mD (.cv p7 [])),(ee oy (.call 38 [p8])),(qq kW (.mv pV)),(qq mE (.ex 0 nP)),(qq mF (.ex 1 nP)),(qq oz (.fa 3 z6)),(ez (.st 1 rp pW))])
def bk6:=wu QG.eq_1
def QH:CC:=(.reg [(qq rt (.bi .eql jk (x6 6))),(qq mR (.mv xn))])
def G0:=wu QH.eq_1
def QI:CC:=(.reg [(qq qb (.mv z5)),(ee sK (.cv sH [])),(qq pc (.fa 2 z6)),(ez (.st 1 xp uz))])
def bk7:=wu QI.eq_1
def QJ:CC:=(.reg [(qq pU (.bi .eql jk (x6 7))),(qq mi (.mv xr))])
def G3:=wu QJ.eq_1
def QK:CC:=(.reg [(qq tL (.mv z5)),(ee sL (.cv xu [])),(qq pd (.bi .neq xD (.c (.s 0 0))))])
def bk8:=wu QK.eq_1
def QL:CC:=(.cond yf .skip (.exit 3))
def ZE:=wu QL.eq_1
def QM:CC:=(.reg [(qq uc (.mv z4)),(ee sM (.cv zC [])),(ee ru (.call 34 [zD,(.c (.s 1 58))])),(qq ub (.mv zE)),(qq xN (.ex 0 xE)),(qq BB (.ex 1 xE)),(qq cg (.mv BD)),(qq cF (.mv BE))])
def bk9:=wu QM.eq_1
def QN:CC:=(.dreg 16 [(0,0,(qq BC (.fa 4 z6))),(1,1,(qq xO (.ld1 GT))),(2,0,(qq DB (.mv cm))),(5,0,(qq rC (.mv cm))),(8,0,(qq DU (.mv cm))),(3,4,(ee DC (.cv PF []))),(4,12,(ee DD (.call 36 [Nx]))),(6,60,(ee DR (.cv GV []))),(7,124,(ee DT (.call 36 [Pz]))),(9,508,(ee DV (.cv PH []))),(10,1020,(ee xA (.call 36 [PI]))),(11,2044,(qq DW (.bld [(.i .i64 0),(.i .i64 0),(.i .i64 0)] [(0,1,PG),(1,1,Ny),(2,1,PJ)]))),(12,4092,(aa DX (.bsl 72 1 3 [(.i .i64 0),(.i .i64 0),(.i .i64 0)] [(0,Nz)]))),(13,8191,(ee xP (.app 72 3 24 GU NA))),(14,16383,(qq DY (.fa 4 z6))),(15,32767,(ez (.st 1 PL PK)))])
def bl0:=wu QN.eq_1
def QP:CC:=(.loop (.seq (.seq QK QL) (.block 4 (.seq QM QN))))
def bl1:=wu QP.eq_1
def QQ:CC:=(.cond xq (.block 3 QP) .skip)
def G5:=wu QQ.eq_1
def QS:CC:=(.cond rq QI (.seq QJ QQ))
def G6:=wu QS.eq_1
def QT:CC:=(.cond oF QG (.seq QH QS))
def G7:=wu QT.eq_1
def QU:CC:=(.cond lr QE (.seq QF QT))
def G8:=wu QU.eq_1
def lB:CC:=(.cond j1 E7 (.seq QD QU))
def wW:=wu lB.eq_1
def QW:CC:=(.reg [(qq DE (.ldn 5 z6)),(ee H5 (.call 33 [z95])),(qq BV (.mv NB)),(qq H6 (.ex 0 PM)),(qq H7 (.ex 1 PM)),(qq de (.mv z97)),(qq cO (.mv z98))])
def bl2:=wu QW.eq_1
def QX:CC:=(.reg [(qq BW (.mv cK)),(qq mO (.un .not PN)),(qq mA (.mv y5)),(aU mP (.mv cT) mA),(aU pa (.mv z0) mA),(aU qa (.bi .neq xj y6) mA),(qq tG (.pk sG xT y7))])
def bl3:=wu QX.eq_1
def QY:CC:=(.reg [(qq uE (.bld [(.i .i64 0),(.i .i64 0),(.s 0 0),.l0,.l0] [])),(ez (.st 5 z2 Bx)),(qq a3 (.mv (x6 4)))])
def bl4:=wu QY.eq_1
def QZ:CC:=(.cond y8 (.seq QY .ret) .skip)
def bl5:=wu QZ.eq_1
def R0:CC:=(.reg [(qq iO (.ldn 5 z6)),(ez (.st 5 z2 y9)),(qq a3 (.mv (x6 0)))])
def bl6:=wu R0.eq_1
def jC:CC:=(.seq (.seq QW (.seq QX QZ)) (.seq R0 .ret))
def bl7:=wu jC.eq_1
def R1:CC:=(.seq (.seq az4 (.block 0 (.loop (.seq az5 QA)))) (.seq (.seq lz (.block 2 (.seq lA lB))) jC))
def bl9:=wu R1.eq_1
def c10:CF:= .mk 7 [.cn a2 5,.t a3] (.seq az0 (.seq az1 (.seq az2 (.seq az3 R1))))
theorem e10(v0:V):bh 7 [v0]=(.n xC (some v0) xC):=rfl
def BA:=ai @e10 (ai @ck2 (ai @ck3 (ai @ck4 (ai @ck5 (ai @ck6 (ai @b31 (ai @ck7 (ai @ck8 (ai @ck9 (ai @bk2 (ai @bk3 (ai @ZD (ai @wT (ai @wU (ai @AR (ai @wV (ai @bk4 (ai @FY (ai @bk5 (ai @FZ (ai @bk6 (ai @G0 (ai @bk7 (ai @G3 (ai @bk8 (ai @ZE (ai @bk9 (ai @bl0 (ai @bl1 (ai @G5 (ai @G6 (ai @G7 (ai @G8 (ai @wW (ai @bl2 (ai @bl3 (ai @bl4 (ai @bl5 (ai @bl6 (ai @bl7 (@bl9)))))))))))))))))))))))))))))))))))))))))
theorem aQ.lo{M:Mem}{c0 c1 c b ty sz:Nat}{v:V}{es:List (List V)}(h:aQ M c1 c b ty sz v es)(hl:c0≤c1):aQ M c0 c b ty sz v es:=by
 rcases h with⟨h0,h|⟨h1,h2,h3,h4⟩⟩
 ·exact⟨h0,.inl h⟩
 ·exact⟨h0,.inr ⟨by omega,h2,h3,h4⟩⟩
theorem cU{M:Mem}{c0 c b ty sz:Nat}{v:V}{es:List (List V)}(h:aQ M c0 c b ty sz v es):cY v=true∧flatten v=[v]∧bv [v]=true:=by
 rcases h with⟨_,⟨_,rfl⟩|⟨_,_,rfl,_⟩⟩<;>exact⟨rfl,rfl,rfl⟩
def DL(M:Mem)(lo c:Nat)(s:List UInt8)(r:V):Prop:=
 (∃y vd vl b1 b2,r= .t [fj y vd vl,.i .i64 0]∧jS y=true∧cw y=s∧ua y∧aQ M lo c b1 5 1 vd (y.dt.map fun x=>[bV x])∧aQ M lo c b2 72 3 vl (dj y.ls))∨
 (r= .t [.g [.i .i64 0,.i .i64 0,.s 0 0,.l0,.l0],.i .i64 4]∧ ∀y,jS y=true→cw y≠s)
def mK:List V:=[.i .i64 0,.i .i64 0,.s 0 0,.l0,.l0]
theorem uR{Φ:Nat→Option CF}{L:List eT}(p:WrP Φ L){F:RO}{M0 M:Mem}{c0 c ra aa b1 b2:Nat}{vd vl:V}{y:AC}{s:List UInt8}(ok:d9 F M c)(gr:Gr c0 M0 c M)(ht:bA F L=true)(hb:ua y)(hra:M.get ra=some (ax 26 mK))(h1:c0≤ra)(h2:ra<c)
 (haa:M.get aa=some (ax 26 [.i .i64 y.k,.i .i64 y.a,sV y.tx,vd,vl])) (h3:aa<c) (hne:ra≠aa) (hd:aQ M c0 c b1 5 1 vd (y.dt.map fun x=>[bV x])) (hl:aQ M c0 c b2 72 3 vl (dj y.ls)) (n1:ra≠b1) (n2:ra≠b2) (hR:RdA s y) (u:List (Option V)):
 Wp jC (K Φ none 10 F) (.mk ((ch4 u (sV s) (.p ra 0) (.i .i64 0) (.p aa 0))) [] M c) (cX F [.cn (.r .h) 5,.t (.l (.l .h))] fun r M' c'=>DL M' c0 c' s r∧Gr c0 M0 c' M'):=by
 have ld:loadN F M aa 0 5=some [.i .i64 y.k,.i .i64 y.a,sV y.tx,vd,vl]:=bQ haa 5 rfl
 simp only[WX,BA,ld]
 refine av ((show ou (cu (iu Φ) F 33 [fj y vd vl] M c (Φ 33)) _ from(r33 p ok ht hb hd.sl hl.sl)).mono ?_)
 rintro r M2 c2 ⟨⟨w,rfl,hw⟩,g2⟩
 have ra2:=(g2.old ra h2).trans hra
 have gr2:=gr.trans g2
 have ok2:=g2.ok ok
 have hc2:=g2.le
 have aa2:=(g2.old aa h3).trans haa
 have ld2:loadN F M2 aa 0 5=some [.i .i64 y.k,.i .i64 y.a,sV y.tx,vd,vl]:=bQ aa2 5 rfl
 have st0:cC M2 ra 0 [V.i .i64 0,V.i .i64 0,V.s 0 0,V.l0,V.l0]=some (M2.set ra (ax 26 mK)):=bf ra2 0 mK (by simp[mK]) rfl
 obtain⟨o1,o2,o3⟩:=cU hd
 obtain⟨o4,o5,o6⟩:=cU hl
 have st1:cC M2 ra 0 [V.i .i64 y.k,V.i .i64 y.a,sV y.tx,vd,vl]=some (M2.set ra (ax 26 [V.i .i64 y.k,V.i .i64 y.a,sV y.tx,vd,vl])):=bf ra2 0 [V.i .i64 y.k,V.i .i64 y.a,sV y.tx,vd,vl] (by simp[mK]) (by simp only[dh,Af,eP,o1,o4,pf,Bool.and_true])
 have no:(∀x,jS x=true→cw x≠s)→DL (M2.set ra (ax 26 mK)) c0 c2 s (.t [.g mK,.i .i64 4]):=fun h=> .inr ⟨rfl,h⟩
 have gN:=fun x=>gr2.set ra x h1 (by omega) (ah _)
 have ldN:loadN F (M2.set ra (ax 26 mK)) ra 0 5=some [V.i .i64 0,V.i .i64 0,V.s 0 0,V.l0,V.l0]:=bQ (au _ _ _) 5 rfl
 have ldY:loadN F (M2.set ra (ax 26 [V.i .i64 y.k,V.i .i64 y.a,sV y.tx,vd,vl])) ra 0 5=some [V.i .i64 y.k,V.i .i64 y.a,sV y.tx,vd,vl]:=bQ (au _ _ _) 5 rfl
 have hd2:=hd.gr g2
 have hl2:=hl.gr g2
 cases ho:jS y with
 |false=>
  have hno:∀x,jS x=true→cw x≠s:=fun x hx e=>by have:=hR x hx e;subst this;rw[ho]at hx;cases hx
  simp only[WX,Nat.reduceAdd,BA,st0,ldN];exact⟨no hno,gN _⟩
 |true=>
  have hw:=hw ho;subst hw;have e1:=pi (cw y) s;by_cases hs:cw y=s
  ·rw[ae hs,Bool.not_true]at e1;simp only[WX,Nat.reduceAdd,BA,e1,ld2,st1,ldY];exact⟨.inl ⟨y,vd,vl,b1,b2,rfl,ho,hs,hb,hd2.up (ah _) fun _=>aK _ _ (Ne.symm n1),hl2.up (ah _) fun _=>aK _ _ (Ne.symm n2)⟩,gN _⟩
  ·have hno:∀x,jS x=true→cw x≠s:=fun x hx e=>by have:=hR x hx e;subst this;exact hs e
   rw[ag hs,Bool.not_false]at e1;simp only[WX,Nat.reduceAdd,BA,e1,st0,ldN];exact⟨no hno,gN _⟩
abbrev r3(u:List (Option V))(x0 x2 x3 x4 x5 x6:V):T:=(.n (.n (.n (.n (am u 63 31 95 15 79 47 111) (uO u 7) (am u 71 39 103 23 87 55 119)) (some x3) (.n (am u 67 35 99 19 83 51 115) (uO u 11) (am u 75 43 107 27 91 59 123))) (uO u 1) (.n (.n (am u 65 33 97 17 81 49 113) (uO u 9) (am u 73 41 105 25 89 57 121)) (some x5) (.n (am u 69 37 101 21 85 53 117) (uO u 13) (am u 77 45 109 29 93 61 125)))) (some x0) (.n (.n (.n (am u 64 32 96 16 80 48 112) (uO u 8) (am u 72 40 104 24 88 56 120)) (some x4) (.n (am u 68 36 100 20 84 52 116) (uO u 12) (am u 76 44 108 28 92 60 124))) (some x2) (.n (.n (am u 66 34 98 18 82 50 114) (uO u 10) (am u 74 42 106 26 90 58 122)) (some x6) (.n (am u 70 38 102 22 86 54 118) (uO u 14) (am u 78 46 110 30 94 62 126)))))
def kf(w:List UInt8):Nat→Int
 |0=>0
 |j+1=>if 0<j∧tX.getD j []=w then j else kf w j
theorem aQ.norm{M:Mem}{c0 c b ty sz:Nat}{v:V}{es:List (List V)}(h:aQ M c0 c b ty sz v es):∃b',c0≤b'∧aQ M c0 c b' ty sz v es:=by
 rcases h with⟨h0,h|⟨h1,h2,h3,h4⟩⟩
 ·exact⟨c0,ah _,h0,.inl h⟩
 ·exact⟨b,h1,h0,.inr ⟨h1,h2,h3,h4⟩⟩
theorem LB(w:List UInt8):∀n,(kf w n=0∧ ∀j,0<j→j<n→tX.getD j []≠w)∨(∃j,0<j∧j<n∧kf w n=(j:Int)∧tX.getD j []=w)
 |0=> .inl ⟨rfl,fun j _ h=>by omega⟩
 |n+1=>by
  rw[kf];by_cases h:0<n∧tX.getD n []=w
  ·rw[ac h];exact .inr ⟨n,h.1,by omega,rfl,h.2⟩
  ·rw[ab h];rcases LB w n with⟨h1,h2⟩|⟨j,h1,h2,h3,h4⟩
   ·refine .inl ⟨h1,fun j a b=>?_⟩;by_cases e:j=n
    ·subst e;exact fun e=>h ⟨a,e⟩
    ·exact h2 j a (by omega)
   ·exact .inr ⟨j,h1,by omega,h3,h4⟩
theorem bV1(w:List UInt8):(∃k:Int,(1≤k∧k≤7)∧kf w 8=k∧kw k=w)∨(kf w 8=0∧ ∀k,1≤k∧k≤7→kw k≠w):=by
 rcases LB w 8 with⟨h1,h2⟩|⟨j,h1,h2,h3,h4⟩
 ·refine .inr ⟨h1,fun k hk=>?_⟩;unfold kw;exact h2 k.toNat (by omega) (by omega)
 ·exact .inl ⟨(j:Int),by omega,h3,by unfold kw;rw[Int.toNat_natCast];exact h4⟩
theorem be7(j:Nat)(h:j<8):Cz 8 1 (.g (tX.map sV)) (.i .i64 (j:Int))=some (sV (tX.getD j [])):=by
 rw[Fa,ac (by omega),Int.toNat_natCast]
 have:j=0∨j=1∨j=2∨j=3∨j=4∨j=5∨j=6∨j=7:=by omega
 rcases this with rfl|rfl|rfl|rfl|rfl|rfl|rfl|rfl<;>rfl
structure NE(P:Program)(g13 g3 g4:Nat)(Φ:Nat→Option CF)(L:List eT):Prop extends WrP Φ L where
 h40:Φ 40=some c40
 h87:Φ 87=some c87
 h123:Φ 123=some Ez
 h36:Φ 36=some c36
 h34:Φ 34=some c34
 h83:Φ 83=some c83
 h84:Φ 84=some c84
 h38:Φ 38=some c38
 h64:Φ 64=some (.orc (bg py))
 h86:Φ 86=some (.orc (Fj P g13 g3 g4))
 h10:Φ 10=some c10
theorem NE.nu{P:Program}{g13 g3 g4:Nat}{Φ:Nat→Option CF}{L:List eT}(p:NE P g13 g3 g4 Φ L):NuP Φ:={p.toDP with h40:=p.h40,h87:=p.h87,h123:=p.h123}
structure xG(P:Program)(g13 g3 g4:Nat)(L:List eT)(F:RO)(M:Mem):Prop where
 ht:bA F L=true
 e1:cW F 0
 e2:cW F 1
 low:∀g,g<1000→M.get g=none
 hL:BJ P g13 g3 g4 F
structure Lm(M:Mem)(b:Nat)(rest:List UInt8)(cells:List V):Prop where
 m0:M.get b=some (ax 26 mK)
 m1:M.get (b+1)=some (ax 9 [sV [32]])
 m2:M.get (b+2)=some (ax 9 [sV rest])
 m3:M.get (b+3)=some (ax 26 cells)
theorem Lm.grow{M M2:Mem}{b c c2:Nat}{rest:List UInt8}{cells:List V}(h:Lm M b rest cells)(hb:b+3<c)(g:Gr c M c2 M2):Lm M2 b rest cells:=
 ⟨(g.old _ (by omega)).trans h.m0,(g.old _ (by omega)).trans h.m1,(g.old _ (by omega)).trans h.m2,(g.old _ (by omega)).trans h.m3⟩
theorem Lm.put{M:Mem}{b:Nat}{rest:List UInt8}{cells cells':List V}(h:Lm M b rest cells):Lm (M.set (b+3) (ax 26 cells')) b rest cells':=
 ⟨(aK _ _ (by omega)).trans h.m0,(aK _ _ (by omega)).trans h.m1,(aK _ _ (by omega)).trans h.m2,au _ _ _⟩
def f83(b:Nat):V:= .f 83 [] [.p (b+2) 0,.p (b+1) 0]
def f84(b:Nat):V:= .f 84 [] [.p (b+2) 0]
def lu(M0:Mem)(c0:Nat)(s:List UInt8)(r:V)(M':Mem)(c':Nat):Prop:=DL M' c0 c' s r∧Gr c0 M0 c' M'
theorem Yl{P:Program}{g13 g3 g4:Nat}{Φ:Nat→Option CF}{L:List eT}(p:NE P g13 g3 g4 Φ L){F:RO}{M0 M:Mem}{b c:Nat}{s:List UInt8}{k:Int}(ok:d9 F M c)(gr:Gr b M0 c M)(hb:b+3<c)(e:xG P g13 g3 g4 L F M0)(hge:1000≤b)(hs:s.length≤20000)(hk:k=1∨k=2)(hkw:kw k=eZ 32 s)
 (hm:Lm M b (dg 32 s) [.i .i64 k,.i .i64 0,.s 0 0,.l0,.l0]) (u:List (Option V)):
 Wp (.seq (.seq lz (.block 2 (.seq lA lB))) jC) (K Φ none 10 F) (.mk ((r3 u (sV s) (.p b 0) (.i .i64 0) (f83 b) (f84 b) (.p (b+3) 0))) [] M c) (cX F [.cn (.r .h) 5,.t (.l (.l .h))] (lu M0 b s)):=by
 have l0:load1 F M (b+3) 0=some (.i .i64 k):=aj hm.m3 0
 have ha:=dH 32 s
 have fin:∀(u:List (Option V)),Wp E7 (K Φ none 10 F) (.mk ((r3 u (sV s) (.p b 0) (.i .i64 0) (f83 b) (f84 b) (.p (b+3) 0))) [] M c) (fV 2 (lg jC (K Φ none 10 F) (cX F [.cn (.r .h) 5,.t (.l (.l .h))] (lu M0 b s)))):=by
  intro u;simp only[WX,BA,f84];refine av ((r84 Φ p.h84 hm.m2).mono ?_);rintro r M1 c1 ⟨rfl,rfl,rfl⟩;simp only[WX];refine av ((r36 p.h36 p.nu ok e.e1 e.e2 (fun g hg=>(gr.old g (by omega)).trans (e.low g hg)) (dg 32 s) (by omega)).mono ?_);rintro r M2 c2 ⟨z,rfl,hz,g2⟩;have hm2:=hm.grow hb g2;have gr2:=gr.trans g2;have hst:=bf hm2.m3 1 [V.i .i64 z] (by simp) rfl;rw[show over [V.i .i64 k,V.i .i64 0,V.s 0 0,V.l0,V.l0] 1 [V.i .i64 z]=[V.i .i64 k,V.i .i64 z,sV [],V.l0,V.l0]from rfl]at hst;simp only[WX,hst];have hm3:=hm2.put (cells':=[V.i .i64 k,V.i .i64 z,sV [],V.l0,V.l0]);have hc2:=g2.le
  exact uR p.toWrP (u:=(G1 (X1 (G2 (X2 (G1 (aM (bO (bE (X8 [])))))))))) (y:=⟨k,z,[],[],[]⟩) (b1:=0) (b2:=0) ((g2.ok ok).put (by omega) hm2.m3) (gr2.set (b+3) _ (by omega) (by omega) (ah _)) e.ht ⟨hz.1,by simp,by simp,by simp,fun x hx=>by cases hx⟩ hm3.m0 (ah _) (by omega) hm3.m3 (by omega) (by omega) aQ.nil aQ.nil (by omega) (by omega)
   (mr (fun k' h1 h2=>(show k=k' from gQ k k' (by omega) h1 (hkw.trans h2.symm))) fun x hx hxk hr=>b10 hk hz x hx hxk hr)
 rcases hk with rfl|rfl
 ·simp only[WX,wT,wU,wV,wW,l0];exact fin (G1 (X1 (G4 (G1 (aM (bO (bE (X8 []))))))))
 ·simp only[WX,Int.reduceEq,wT,wU,AR,wV,wW,l0];exact fin (G1 (X1 (G4 (G1 (aM (bO (bE (X8 []))))))))
theorem bS6{P:Program}{g13 g3 g4:Nat}{Φ:Nat→Option CF}{L:List eT}(p:NE P g13 g3 g4 Φ L){F:RO}{M0 M:Mem}{b c:Nat}{s:List UInt8}(ok:d9 F M c)(gr:Gr b M0 c M)(hb:b+3<c)(e:xG P g13 g3 g4 L F M0)(hge:1000≤b)(hs:s.length≤20000)(hkw:kw 3=eZ 32 s)
 (hm:Lm M b (dg 32 s) [.i .i64 3,.i .i64 0,.s 0 0,.l0,.l0]) (u:List (Option V)):
 Wp (.seq (.seq lz (.block 2 (.seq lA lB))) jC) (K Φ none 10 F) (.mk ((r3 u (sV s) (.p b 0) (.i .i64 0) (f83 b) (f84 b) (.p (b+3) 0))) [] M c) (cX F [.cn (.r .h) 5,.t (.l (.l .h))] (lu M0 b s)):=by
 have l0:load1 F M (b+3) 0=some (.i .i64 3):=aj hm.m3 0
 have ha:=dH 32 s
 have zr:cJ 0:=⟨by decide,by decide⟩
 simp only[WX,Int.reduceEq,BA,l0,f84]
 refine av ((r84 Φ p.h84 hm.m2).mono ?_)
 rintro r M1 c1 ⟨rfl,rfl,rfl⟩
 simp only[WX]
 refine av ((cd7 p.toDP ok e.e1 e.e2 (fun g hg=>(gr.old g (by omega)).trans (e.low g hg)) (dg 32 s) (by omega)).mono ?_)
 rintro r M2 c2 ⟨v,bo,rfl,⟨bb,hA⟩,g2⟩
 obtain⟨bb,hbb,hA⟩:=hA.norm
 have hm2:=hm.grow hb g2
 have gr2:=gr.trans g2
 have hc2:=g2.le
 obtain⟨o1,o2,o3⟩:=cU hA
 have hst:=bf hm2.m3 3 [v] (by simp) o3
 rw[show over [V.i .i64 3,V.i .i64 0,V.s 0 0,V.l0,V.l0] 3 [v]=[V.i .i64 3,V.i .i64 0,sV [],v,V.l0]from rfl]at hst
 simp only[WX,o2,hst]
 have hm3:=hm2.put (cells':=[V.i .i64 3,V.i .i64 0,sV [],v,V.l0])
 have hlen:=rg _ (dg 32 s) (ah _)
 exact uR p.toWrP (u:=(G1 (X1 (G2 (X2 (G1 (aM (bO (bE (X8 [])))))))))) (y:=⟨3,0,[],ke (dg 32 s),[]⟩) (b1:=bb) (b2:=0) ((g2.ok ok).put (by omega) hm2.m3) (gr2.set (b+3) _ (by omega) (by omega) (ah _)) e.ht ⟨zr,by simp,by dsimp only;omega,by simp,fun x hx=>by cases hx⟩ hm3.m0 (ah _) (by omega) hm3.m3 (by omega) (by omega) ((hA.up (ah _) fun _=>aK _ _ (by omega)).lo (by omega)) aQ.nil (by omega) (by omega)
  (mr (fun k' h1 h2=>(show(3:Int)=k' from gQ 3 k' (by omega) h1 (hkw.trans h2.symm))) fun x hx hxk hr=>ce1 (fun l' h=>by rw[h,Zz]) x hx hxk hr)
theorem bS7{P:Program}{g13 g3 g4:Nat}{Φ:Nat→Option CF}{L:List eT}(p:NE P g13 g3 g4 Φ L){F:RO}{M0 M:Mem}{b c:Nat}{s:List UInt8}(ok:d9 F M c)(gr:Gr b M0 c M)(hb:b+3<c)(e:xG P g13 g3 g4 L F M0)(hge:1000≤b)(hs:s.length≤20000)(hkw:kw 4=eZ 32 s)
 (hm:Lm M b (dg 32 s) [.i .i64 4,.i .i64 0,.s 0 0,.l0,.l0]) (u:List (Option V)):
 Wp (.seq (.seq lz (.block 2 (.seq lA lB))) jC) (K Φ none 10 F) (.mk ((r3 u (sV s) (.p b 0) (.i .i64 0) (f83 b) (f84 b) (.p (b+3) 0))) [] M c) (cX F [.cn (.r .h) 5,.t (.l (.l .h))] (lu M0 b s)):=by
 have l0:load1 F M (b+3) 0=some (.i .i64 4):=aj hm.m3 0
 have ha:=dH 32 s
 have zr:cJ 0:=⟨by decide,by decide⟩
 simp only[WX,Int.reduceEq,BA,l0,f84]
 refine av ((r84 Φ p.h84 hm.m2).mono ?_)
 rintro r M1 c1 ⟨rfl,rfl,rfl⟩
 simp only[WX]
 refine av ((r38 p.h38 p.toWoP p.h86 e.hL ok e.e1 e.e2 (fun g hg=>(gr.old g (by omega)).trans (e.low g hg)) (dg 32 s) (by omega)).mono ?_)
 rintro r M2 c2 ⟨v,bo,rfl,⟨bb,hA⟩,g2⟩
 obtain⟨bb,hbb,hA⟩:=hA.norm
 have hm2:=hm.grow hb g2
 have gr2:=gr.trans g2
 have hc2:=g2.le
 obtain⟨o1,o2,o3⟩:=cU hA
 have hst:=bf hm2.m3 3 [v] (by simp) o3
 rw[show over [V.i .i64 4,V.i .i64 0,V.s 0 0,V.l0,V.l0] 3 [v]=[V.i .i64 4,V.i .i64 0,sV [],v,V.l0]from rfl]at hst
 simp only[WX,o2,hst]
 have hm3:=hm2.put (cells':=[V.i .i64 4,V.i .i64 0,sV [],v,V.l0])
 have hlen:=ri _ (dg 32 s) (ah _)
 exact uR p.toWrP (u:=(G1 (X1 (G2 (X2 (G1 (aM (bO (bE (X8 [])))))))))) (y:=⟨4,0,[],su (dg 32 s),[]⟩) (b1:=bb) (b2:=0) ((g2.ok ok).put (by omega) hm2.m3) (gr2.set (b+3) _ (by omega) (by omega) (ah _)) e.ht ⟨zr,by simp,by dsimp only;omega,by simp,fun x hx=>by cases hx⟩ hm3.m0 (ah _) (by omega) hm3.m3 (by omega) (by omega) ((hA.up (ah _) fun _=>aK _ _ (by omega)).lo (by omega)) aQ.nil (by omega) (by omega)
  (mr (fun k' h1 h2=>(show(4:Int)=k' from gQ 4 k' (by omega) h1 (hkw.trans h2.symm))) fun x hx hxk hr=>ce2 (fun l' h=>by rw[h,rj]) x hx hxk hr)
theorem bS9{P:Program}{g13 g3 g4:Nat}{Φ:Nat→Option CF}{L:List eT}(p:NE P g13 g3 g4 Φ L){F:RO}{M0 M:Mem}{b c:Nat}{s:List UInt8}(ok:d9 F M c)(gr:Gr b M0 c M)(hb:b+3<c)(e:xG P g13 g3 g4 L F M0)(hge:1000≤b)(hs:s.length≤20000)(hkw:kw 6=eZ 32 s)
 (hm:Lm M b (dg 32 s) [.i .i64 6,.i .i64 0,.s 0 0,.l0,.l0]) (u:List (Option V)):
 Wp (.seq (.seq lz (.block 2 (.seq lA lB))) jC) (K Φ none 10 F) (.mk ((r3 u (sV s) (.p b 0) (.i .i64 0) (f83 b) (f84 b) (.p (b+3) 0))) [] M c) (cX F [.cn (.r .h) 5,.t (.l (.l .h))] (lu M0 b s)):=by
 have l0:load1 F M (b+3) 0=some (.i .i64 6):=aj hm.m3 0
 have ha:=dH 32 s
 have zr:cJ 0:=⟨by decide,by decide⟩
 simp only[WX,Int.reduceEq,BA,l0,f84]
 refine av ((r84 Φ p.h84 hm.m2).mono ?_)
 rintro r M1 c1 ⟨rfl,rfl,rfl⟩
 have hst:=bf hm.m3 2 [sV (dg 32 s)] (by simp) (by rw[dh,eP];rfl)
 rw[show over [V.i .i64 6,V.i .i64 0,V.s 0 0,V.l0,V.l0] 2 [sV (dg 32 s)]=[V.i .i64 6,V.i .i64 0,sV (dg 32 s),V.l0,V.l0]from rfl]at hst
 simp only[WX,n9,hst]
 have hm3:=hm.put (cells':=[V.i .i64 6,V.i .i64 0,sV (dg 32 s),V.l0,V.l0])
 exact uR p.toWrP (u:=(G1 (X1 (G2 (X2 (G1 (aM (bO (bE (X8 [])))))))))) (y:=⟨6,0,dg 32 s,[],[]⟩) (b1:=0) (b2:=0) (ok.put (by omega) hm.m3) (gr.set (b+3) _ (by omega) (by omega) (ah _)) e.ht ⟨zr,by dsimp only;omega,by simp,by simp,fun x hx=>by cases hx⟩ hm3.m0 (ah _) (by omega) hm3.m3 (by omega) (by omega) aQ.nil aQ.nil (by omega) (by omega)
  (mr (fun k' h1 h2=>(show(6:Int)=k' from gQ 6 k' (by omega) h1 (hkw.trans h2.symm))) fun x hx hxk hr=>ce4 x hx hxk hr)
theorem bS8{P:Program}{g13 g3 g4:Nat}{Φ:Nat→Option CF}{L:List eT}(p:NE P g13 g3 g4 Φ L){F:RO}{M0 M:Mem}{b c:Nat}{s:List UInt8}(ok:d9 F M c)(gr:Gr b M0 c M)(hb:b+3<c)(e:xG P g13 g3 g4 L F M0)(hge:1000≤b)(hs:s.length≤20000)(hkw:kw 5=eZ 32 s)
 (hm:Lm M b (dg 32 s) [.i .i64 5,.i .i64 0,.s 0 0,.l0,.l0]) (u:List (Option V)):
 Wp (.seq (.seq lz (.block 2 (.seq lA lB))) jC) (K Φ none 10 F) (.mk ((r3 u (sV s) (.p b 0) (.i .i64 0) (f83 b) (f84 b) (.p (b+3) 0))) [] M c) (cX F [.cn (.r .h) 5,.t (.l (.l .h))] (lu M0 b s)):=by
 have l0:load1 F M (b+3) 0=some (.i .i64 5):=aj hm.m3 0
 have ha:=dH 32 s
 have zr:cJ 0:=⟨by decide,by decide⟩
 simp only[WX,Int.reduceEq,wT,wU,AR,wV,FY,FZ,G0,G3,G5,G6,G7,G8,wW,l0]
 exact uR p.toWrP (u:=(G1 (X1 (G2 (X2 (G1 (aM (bO (bE (X8 [])))))))))) (y:=⟨5,0,[],[],[]⟩) (b1:=0) (b2:=0) ok gr e.ht ⟨zr,by simp,by simp,by simp,fun x hx=>by cases hx⟩ hm.m0 (ah _) (by omega) hm.m3 (by omega) (by omega) aQ.nil aQ.nil (by omega) (by omega)
  (mr (fun k' h1 h2=>(show(5:Int)=k' from gQ 5 k' (by omega) h1 (hkw.trans h2.symm))) fun x hx hxk hr=>ce3 x hx hxk hr)
theorem bS5{P:Program}{g13 g3 g4:Nat}{Φ:Nat→Option CF}{L:List eT}(p:NE P g13 g3 g4 Φ L){F:RO}{M0 M:Mem}{b c:Nat}{s:List UInt8}(ok:d9 F M c)(gr:Gr b M0 c M)(hb:b+3<c)(e:xG P g13 g3 g4 L F M0)(hge:1000≤b)(hs:s.length≤20000)(hno:∀k,1≤k∧k≤7→kw k≠eZ 32 s)
 (hm:Lm M b (dg 32 s) [.i .i64 0,.i .i64 0,.s 0 0,.l0,.l0]) (u:List (Option V)):
 Wp (.seq (.seq lz (.block 2 (.seq lA lB))) jC) (K Φ none 10 F) (.mk ((r3 u (sV s) (.p b 0) (.i .i64 0) (f83 b) (f84 b) (.p (b+3) 0))) [] M c) (cX F [.cn (.r .h) 5,.t (.l (.l .h))] (lu M0 b s)):=by
 have l0:load1 F M (b+3) 0=some (.i .i64 0):=aj hm.m3 0
 have ha:=dH 32 s
 have zr:cJ 0:=⟨by decide,by decide⟩
 simp only[WX,Int.reduceEq,wT,wU,AR,wV,FY,FZ,G0,G3,G5,G6,G7,G8,wW,l0]
 exact uR p.toWrP (u:=(G1 (X1 (G2 (X2 (G1 (aM (bO (bE (X8 [])))))))))) (y:=⟨0,0,[],[],[]⟩) (b1:=0) (b2:=0) ok gr e.ht ⟨zr,by simp,by simp,by simp,fun x hx=>by cases hx⟩ hm.m0 (ah _) (by omega) hm.m3 (by omega) (by omega) aQ.nil aQ.nil (by omega) (by omega) (ce0 hno)
theorem yH{F F':RO}{M M':Mem}{g:Nat}(hE:cW F g)(h0:M.get g=none)(h1:M'.get g=none)(hl:look F' M' g=look F M g):cW F' g:=by
 obtain⟨t,b,o,h⟩:=hE
 refine⟨t,b,o,fun N hN=>?_⟩
 have h2:=h N hN
 unfold load1 at h2⊢
 rw[aC hN]at h2⊢
 rw[aC h0,aC h1]at hl
 rw[hl]
 exact h2
theorem aQ.hi{M:Mem}{c0 c1 c b ty sz:Nat}{v:V}{es:List (List V)}(h:aQ M c0 c b ty sz v es)(hl:c1≤b):aQ M c1 c b ty sz v es:=by
 rcases h with⟨h0,h|⟨h1,h2,h3,h4⟩⟩
 ·exact⟨h0,.inl h⟩
 ·exact⟨h0,.inr ⟨hl,h2,h3,h4⟩⟩
structure DmL(F:RO)(M2:Mem)(q e:Nat)(r:List UInt8)(M:Mem)(c:Nat):Prop where
 ok:d9 F M c
 le:e≤c
 old:∀x,x<e→x≠q+1→M.get x=M2.get x
 m1:M.get q=some (ax 9 [sV [58]])
 m2:M.get (q+1)=some (ax 9 [sV r])
theorem XI{P:Program}{g13 g3 g4:Nat}{Φ:Nat→Option CF}{L:List eT}(p:NE P g13 g3 g4 Φ L){rd:Option Nat}{fn:Nat}{F:RO}{M2 M:Mem}{q e c:Nat}{r:List UInt8}(h:DmL F M2 q e r M c)(hq:q+1<e)(hr:r.length≤1000000){base i mask:Nat}{dst:Option aH}{x:X}{rest:List (Nat×Nat×CO)}{t:T}{reads:List (Nat×Nat)}{R:DS→Prop}
 (hreads:∀e∈reads,e.2≠q∧e.2≠q+1) (hx:x.ev t= .f 83 [] [.p (q+1) 0,.p q 0])
 (k:∀M3,DmL F M2 q e (dg 58 r) M3 c→mz base rest (K Φ rd fn F) (.mk (setT t dst (sV (eZ 58 r))) M3 c [] reads) R):
 mz base ((i,mask,.mk dst (.e (.cv x [])) none)::rest) (K Φ rd fn F) (.mk t M c [] reads) R:=by
 have hle:=h.le
 refine a05 (hx:=fun x=>x=q+1) _ _ _ _ _ _ _ _ _ _ _ h.ok (fun e he=>(hreads e he).2) (fun b _ hb=>by rw[hb];exact⟨_,h.m2⟩) ?_
 intro F1 N1 okn hlk hkp
 have hd:gG (.cv x []) (K Φ rd fn F1) N1 c t=cu (iu Φ) F1 83 [.p (q+1) 0,.p q 0] N1 c (Φ 83):=by
  rw[b53,hx,L0];rfl
 rw[hd]
 refine(show ou (cu (iu Φ) F1 83 [.p (q+1) 0,.p q 0] N1 c (Φ 83)) _ from(r83 Φ p.h83 p.h64 ((hkp (q+1) fun e he=>(hreads e he).2).trans h.m2) ((hkp q fun e he=>(hreads e he).1).trans h.m1) hr).mono ?_)
 rintro v N2 c5 ⟨rfl,rfl,rfl⟩
 refine⟨⟨ah _,fun b hb hn=>aK _ _ hn,fun b hb=>by rw[aK _ _ (by omega)];exact okn.hiM b hb⟩,fun M3 g3 hM3=>k M3 ?_⟩
 have hrow:=(hM3 (q+1) (.inr rfl)).trans (au _ _ _)
 exact⟨g3.ok h.ok fun b _ hb=>by rw[hb];exact⟨_,h.m2⟩,h.le,fun x hx hn=>(g3.old x (by omega) hn).trans (h.old x hx hn),(g3.old q (by omega) (by omega)).trans h.m1,hrow⟩
theorem XH{P:Program}{g13 g3 g4:Nat}{Φ:Nat→Option CF}{L:List eT}(p:NE P g13 g3 g4 Φ L){rd:Option Nat}{fn:Nat}{F:RO}{M2 M:Mem}{q e c:Nat}{r:List UInt8}(h:DmL F M2 q e r M c)(hq:q+1<e)(hq0:1000≤q)(e1:cW F 0)(e2:cW F 1)(hlow:∀g,g<1000→M2.get g=none){base i mask:Nat}{dst:Option aH}{x:X}{w:List UInt8}{rest:List (Nat×Nat×CO)}{t:T}{reads:List (Nat×Nat)}{R:DS→Prop}
 (hreads:∀e∈reads,1000≤e.2) (hx:x.ev t=sV w) (hw:w.length≤1000000)
 (k:∀z M3 c3,ZOf w z→DmL F M2 q e r M3 c3→mz base rest (K Φ rd fn F) (.mk (setT t dst (.i .i64 z)) M3 c3 [] reads) R):
 mz base ((i,mask,.mk dst (.e (.call 36 [x])) none)::rest) (K Φ rd fn F) (.mk t M c [] reads) R:=by
 have hle:=h.le
 have low:∀g,g<1000→M.get g=none:=fun g hg=>(h.old g (by omega) (by omega)).trans (hlow g hg)
 refine a05 (hx:=fun _=>False) _ _ _ _ _ _ _ _ _ _ _ h.ok (fun e he=>id) (fun b _ hb=>hb.elim) ?_
 intro F1 N1 okn hlk hkp
 have low1:∀g,g<1000→N1.get g=none:=fun g hg=>(hkp g fun e he=>by have:=hreads e he;omega).trans (low g hg)
 have hd:gG (.call 36 [x]) (K Φ rd fn F1) N1 c t=cu (iu Φ) F1 36 [sV w] N1 c (Φ 36):=by
  show cu (iu Φ) F1 36 [x.ev t] N1 c (Φ 36)=_;rw[hx]
 rw[hd]
 refine(show ou (cu (iu Φ) F1 36 [sV w] N1 c (Φ 36)) _ from(r36 p.h36 p.nu okn (yH e1 (low 0 (by omega)) (low1 0 (by omega)) (hlk 0)) (yH e2 (low 1 (by omega)) (low1 1 (by omega)) (hlk 1)) low1 w hw)).mono ?_
 rintro v N2 c5 ⟨z,rfl,hz,g⟩
 refine⟨GX.of g,fun M3 g3 hM3=>k z M3 c5 hz ?_⟩
 have hl:=g3.le
 exact⟨g3.ok h.ok fun b _ hb=>hb.elim,by omega,fun x hx hn=>(g3.old x (by omega) id).trans (h.old x hx hn),(g3.old q (by omega) id).trans h.m1,(g3.old (q+1) (by omega) id).trans h.m2⟩
theorem bT0{P:Program}{g13 g3 g4:Nat}{Φ:Nat→Option CF}{L:List eT}(p:NE P g13 g3 g4 Φ L){F:RO}{M0 M:Mem}{b c:Nat}{s:List UInt8}(ok0:d9 F M0 b)(ok:d9 F M c)(gr:Gr b M0 c M)(hb:b+3<c)(e:xG P g13 g3 g4 L F M0)(hge:1000≤b)(hs:s.length≤20000)(hkw:kw 7=eZ 32 s)
 (hm:Lm M b (dg 32 s) [.i .i64 7,.i .i64 0,.s 0 0,.l0,.l0]) (u:List (Option V)):
 Wp (.seq (.seq lz (.block 2 (.seq lA lB))) jC) (K Φ none 10 F) (.mk ((r3 u (sV s) (.p b 0) (.i .i64 0) (f83 b) (f84 b) (.p (b+3) 0))) [] M c) (cX F [.cn (.r .h) 5,.t (.l (.l .h))] (lu M0 b s)):=by
 have l0:load1 F M (b+3) 0=some (.i .i64 7):=aj hm.m3 0
 have ha:=dH 32 s
 have zr:cJ 0:=⟨by decide,by decide⟩
 simp only[WX,Int.reduceEq,BA,l0]
 obtain⟨I,hI⟩:∃I:Nat→St→Prop,∀n s',I n s'↔(∃(rest:List UInt8) (c1 b2:Nat) (M1:Mem) (vl:V) (done:List (Int×Int×Int)) (u:List (Option V)),n=rest.length∧s'= .mk ((r3 u (sV s) (.p b 0) (.i .i64 0) (f83 b) (f84 b) (.p (b+3) 0))) [] M1 c1∧d9 F M1 c1∧Gr b M0 c1 M1∧c≤c1∧c≤b2∧Lm M1 b rest [.i .i64 7,.i .i64 0,.s 0 0,.l0,vl]∧aQ M1 c c1 b2 72 3 vl (dj done)∧DM (dg 32 s) rest done∧(∀x∈done,cJ x.1∧cJ x.2.1∧cJ x.2.2)∧done.length+rest.length≤20000):=⟨fun n s'=>_,fun _ _=>Iff.rfl⟩
 refine bG I ?_ (dg 32 s).length _ ((hI _ _).2 ⟨dg 32 s,c,c,M,.l0,[],(G1 (X1 (G4 (G1 (aM (bO (bE (X8 [])))))))),rfl,rfl,ok,gr,ah _,ah _,hm,aQ.nil,DM.start _,(fun x hx=>by cases hx),by rw[bU];omega⟩)
 intro n s' hIs
 obtain⟨rest,c1,b2,M1,vl,done,u,rfl,rfl,cD,gr1,hc1,hb2,hm1,hA,hS,hrng,hlen⟩:=(hI _ _).1 hIs
 clear hIs
 have e0:=pi rest []
 rw[show sV []= .s 0 0 from rfl]at e0
 simp only[WX,BA,f84]
 refine av ((r84 Φ p.h84 hm1.m2).mono ?_)
 rintro r M2 c2 ⟨rfl,rfl,rfl⟩
 by_cases hr:rest=[]
 ·rw[ae hr,Bool.not_true]at e0;simp only[WX,Nat.reduceEqDiff,ZE,e0];subst hr
  exact uR p.toWrP (u:=(G1 (X1 (G2 (X2 (G1 (aM (bO (bE (X8 [])))))))))) (y:=⟨7,0,[],[],done⟩) (b1:=0) (b2:=b2) cD gr1 e.ht ⟨zr,by simp,by simp,by dsimp only;omega,hrng⟩ hm1.m0 (ah _) (by omega) hm1.m3 (by omega) (by omega) aQ.nil (hA.lo (by omega)) (by omega) (by omega)
   (mr (fun k' h1 h2=>(show(7:Int)=k' from gQ 7 k' (by omega) h1 (hkw.trans h2.symm))) fun x hx hxk hr=>ce5 (.inl hS) x hx hxk hr)
 ·rw[ag hr,Bool.not_false]at e0;simp only[WX,BA,e0,f83];refine av ((r83 Φ p.h83 p.h64 hm1.m2 hm1.m1 (by omega)).mono ?_);rintro r M3 c3 ⟨rfl,rfl,rfl⟩;simp only[WX];refine av ((show ou (cu (iu Φ) F 34 [sV (eZ 32 rest),sV [58]] _ _ (Φ 34)) _ from r34 Φ p.h34 (eZ 32 rest) 58).mono ?_);rintro r M4 c4 ⟨rfl,rfl,rfl⟩;have hrl:=Qn 32 hr;have hwl:=lH 32 rest;have hal:=dH 58 (eZ 32 rest);have hal2:=dH 58 (dg 58 (eZ 32 rest));have hbl:=lH 58 (eZ 32 rest);have hbl2:=lH 58 (dg 58 (eZ 32 rest));have hbl3:=lH 58 (dg 58 (dg 58 (eZ 32 rest)));obtain⟨M4,hM4⟩:∃M4,((M2.set (b+2) (ax 9 [sV (dg 32 rest)])).set c3 (ax 9 [sV [58]])).set (c3+1) (ax 9 [sV (eZ 32 rest)])=M4:=⟨_,rfl⟩
  have old4:∀x,x<c3→x≠b+2→M4.get x=M2.get x:=fun x h1 h2=>by rw[←hM4,aK _ _ (by omega),aK _ _ (by omega),aK _ _ h2]
  have q4:M4.get c3=some (ax 9 [sV [58]]):=by rw[←hM4,aK _ _ (by omega),au]
  have r4:M4.get (c3+1)=some (ax 9 [sV (eZ 32 rest)]):=by rw[←hM4,au]
  have s4:M4.get (b+2)=some (ax 9 [sV (dg 32 rest)]):=by rw[←hM4,aK _ _ (by omega),aK _ _ (by omega),au]
  have ok4:d9 F M4 (c3+2):=by
   rw[←hM4];exact(((cD.put (by omega) hm1.m2).set c3 _ (ah _) (aL _)).set (c3+1) _ (ah _) (aL _))
  rw[hM4];have l4:load1 F M4 (b+3) 4=some vl:=aj ((old4 (b+3) (by omega) (by omega)).trans hm1.m3) 4;have low4:∀g,g<1000→M4.get g=none:=fun g hg=>(old4 g (by omega) (by omega)).trans ((gr1.old g (by omega)).trans (e.low g hg));have rd1:∀e∈[(1,b+3)],e.2≠c3∧e.2≠c3+1:=fun e he=>by rw[List.mem_singleton]at he;subst he;exact⟨by dsimp only;omega,by dsimp only;omega⟩
  have rd2:∀e∈[(1,b+3)],1000≤e.2:=fun e he=>by rw[List.mem_singleton]at he;subst he;show 1000≤b+3;omega
  have h4:DmL F M4 c3 (c3+18) (eZ 32 rest) M4 (c3+18):=⟨Fq ok4 (by omega),ah _,fun _ _ _=>rfl,q4,r4⟩
  simp only[WX,Nat.reduceAdd,BA,l4];refine XI p h4 (by omega) (by omega) rd1 rfl fun M5 h5=>?_;simp only[WX];refine XH p h5 (by omega) (by omega) e.e1 e.e2 low4 rd2 rfl (by omega) fun x M6 c6 hx h6=>?_;simp only[WX];refine XI p h6 (by omega) (by omega) rd1 rfl fun M7 h7=>?_;simp only[WX];refine XH p h7 (by omega) (by omega) e.e1 e.e2 low4 rd2 rfl (by omega) fun y M8 c8 hy h8=>?_;simp only[WX];refine XI p h8 (by omega) (by omega) rd1 rfl fun M9 h9=>?_;simp only[WX];refine XH p h9 (by omega) (by omega) e.e1 e.e2 low4 rd2 rfl (by omega) fun z Ma ca hz ha'=>?_;have hle:=ha'.le;have hmx:Ma.get (c3+14)=none:=(ha'.old _ (by omega) (by omega)).trans (ok4.hiM _ (by omega));have lk:(look F Ma (c3+14)).isNone=true:=by
   have:=h4.ok;rw[eH (hmx.trans (ok4.hiM (c3+14) (by omega)).symm),ok4.look (by omega)];rfl
  have rf:cV (c3+14) [(1,b+3)]=true:=by rw[bY _ _ _ _ (by omega),dQ]
  have hG:flatten (V.g [.i .i64 x,.i .i64 y,.i .i64 z])=[.i .i64 x,.i .i64 y,.i .i64 z]:=rfl;simp only[WX,Nat.reducePow,Nat.reduceDiv,Nat.reduceMod,Nat.reduceBEq,Nat.reduceAdd,Nat.reduceLeDiff,lk,rf,Dl,th,Nm,hG,EP];obtain⟨X,hX⟩:∃X,Ma.set (c3+14) (dx [V.i .i64 0,V.i .i64 0,V.i .i64 0] 72 [V.i .i64 x,V.i .i64 y,V.i .i64 z])=X:=⟨_,rfl⟩
  have oldX:∀j,j<c3→j≠b+2→X.get j=M2.get j:=fun j h1 h2=>by rw[←hX,aK _ _ (by omega),ha'.old j (by omega) (by omega)];exact old4 j h1 h2
  have sX:X.get (b+2)=some (ax 9 [sV (dg 32 rest)]):=by rw[←hX,aK _ _ (by omega),ha'.old _ (by omega) (by omega)];exact s4
  have okX:d9 F X ca:=by
   rw[←hX];refine⟨fun j hj=>by rw[aK _ _ (by omega)];exact ha'.ok.hiM j hj,ha'.ok.hiF,fun j hj=>?_,ha'.ok.ge⟩;have hjne:j≠c3+14:=fun ej=>by rw[ej,ok4.hiF (c3+14) (by omega)]at hj;cases hj
   rw[aK _ _ hjne];exact ha'.ok.ap j hj
  have gX:Gr b M0 ca X:=⟨by have:=gr1.le;omega,fun j hj=>(oldX j (by omega) (by omega)).trans (gr1.old j hj),fun j hj=>okX.hiM j hj⟩
  have hy':cj F X ca 3 (.l (c3+14) 0 1 1) (dj [(x,y,z)]):=zo (d:=[V.i .i64 0,V.i .i64 0,V.i .i64 0]) (ty:=72) (by rw[←hX,au];rfl) (by omega) (fun e he=>by obtain⟨x,_,rfl⟩:=List.mem_map.1 he;rfl) rfl;have hAX:aQ X b ca b2 72 3 vl (dj done):=(hA.up (by omega) fun h=>oldX b2 h (by omega)).lo (by omega);have hsn:dj done++dj [(x,y,z)]=dj (done++[(x,y,z)]):=(List.map_append ..).symm;rw[hX];refine lb ((iI (bytes:=24) hAX gX (by decide) hy' rfl (eI (by rw[b6];show(3*(done.length+1)+2000)*24≤_;omega) (by rw[b6];show done.length+1≤_;omega))).mono ?_);rintro v' Mb cb ⟨bb,hAb,gb,hleb,holdb,hbb⟩;have okb:=gb.ok ok0;refine⟨okb.free,?_⟩;rw[hsn]at hAb;obtain⟨o1,o2,o3⟩:=cU hAb;have mb:=(holdb (b+3) (by omega) (by omega)).trans ((oldX (b+3) (by omega) (by omega)).trans hm1.m3);have hst:=bf mb 4 [v'] (by simp) o3;rw[show over [V.i .i64 7,V.i .i64 0,V.s 0 0,V.l0,vl] 4 [v']=[V.i .i64 7,V.i .i64 0,V.s 0 0,V.l0,v']from rfl]at hst;have okc:=okb.put (y:=ax 26 [V.i .i64 7,V.i .i64 0,V.s 0 0,V.l0,v']) (by omega) mb;have hfr:=okc.free;simp only[WX,Nat.reducePow,Nat.reduceDiv,Nat.reduceMod,Nat.reduceBEq,kJ,o2,hst,hfr];have hbb':c≤bb:=by rcases hbb with h|h<;>omega
  have oldc:∀j,j<c3→j≠b+2→j≠b+3→j≠b2→(Mb.set (b+3) (ax 26 [V.i .i64 7,V.i .i64 0,V.s 0 0,V.l0,v'])).get j=M2.get j:=fun j h1 h2 h3 h4=>by rw[aK _ _ h3,holdb j (by omega) h4];exact oldX j h1 h2
  refine⟨(dg 32 rest).length,hrl,(hI _ _).2 ⟨dg 32 rest,cb,bb,_,v',done++[(x,y,z)],(G1 (X1 (G4 (G1 (aM (bO (bE (X8 [])))))))),rfl,rfl,okc,gb.set (b+3) _ (by omega) (by omega) (ah _),by omega,hbb',⟨(oldc b (by omega) (by omega) (by omega) (by omega)).trans hm1.m0,(oldc (b+1) (by omega) (by omega) (by omega) (by omega)).trans hm1.m1,by rw[aK _ _ (by omega),holdb _ (by omega) (by omega)];exact sX,au _ _ _⟩,
   (hAb.up (ah _) fun _=>aK _ _ (by omega)).hi hbb',hS.step hr hx hy hz (.inr rfl),fun x' hx'=>?_,?_⟩⟩
  ·rcases List.mem_append.1 hx' with h|h
   ·exact hrng x' h
   ·rw[List.mem_singleton]at h;subst h;exact⟨hx.1,hy.1,hz.1⟩
  ·rw[bw,List.length_singleton];omega
abbrev ch5(u:List (Option V))(x0 x2 x3 x4 x5 x6 x7 x21 x22:V):T:=(.n (.n (.n (.n (am u 63 31 95 15 79 47 111) (some x7) (am u 71 39 103 23 87 55 119)) (some x3) (.n (am u 67 35 99 19 83 51 115) (uO u 11) (am u 75 43 107 27 91 59 123))) (uO u 1) (.n (.n (am u 65 33 97 17 81 49 113) (uO u 9) (am u 73 41 105 25 89 57 121)) (some x5) (.n (.n (hU u 69 37 101) (some x21) (hU u 85 53 117)) (uO u 13) (am u 77 45 109 29 93 61 125)))) (some x0) (.n (.n (.n (am u 64 32 96 16 80 48 112) (uO u 8) (am u 72 40 104 24 88 56 120)) (some x4) (.n (am u 68 36 100 20 84 52 116) (uO u 12) (am u 76 44 108 28 92 60 124))) (some x2) (.n (.n (am u 66 34 98 18 82 50 114) (uO u 10) (am u 74 42 106 26 90 58 122)) (some x6) (.n (.n (hU u 70 38 102) (some x22) (hU u 86 54 118)) (uO u 14) (am u 78 46 110 30 94 62 126)))))
theorem r10{P:Program}{g13 g3 g4:Nat}{Φ:Nat→Option CF}{L:List eT}(p:NE P g13 g3 g4 Φ L){F:RO}{M:Mem}{c:Nat}{s:List UInt8}(ok:d9 F M c)(e:xG P g13 g3 g4 L F M)(hs:s.length≤20000):
 Calls Φ F 10 [sV s] M c (lu M c s):=by
 refine az p.h10 ?_
 have hge:=ok.ge
 simp only[WX,BA]
 have g1:=(Gr.refl ok).set c (ax 26 [V.i .i64 0,V.i .i64 0,V.s 0 0,V.l0,V.l0]) (ah _) (aL _) (aP _)
 refine av ((show ou (cu (iu Φ) F 34 [sV s,sV [32]] _ _ (Φ 34)) _ from r34 Φ p.h34 s 32).mono ?_)
 rintro r M1 c1 ⟨rfl,rfl,rfl⟩
 have g2:=g1.set (c+1) (ax 9 [sV [32]]) (by omega) (aL _) (aP _)
 have gC:=g2.set (c+1+1) (ax 9 [sV s]) (by omega) (aL _) (aP _)
 have g4':=gC.set (c+1+1+1) (ax 26 [V.i .i64 0,V.i .i64 0,V.s 0 0,V.l0,V.l0]) (by omega) (aL _) (aP _)
 simp only[WX,Nat.reduceAdd,BA]
 have m2:((((M.set c (ax 26 [V.i .i64 0,V.i .i64 0,V.s 0 0,V.l0,V.l0])).set (c+1) (ax 9 [sV [32]])).set (c+2) (ax 9 [sV s])).set (c+3) (ax 26 [V.i .i64 0,V.i .i64 0,V.s 0 0,V.l0,V.l0])).get (c+2)=some (ax 9 [sV s]):=(aK _ _ (by omega)).trans (au _ _ _)
 have m1:((((M.set c (ax 26 [V.i .i64 0,V.i .i64 0,V.s 0 0,V.l0,V.l0])).set (c+1) (ax 9 [sV [32]])).set (c+2) (ax 9 [sV s])).set (c+3) (ax 26 [V.i .i64 0,V.i .i64 0,V.s 0 0,V.l0,V.l0])).get (c+1)=some (ax 9 [sV [32]]):=(aK _ _ (by omega)).trans ((aK _ _ (by omega)).trans (au _ _ _))
 have m0:((((M.set c (ax 26 [V.i .i64 0,V.i .i64 0,V.s 0 0,V.l0,V.l0])).set (c+1) (ax 9 [sV [32]])).set (c+2) (ax 9 [sV s])).set (c+3) (ax 26 [V.i .i64 0,V.i .i64 0,V.s 0 0,V.l0,V.l0])).get c=some (ax 26 mK):=(aK _ _ (by omega)).trans ((aK _ _ (by omega)).trans ((aK _ _ (by omega)).trans (au _ _ _)))
 refine av ((r83 Φ p.h83 p.h64 m2 m1 (by omega)).mono ?_)
 rintro r M3 c3 ⟨rfl,rfl,rfl⟩
 have gA:=g4'.set (c+2) (ax 9 [sV (dg 32 s)]) (by omega) (by omega) (ah _)
 obtain⟨X,hX⟩:∃X,((((M.set c (ax 26 [V.i .i64 0,V.i .i64 0,V.s 0 0,V.l0,V.l0])).set (c+1) (ax 9 [sV [32]])).set (c+2) (ax 9 [sV s])).set (c+3) (ax 26 [V.i .i64 0,V.i .i64 0,V.s 0 0,V.l0,V.l0])).set (c+2) (ax 9 [sV (dg 32 s)])=X:=⟨_,rfl⟩
 have hm:Lm X c (dg 32 s) [V.i .i64 0,V.i .i64 0,V.s 0 0,V.l0,V.l0]:=by
  rw[←hX];exact⟨(aK _ _ (by omega)).trans m0,(aK _ _ (by omega)).trans m1,au _ _ _,(aK _ _ (by omega)).trans (au _ _ _)⟩
 rw[show((((M.set c (ax 26 [V.i .i64 0,V.i .i64 0,V.s 0 0,V.l0,V.l0])).set (c+1) (ax 9 [sV [32]])).set (c+1+1) (ax 9 [sV s])).set (c+1+1+1) (ax 26 [V.i .i64 0,V.i .i64 0,V.s 0 0,V.l0,V.l0])).set (c+2) (ax 9 [sV (dg 32 s)])=X from hX]at gA
 rw[hX]
 have okX:=gA.ok ok
 simp only[WX,BA,p.h35,Lq]
 obtain⟨I,hI⟩:∃I:Nat→St→Prop,∀n s',I n s'↔(∃(j:Nat) (M1:Mem) (u:List (Option V)),n=8-j∧j≤8∧s'= .mk ((ch5 u (sV s) (.p c 0) (.i .i64 0) (f83 c) (f84 c) (.p (c+3) 0) (sV (eZ 32 s)) (.g (tX.map sV)) (.i .i64 (j:Int)))) [] M1 (c+4)∧d9 F M1 (c+4)∧Gr c M (c+4) M1∧Lm M1 c (dg 32 s) [.i .i64 (kf (eZ 32 s) j),.i .i64 0,.s 0 0,.l0,.l0]):=⟨fun n s'=>_,fun _ _=>Iff.rfl⟩
 refine bG I ?_ 8 _ ((hI _ _).2 ⟨0,X,(G1 (X1 (G4 (G2 (X8 (X4 (X1 (G2 (aM (bO (X8 []))))))))))),rfl,aF _,rfl,okX,gA,hm⟩)
 intro n s' hIs
 obtain⟨j,M1,u,rfl,hj,rfl,cD,gr1,hm1⟩:=(hI _ _).1 hIs
 clear hIs
 by_cases hlt:j<8
 ·have d1:decide ((j:Int)<8)=true:=ae (by omega);have hix:=be7 j hlt;have q8:bD .add (.i .i64 (j:Int)) (.i .i64 1)=some (.i .i64 ((j+1:Nat):Int)):=by rw[aO _ _ (by omega) (by omega)];simp
  by_cases h0:0<j
  ·have d2:decide ((0:Int)<(j:Int))=true:=ae (by omega);have e1:=gk (tX.getD j []) (eZ 32 s);by_cases he:tX.getD j []=eZ 32 s
   ·rw[ae he]at e1;have hst:=bf hm1.m3 0 [V.i .i64 (j:Int)] (by simp) rfl;rw[show over [V.i .i64 (kf (eZ 32 s) j),V.i .i64 0,V.s 0 0,V.l0,V.l0] 0 [V.i .i64 (j:Int)]=[V.i .i64 (j:Int),V.i .i64 0,V.s 0 0,V.l0,V.l0]from rfl]at hst;simp only[WX,BA,d1,hix,d2,e1,hst,q8];refine⟨8-(j+1),by omega,(hI _ _).2 ⟨j+1,_,(G1 (X1 (G4 (G2 (X8 (X4 (X1 (G2 (aM (bO (X8 []))))))))))),rfl,hlt,rfl,cD.put (by omega) hm1.m3,gr1.set (c+3) _ (by omega) (by omega) (ah _),?_⟩⟩;rw[kf,ac ⟨h0,he⟩];exact hm1.put
   ·rw[ag he]at e1;simp only[WX,BA,d1,hix,d2,e1,q8];exact⟨8-(j+1),by omega,(hI _ _).2 ⟨j+1,_,(G1 (X1 (G4 (G2 (X8 (X4 (X1 (G2 (aM (bO (X8 []))))))))))),rfl,hlt,rfl,cD,gr1,by rw[kf,ab (fun h=>he h.2)];exact hm1⟩⟩
  ·have d2:decide ((0:Int)<(j:Int))=false:=ag (by omega);simp only[WX,BA,d1,hix,d2,q8];exact⟨8-(j+1),by omega,(hI _ _).2 ⟨j+1,_,(G1 (X1 (G4 (G2 (X8 (X4 (X1 (G2 (aM (bO (X8 []))))))))))),rfl,hlt,rfl,cD,gr1,by rw[kf,ab (fun h=>h0 h.1)];exact hm1⟩⟩
 ·obtain rfl:j=8:=by omega
  have d1:decide (((8:Nat):Int)<8)=false:=ag (by omega);simp only[WX,b31,ZD,d1];rw[←be,←be];rcases bV1 (eZ 32 s)with⟨k,hk,h1,h2⟩|⟨h1,h2⟩
  ·rw[h1]at hm1;have hcase:k=1∨k=2∨k=3∨k=4∨k=5∨k=6∨k=7:=by omega
   rcases hcase with rfl|rfl|rfl|rfl|rfl|rfl|rfl
   ·exact Yl p cD gr1 (by omega) e hge hs (.inl rfl) h2 hm1 (G1 (X1 (G4 (G1 (aM (bO (bE (X8 []))))))))
   ·exact Yl p cD gr1 (by omega) e hge hs (.inr rfl) h2 hm1 (G1 (X1 (G4 (G1 (aM (bO (bE (X8 []))))))))
   ·exact bS6 p cD gr1 (by omega) e hge hs h2 hm1 (G1 (X1 (G4 (G1 (aM (bO (bE (X8 []))))))))
   ·exact bS7 p cD gr1 (by omega) e hge hs h2 hm1 (G1 (X1 (G4 (G1 (aM (bO (bE (X8 []))))))))
   ·exact bS8 p cD gr1 (by omega) e hge hs h2 hm1 (G1 (X1 (G4 (G1 (aM (bO (bE (X8 []))))))))
   ·exact bS9 p cD gr1 (by omega) e hge hs h2 hm1 (G1 (X1 (G4 (G1 (aM (bO (bE (X8 []))))))))
   ·exact bT0 p ok cD gr1 (by omega) e hge hs h2 hm1 (G1 (X1 (G4 (G1 (aM (bO (bE (X8 []))))))))
  ·rw[h1]at hm1;exact bS5 p cD gr1 (by omega) e hge hs h2 hm1 (G1 (X1 (G4 (G1 (aM (bO (bE (X8 []))))))))
abbrev Zu(u:List (Option V))(x0 x2 x3 x7 x9:V):T:=(.n (.n (.n (.n (.n (am u 127 63 191 31 159 95 223) (uO u 15) (am u 143 79 207 47 175 111 239)) (some x7) (.n (am u 135 71 199 39 167 103 231) (uO u 23) (am u 151 87 215 55 183 119 247))) (some x3) (.n (.n (am u 131 67 195 35 163 99 227) (uO u 19) (am u 147 83 211 51 179 115 243)) (uO u 11) (.n (am u 139 75 203 43 171 107 235) (uO u 27) (am u 155 91 219 59 187 123 251)))) (uO u 1) (.n (.n (.n (am u 129 65 193 33 161 97 225) (uO u 17) (am u 145 81 209 49 177 113 241)) (some x9) (.n (am u 137 73 201 41 169 105 233) (uO u 25) (am u 153 89 217 57 185 121 249))) (uO u 5) (.n (.n (am u 133 69 197 37 165 101 229) (uO u 21) (am u 149 85 213 53 181 117 245)) (uO u 13) (.n (am u 141 77 205 45 173 109 237) (uO u 29) (am u 157 93 221 61 189 125 253))))) (some x0) (.n (.n (.n (.n (am u 128 64 192 32 160 96 224) (uO u 16) (am u 144 80 208 48 176 112 240)) (uO u 8) (.n (am u 136 72 200 40 168 104 232) (uO u 24) (am u 152 88 216 56 184 120 248))) (uO u 4) (.n (.n (am u 132 68 196 36 164 100 228) (uO u 20) (am u 148 84 212 52 180 116 244)) (uO u 12) (.n (am u 140 76 204 44 172 108 236) (uO u 28) (am u 156 92 220 60 188 124 252)))) (some x2) (.n (.n (.n (am u 130 66 194 34 162 98 226) (uO u 18) (am u 146 82 210 50 178 114 242)) (uO u 10) (.n (am u 138 74 202 42 170 106 234) (uO u 26) (am u 154 90 218 58 186 122 250))) (uO u 6) (.n (.n (am u 134 70 198 38 166 102 230) (uO u 22) (am u 150 86 214 54 182 118 246)) (uO u 14) (.n (am u 142 78 206 46 174 110 238) (uO u 30) (am u 158 94 222 62 190 126 254))))))
def az9:CC:=(.reg [(aa a2 (.al 26 [(.i .i64 0),(.i .i64 0),(.s 0 0),.l0,.l0])),(qq a3 (.mv (x6 0)))])
def cl0:=wu az9.eq_1
def aA0:CC:=(.reg [(qq dN (.mv z0)),(ee fi (.call 39 [fk,(.c (.i .u8 32))])),(qq dS (.mv fl)),(qq eL (.ex 0 eA)),(qq eM (.ex 1 eA)),(qq ew (.ex 2 eA)),(qq a4 (.mv fT)),(qq a5 (.mv fm)),(qq a6 (.mv fW))])
def cl1:=wu aA0.eq_1
def aA1:CC:=(.reg [(aa a7 (.al 26 [(.i .i64 0),(.i .i64 0),(.s 0 0),.l0,.l0]))])
def cl2:=wu aA1.eq_1
def aA2:CC:=(.reg [(qq a8 (.mv (x6 0)))])
def cl3:=wu aA2.eq_1
def aA3:CC:=(.reg [(qq dG (.mv z8)),(qq eE (.bi .lss fX (x6 7)))])
def b32:=wu aA3.eq_1
def aA4:CC:=(.seq aA3 (.cond fY .skip (.exit 0)))
def b33:=wu aA4.eq_1
def aA5:CC:=(.reg [(ee fU (.call 28 [])),(qq fp (.mv z8)),(qq fD (.iaS 1 ic ij)),(qq iF (.ld1 il)),(qq gu (.mv z4)),(qq gH (.bi .eql iE jh))])
def cl4:=wu aA5.eq_1
def aA6:CC:=(.reg [(qq ga (.mv z8)),(qq iG (.bi .add jz (x6 1))),(qq jb (.fa 0 z7)),(ez (.st 1 k5 jj))])
def cl5:=wu aA6.eq_1
def aA7:CC:=(.seq aA5 (.cond ji aA6 .skip))
def cl6:=wu aA7.eq_1
def Ro:CC:=(.reg [(qq eU (.mv z8)),(qq fC (.bi .add ib (x6 1))),(qq a8 (.mv gi))])
def bm9:=wu Ro.eq_1
def Rq:CC:=(.block 0 (.loop (.seq aA4 (.seq (.block 1 aA7) Ro))))
def bn0:=wu Rq.eq_1
def Rr:CC:=(.reg [(qq a9 (.mv xT))])
def ZF:=wu Rr.eq_1
def Rt:CC:=(.reg [(qq iP (.fa 0 z7)),(qq ia (.ld1 jk))])
def sw:=wu Rt.eq_1
def Ru:CC:=(.reg [(qq ie (.bi .eql j1 (x6 1))),(qq j0 (.mv kg))])
def sy:=wu Ru.eq_1
def Rv:CC:=(.reg [(qq jB (.bi .eql j1 (x6 2))),(qq j0 (.mv kh))])
def wX:=wu Rv.eq_1
def Rw:CC:=(.seq Ru (.cond k8 .skip Rv))
def sA:=wu Rw.eq_1
def E8:CC:=(.reg [(qq jd (.mv z5)),(ee jm (.call 40 [ll])),(qq jc (.mv lm)),(qq k6 (.ex 0 kK)),(qq kS (.ex 1 kK)),(qq kT (.fa 1 z7)),(ez (.st 1 lq lr))])
def bn1:=wu E8.eq_1
def Rx:CC:=(.reg [(qq gj (.bi .eql j1 (x6 3))),(qq jv (.mv mf))])
def B5:=wu Rx.eq_1
def Ry:CC:=(.reg [(qq k7 (.mv z5)),(ee kd (.call 41 [nN])),(qq mh (.mv oq)),(qq iH (.ex 0 mM)),(qq mB (.ex 1 mM)),(qq mC (.fa 3 z7)),(ez (.st 1 ot nO)),(qq a9 (.mv oF))])
def bn2:=wu Ry.eq_1
def Rz:CC:=(.reg [(qq kL (.bi .eql j1 (x6 4))),(qq kW (.mv p7))])
def B6:=wu Rz.eq_1
def RA:CC:=(.reg [(qq oy (.mv z5)),(ee mE (.call 42 [pV])),(qq mD (.mv pW)),(qq mF (.ex 0 p8)),(qq oz (.ex 1 p8)),(qq mR (.fa 3 z7)),(ez (.st 1 rq ry)),(qq a9 (.mv rp))])
def bn3:=wu RA.eq_1
def RB:CC:=(.reg [(qq qb (.bi .eql j1 (x6 6))),(qq rt (.mv sH))])
def B8:=wu RB.eq_1
def RD:CC:=(.reg [(qq sK (.mv z5)),(qq pc (.fa 2 z7)),(ez (.st 1 xp uz))])
def ZG:=wu RD.eq_1
def RE:CC:=(.reg [(qq pU (.bi .eql j1 (x6 7))),(qq mi (.mv xr))])
def G9:=wu RE.eq_1
def RF:CC:=(.reg [(qq tL (.mv z5)),(qq sL (.bi .neq xu (.c (.s 0 0)))),(qq pd (.mv xD)),(ak ub (.fa 4 z7) pd),(ak uc (.ld1 xE) pd),(ak sM (.ln .slice zC) pd),(ak ru (.bi .leq zD (x6 64)) pd),(qq xN (.pk yf zE xF))])
def Ga:=wu RF.eq_1
def RG:CC:=(.cond BD .skip (.exit 3))
def Gb:=wu RG.eq_1
def RH:CC:=(.reg [(qq cg (.mv (.c (.s 0 0))))])
def bn4:=wu RH.eq_1
def RI:CC:=(.reg [(qq BC (.mv z5)),(ee xO (.call 39 [GT,(.c (.i .u8 32))])),(qq BB (.mv GU)),(qq DB (.ex 0 BE)),(qq DC (.ex 1 BE)),(qq DD (.ex 2 BE)),(qq cg (.mv PF)),(qq a5 (.mv Nx))])
def bn5:=wu RI.eq_1
def RJ:CC:=(.reg [(qq DR (.mv cm)),(ee DT (.call 39 [Pz,(.c (.i .u8 58))])),(qq rC (.mv Ny)),(qq DU (.ex 0 GV)),(qq DV (.ex 1 GV)),(qq xA (.ex 2 GV)),(qq cF (.mv PH)),(qq de (.mv PI)),(qq cO (.mv PJ))])
def bn6:=wu RJ.eq_1
def RK:CC:=(.reg [(qq DX (.mv cT)),(ee xP (.call 39 [NA,(.c (.i .u8 58))])),(qq DW (.mv PK)),(qq DY (.ex 0 Nz)),(qq BV (.ex 1 Nz)),(qq DE (.ex 2 Nz)),(qq dm (.mv PL)),(qq dC (.mv PM)),(qq dJ (.mv z95))])
def bn7:=wu RK.eq_1
def RL:CC:=(.reg [(aa dX (.al 72 [(.i .i64 0),(.i .i64 0),(.i .i64 0)]))])
def bn8:=wu RL.eq_1
def RM:CC:=(.reg [(qq H6 (.mv cI)),(ee H7 (.call 40 [z97])),(qq H5 (.mv z98)),(qq BW (.ex 0 NB)),(qq mO (.ex 1 NB)),(qq mA (.fa 0 dL)),(ez (.st 1 sG PN))])
def bn9:=wu RM.eq_1
def RN:CC:=(.reg [(qq pa (.mv dB)),(ee qa (.call 40 [y6])),(qq mP (.mv y7)),(qq tG (.ex 0 xj)),(qq uE (.ex 1 xj)),(qq iO (.fa 1 dL)),(ez (.st 1 y9 y8))])
def bo0:=wu RN.eq_1
def RP:CC:=(.reg [(qq xK (.mv dy)),(ee xL (.call 40 [Dr])),(qq zJ (.mv Bz)),(qq tH (.ex 0 ye)),(qq zK (.ex 1 ye)),(qq zL (.fa 2 dL)),(ez (.st 1 Ds GB))])
def bo1:=wu RP.eq_1
def RQ:CC:=(.reg [(qq zM (.fa 4 z7)),(qq ka (.ld1 Dt)),(qq tI (.ldn 3 dL)),(aa BK (.bsl 72 1 3 [(.i .i64 0),(.i .i64 0),(.i .i64 0)] [(0,Dv)])),(ee BL (.app 72 3 24 Du GD)),(qq BM (.fa 4 z7)),(ez (.st 1 GF GE))])
def bo2:=wu RQ.eq_1
def RR:CC:=(.seq RL (.seq RM (.seq RN (.seq RP RQ))))
def bo3:=wu RR.eq_1
def RS:CC:=(.seq RH (.seq RI (.seq RJ (.seq RK RR))))
def bo4:=wu RS.eq_1
def RT:CC:=(.block 3 (.loop (.seq (.seq RF RG) (.block 4 RS))))
def bo5:=wu RT.eq_1
def RU:CC:=(.seq RE (.cond xq RT .skip))
def Gc:=wu RU.eq_1
def RW:CC:=(.seq RB (.cond xn RD RU))
def Ba:=wu RW.eq_1
def RX:CC:=(.seq Rz (.cond nP RA RW))
def Bb:=wu RX.eq_1
def RY:CC:=(.seq Rx (.cond mw Ry RX))
def Bc:=wu RY.eq_1
def RZ:CC:=(.seq Rw (.cond k8 E8 RY))
def sB:=wu RZ.eq_1
def uS:CC:=(.reg [(qq BN (.mv z9)),(qq mQ (.un .not GG)),(qq uF (.mv GH)),(aU BO (.ldn 5 z7) uF),(xS uG (.call 14 [GJ]) uF),(aU uH (.un .not GK) uF),(qq BP (.pk GI xT GL)),(qq ow (.mv GM)),(aU uI (.ldn 5 z7) ow),(xS uJ (.call 15 [GO]) ow),(aU BQ (.mv z0) ow),(aU BR (.bi .neq GP GQ) ow),(qq BS (.pk GN xT GR))])
def ZH:=wu uS.eq_1
def E9:CC:=(.reg [(qq DO (.bld [(.i .i64 0),(.i .i64 0),(.s 0 0),.l0,.l0] [])),(ez (.st 5 z2 Px)),(qq a3 (.mv (x6 4)))])
def bo6:=wu E9.eq_1
def uT:CC:=(.cond GS (.seq E9 .ret) .skip)
def Bd:=wu uT.eq_1
def rE:CC:=(.reg [(qq xM (.ldn 5 z7)),(ez (.st 5 z2 Py)),(qq a3 (.mv (x6 0)))])
def bo7:=wu rE.eq_1
def lC:CC:=(.seq (.seq Rt (.block 2 RZ)) (.seq (.seq uS uT) (.seq rE .ret)))
def pQ:=wu lC.eq_1
def S0:CC:=(.seq aA1 (.seq (.seq aA2 Rq) (.seq Rr lC)))
def bo8:=wu S0.eq_1
def c11:CF:= .mk 8 [.cn a2 5,.t a3] (.seq az9 (.seq aA0 S0))
theorem e11(v0:V):bh 8 [v0]=(.n sk7 (some v0) sk7):=rfl
def zF:=ai @e11 (ai @cl0 (ai @cl1 (ai @cl2 (ai @cl3 (ai @b32 (ai @b33 (ai @cl4 (ai @cl5 (ai @cl6 (ai @bm9 (ai @bn0 (ai @ZF (ai @sw (ai @sy (ai @wX (ai @sA (ai @bn1 (ai @B5 (ai @bn2 (ai @B6 (ai @bn3 (ai @B8 (ai @ZG (ai @G9 (ai @Ga (ai @Gb (ai @bn4 (ai @bn5 (ai @bn6 (ai @bn7 (ai @bn8 (ai @bn9 (ai @bo0 (ai @bo1 (ai @bo2 (ai @bo3 (ai @bo4 (ai @bo5 (ai @Gc (ai @Ba (ai @Bb (ai @Bc (ai @sB (ai @ZH (ai @bo6 (ai @Bd (ai @bo7 (ai @pQ (@bo8)))))))))))))))))))))))))))))))))))))))))))))))))
structure xJ(Φ:Nat→Option CF)(L:List eT):Prop extends NuP Φ where
 h11:Φ 11=some c11
 h14:Φ 14=some PB
 h15:Φ 15=some c15
 h28:Φ 28=some c28
 h39:Φ 39=some c39
 h41:Φ 41=some c41
 h42:Φ 42=some c42
 h43:Φ 43=some PC
 h44:Φ 44=some (.orc (eQ L DG))
 h45:Φ 45=some c45
 h46:Φ 46=some c46
 h89:Φ 89=some (.orc (bg h89))
theorem uU{Φ:Nat→Option CF}{L:List eT}(p:xJ Φ L){F:RO}{M0 M:Mem}{c0 c ra aa b1 b2:Nat}{vd vl:V}{y:AC}{s:List UInt8}(okb:Bool)(ok:d9 F M c)(gr:Gr c0 M0 c M)(ht:bA F L=true)(hb:ua y)(hra:M.get ra=some (ax 26 mK))(h1:c0≤ra)(h2:ra<c)
 (haa:M.get aa=some (ax 26 [.i .i64 y.k,.i .i64 y.a,sV y.tx,vd,vl])) (h3:aa<c) (hne:ra≠aa) (hd:aQ M c0 c b1 5 1 vd (y.dt.map fun x=>[bV x])) (hl:aQ M c0 c b2 72 3 vl (dj y.ls)) (n1:ra≠b1) (n2:ra≠b2) (hR:okb=true→RdA s y) (hF:okb=false→ ∀x,jS x=true→cw x≠s) (u:List (Option V)):
 Wp (.seq (.seq uS uT) (.seq rE .ret)) (K Φ none 11 F) (.mk ((Zu u (sV s) (.p ra 0) (.i .i64 0) (.p aa 0) (.b okb))) [] M c) (cX F [.cn (.r .h) 5,.t (.l (.l .h))] fun r M' c'=>DL M' c0 c' s r∧Gr c0 M0 c' M'):=by
 have zero:∀{M2:Mem} {c2:Nat} (u:List (Option V)),Gr c M c2 M2→(∀x,jS x=true→cw x≠s)→Wp E9 (K Φ none 11 F) (.mk ((Zu u (sV s) (.p ra 0) (.i .i64 0) (.p aa 0) (.b okb))) [] M2 c2) (lg .ret (K Φ none 11 F) (lg (.seq rE .ret) (K Φ none 11 F) (cX F [.cn (.r .h) 5,.t (.l (.l .h))] fun r M' c'=>DL M' c0 c' s r∧Gr c0 M0 c' M'))):=by
  intro M2 c2 u g2 hno;have hc2:=g2.le;have ra2:=(g2.old ra h2).trans hra;have st0:cC M2 ra 0 [V.i .i64 0,V.i .i64 0,V.s 0 0,V.l0,V.l0]=some (M2.set ra (ax 26 mK)):=bf ra2 0 mK (by simp[mK]) rfl;have ldN:loadN F (M2.set ra (ax 26 mK)) ra 0 5=some [V.i .i64 0,V.i .i64 0,V.s 0 0,V.l0,V.l0]:=bQ (au _ _ _) 5 rfl;simp only[WX,Nat.reduceAdd,zF,st0,ldN];exact⟨.inr ⟨rfl,hno⟩,(gr.trans g2).set ra _ h1 (by omega) (ah _)⟩
 cases okb with
 |false=>
  simp only[WX,ZH,Bd];exact zero (G1 (X1 (G2 (X2 (X1 (G1 (X1 (G1 (aM (aM (aM (bO (bE (X4 (X1 []))))))))))))))) (Gr.refl ok) (hF rfl)
 |true=>
  have hR:=hR rfl;have ld:loadN F M aa 0 5=some [.i .i64 y.k,.i .i64 y.a,sV y.tx,vd,vl]:=bQ haa 5 rfl;simp only[WX,zF,ld];refine av ((show ou (cu (iu Φ) F 14 [fj y vd vl] M c (Φ 14)) _ from(r14 p.h14 p.h43 ok hb hd.sl hl.sl)).mono ?_);rintro r M2 c2 ⟨rfl,g2⟩;have hc2:=g2.le;have aa2:=(g2.old aa h3).trans haa;have ld2:loadN F M2 aa 0 5=some [.i .i64 y.k,.i .i64 y.a,sV y.tx,vd,vl]:=bQ aa2 5 rfl;cases ho:jS y with
  |false=>
   have hno:∀x,jS x=true→cw x≠s:=fun x hx e=>by have:=hR x hx e;subst this;rw[ho]at hx;cases hx
   simp only[WX,Bd];exact zero (G1 (X1 (G2 (X2 (X1 (G1 (X1 (G1 (aM (aM (aM (bO (bE (X4 (X1 []))))))))))))))) g2 hno
  |true=>
   simp only[WX,ld2];refine av ((show ou (cu (iu Φ) F 15 [fj y vd vl] M2 c2 (Φ 15)) _ from(r15 p.h15 p.h28 p.h44 p.h45 p.h46 (g2.ok ok) ht hb ho (hd.gr g2).sl (hl.gr g2).sl)).mono ?_);rintro r M3 c3 ⟨rfl,g3⟩;have g23:=g2.trans g3;have hc3:=g23.le;have e1:=pi (cw y) s;by_cases hs:cw y=s
   ·rw[ae hs,Bool.not_true]at e1;obtain⟨o1,o2,o3⟩:=cU hd;obtain⟨o4,o5,o6⟩:=cU hl;have ra3:=(g23.old ra h2).trans hra;have ld3:loadN F M3 aa 0 5=some [.i .i64 y.k,.i .i64 y.a,sV y.tx,vd,vl]:=bQ ((g23.old aa h3).trans haa) 5 rfl;have st1:cC M3 ra 0 [V.i .i64 y.k,V.i .i64 y.a,sV y.tx,vd,vl]=some (M3.set ra (ax 26 [V.i .i64 y.k,V.i .i64 y.a,sV y.tx,vd,vl])):=bf ra3 0 [V.i .i64 y.k,V.i .i64 y.a,sV y.tx,vd,vl] (by simp[mK]) (by simp only[dh,Af,eP,o1,o4,pf,Bool.and_true]);have ldY:loadN F (M3.set ra (ax 26 [V.i .i64 y.k,V.i .i64 y.a,sV y.tx,vd,vl])) ra 0 5=some [V.i .i64 y.k,V.i .i64 y.a,sV y.tx,vd,vl]:=bQ (au _ _ _) 5 rfl;simp only[WX,Nat.reduceAdd,zF,e1,ld3,st1,ldY];exact⟨.inl ⟨y,vd,vl,b1,b2,rfl,ho,hs,hb,(hd.gr g23).up (ah _) fun _=>aK _ _ (Ne.symm n1),(hl.gr g23).up (ah _) fun _=>aK _ _ (Ne.symm n2)⟩,(gr.trans g23).set ra _ h1 (by omega) (ah _)⟩
   ·have hno:∀x,jS x=true→cw x≠s:=fun x hx e=>by have:=hR x hx e;subst this;exact hs e
    rw[ag hs,Bool.not_false]at e1;simp only[WX,Bd,e1];exact zero (G1 (X1 (G2 (X2 (X1 (G1 (X1 (G1 (aM (aM (aM (bO (bE (X4 (X1 []))))))))))))))) g23 hno
abbrev r5(u:List (Option V))(x0 x2 x3 x5 x7 x9:V):T:=(.n (.n (.n (.n (.n (am u 127 63 191 31 159 95 223) (uO u 15) (am u 143 79 207 47 175 111 239)) (some x7) (.n (am u 135 71 199 39 167 103 231) (uO u 23) (am u 151 87 215 55 183 119 247))) (some x3) (.n (.n (am u 131 67 195 35 163 99 227) (uO u 19) (am u 147 83 211 51 179 115 243)) (uO u 11) (.n (am u 139 75 203 43 171 107 235) (uO u 27) (am u 155 91 219 59 187 123 251)))) (uO u 1) (.n (.n (.n (am u 129 65 193 33 161 97 225) (uO u 17) (am u 145 81 209 49 177 113 241)) (some x9) (.n (am u 137 73 201 41 169 105 233) (uO u 25) (am u 153 89 217 57 185 121 249))) (some x5) (.n (.n (am u 133 69 197 37 165 101 229) (uO u 21) (am u 149 85 213 53 181 117 245)) (uO u 13) (.n (am u 141 77 205 45 173 109 237) (uO u 29) (am u 157 93 221 61 189 125 253))))) (some x0) (.n (.n (.n (.n (am u 128 64 192 32 160 96 224) (uO u 16) (am u 144 80 208 48 176 112 240)) (uO u 8) (.n (am u 136 72 200 40 168 104 232) (uO u 24) (am u 152 88 216 56 184 120 248))) (uO u 4) (.n (.n (am u 132 68 196 36 164 100 228) (uO u 20) (am u 148 84 212 52 180 116 244)) (uO u 12) (.n (am u 140 76 204 44 172 108 236) (uO u 28) (am u 156 92 220 60 188 124 252)))) (some x2) (.n (.n (.n (am u 130 66 194 34 162 98 226) (uO u 18) (am u 146 82 210 50 178 114 242)) (uO u 10) (.n (am u 138 74 202 42 170 106 234) (uO u 26) (am u 154 90 218 58 186 122 250))) (uO u 6) (.n (.n (am u 134 70 198 38 166 102 230) (uO u 22) (am u 150 86 214 54 182 118 246)) (uO u 14) (.n (am u 142 78 206 46 174 110 238) (uO u 30) (am u 158 94 222 62 190 126 254))))))
theorem LU{s:List UInt8}{k:Int}(hk:1≤k∧k≤7)(hkw:kw k=eZ 32 s)(hno:∀x:AC,jS x=true→x.k=k→dw x≠dg 32 s):∀x,jS x=true→cw x≠s:=by
 intro x hx e
 have hx':=(eb x).1 hx
 have hc:=nc x hx'.1
 rw[e]at hc
 exact hno x hx (gQ _ _ hx'.1 hk (hc.1.symm.trans hkw.symm)) hc.2.symm
theorem ce6{x:AC}(hxk:x.k=3):dw x=iU x.dt:=by unfold dw bC;rw[ab (by omega),ac hxk,cN]
theorem ce7{x:AC}(hxk:x.k=4):dw x=dK x.dt:=by unfold dw bC;rw[ab (by omega),ab (by omega),ac hxk,cN]
structure Mu(F:RO)(M0:Mem)(c0:Nat)(M:Mem)(c aa:Nat)(cells:List V):Prop where
 ok0:d9 F M0 c0
 ok:d9 F M c
 gr:Gr c0 M0 c M
 m0:M.get c0=some (ax 26 mK)
 m1:M.get aa=some (ax 26 cells)
 lt:c0<aa∧aa<c
theorem Mu.grow{F:RO}{M0 M M2:Mem}{c0 c c2 aa:Nat}{cells:List V}(h:Mu F M0 c0 M c aa cells)(g:Gr c M c2 M2):Mu F M0 c0 M2 c2 aa cells:=
 ⟨h.ok0,g.ok h.ok,h.gr.trans g,(g.old _ (by have:=h.lt;omega)).trans h.m0,(g.old _ h.lt.2).trans h.m1,⟨h.lt.1,Nat.lt_of_lt_of_le h.lt.2 g.le⟩⟩
theorem Mu.put{F:RO}{M0 M:Mem}{c0 c aa:Nat}{cells cells':List V}(h:Mu F M0 c0 M c aa cells):Mu F M0 c0 (M.set aa (ax 26 cells')) c aa cells':=
 ⟨h.ok0,h.ok.put h.lt.2 h.m1,h.gr.set aa _ (by have:=h.lt;omega) h.lt.2 (ah _),(aK _ _ (by have:=h.lt;omega)).trans h.m0,au _ _ _,h.lt⟩
structure BH(L:List eT)(F:RO)(M:Mem):Prop where
 ht:bA F L=true
 e1:cW F 0
 e2:cW F 1
 low:∀g,g<1000→M.get g=none
theorem Ym{Φ:Nat→Option CF}{L:List eT}(p:xJ Φ L){F:RO}{M0 M:Mem}{c0 c aa:Nat}{s:List UInt8}{k:Int}(hk:k=1∨k=2)(hkw:kw k=eZ 32 s)(e:BH L F M0)(hge:1000≤c0)(hs:s.length≤20000)
 (h:Mu F M0 c0 M c aa [.i .i64 k,.i .i64 0,.s 0 0,.l0,.l0]) (u:List (Option V)):
 Wp lC (K Φ none 11 F) (.mk ((r5 u (sV s) (.p c0 0) (.i .i64 0) (sV (dg 32 s)) (.p aa 0) (.b true))) [] M c) (cX F [.cn (.r .h) 5,.t (.l (.l .h))] (lu M0 c0 s)):=by
 obtain⟨q1,q2⟩:=h.lt
 have l0:load1 F M aa 0=some (.i .i64 k):=aj h.m1 0
 have ha:=dH 32 s
 have zr:cJ 0:=⟨by decide,by decide⟩
 have fin:∀(u:List (Option V)),Wp E8 (K Φ none 11 F) (.mk ((r5 u (sV s) (.p c0 0) (.i .i64 0) (sV (dg 32 s)) (.p aa 0) (.b true))) [] M c) (fV 2 (lg (.seq (.seq uS uT) (.seq rE .ret)) (K Φ none 11 F) (cX F [.cn (.r .h) 5,.t (.l (.l .h))] (lu M0 c0 s)))):=by
  intro u;simp only[WX,zF];refine av ((YT p.toNuP h.ok e.e1 e.e2 (fun g hg=>(h.gr.old g (by omega)).trans (e.low g hg)) (dg 32 s) (by omega)).mono ?_);rintro r M2 c2 ⟨z,er,rfl,hz,g2⟩;have h2:=h.grow g2;have hst:=bf h2.m1 1 [V.i .i64 z] (by simp) rfl;rw[show over [V.i .i64 k,V.i .i64 0,V.s 0 0,V.l0,V.l0] 1 [V.i .i64 z]=[V.i .i64 k,V.i .i64 z,sV [],V.l0,V.l0]from rfl]at hst;simp only[WX,hst];rw[←be,←be];have hp:=h2.put (cells':=[V.i .i64 k,V.i .i64 z,sV [],V.l0,V.l0]);exact uU p (u:=(G1 (X1 (G2 (X2 (X1 (G1 (X1 (G1 (aM (aM (aM (bO (bE (X4 (X1 [])))))))))))))))) (y:=⟨k,z,[],[],[]⟩) (b1:=0) (b2:=0) true hp.ok hp.gr e.ht ⟨hz.1,by simp,by simp,by simp,fun x hx=>by cases hx⟩ hp.m0 (ah _) (by have:=hp.lt;omega) hp.m1 hp.lt.2 (by omega) aQ.nil aQ.nil (by omega) (by omega) (fun _=>mr (fun k' h1 h2=>(show k=k' from gQ k k' (by omega) h1 (hkw.trans h2.symm))) fun x hx hxk hr=>b10 hk hz x hx hxk hr) (fun h=>by cases h)
 rcases hk with rfl|rfl
 ·simp only[WX,sw,sy,sA,sB,pQ,l0];exact fin (G1 (X1 (G2 (X1 (G1 (X1 (G1 (X1 (G1 (aM (aM (aM (bO (bE (X4 (X1 []))))))))))))))))
 ·simp only[WX,Int.reduceEq,sw,sy,wX,sA,sB,pQ,l0];exact fin (G1 (X1 (G2 (X1 (G1 (X1 (G1 (X1 (G1 (aM (aM (aM (bO (bE (X4 (X1 []))))))))))))))))
theorem bT2{Φ:Nat→Option CF}{L:List eT}(p:xJ Φ L){F:RO}{M0 M:Mem}{c0 c aa:Nat}{s:List UInt8}(hkw:kw 3=eZ 32 s)(e:BH L F M0)(hge:1000≤c0)(hs:s.length≤20000)
 (h:Mu F M0 c0 M c aa [.i .i64 3,.i .i64 0,.s 0 0,.l0,.l0]) (u:List (Option V)):
 Wp lC (K Φ none 11 F) (.mk ((r5 u (sV s) (.p c0 0) (.i .i64 0) (sV (dg 32 s)) (.p aa 0) (.b true))) [] M c) (cX F [.cn (.r .h) 5,.t (.l (.l .h))] (lu M0 c0 s)):=by
 obtain⟨q1,q2⟩:=h.lt
 have l0:load1 F M aa 0=some (.i .i64 3):=aj h.m1 0
 have ha:=dH 32 s
 have zr:cJ 0:=⟨by decide,by decide⟩
 simp only[WX,Int.reduceEq,zF,l0]
 refine av ((cI9 Φ p.h41 p.h89 h.ok (dg 32 s) (by omega)).mono ?_)
 rintro r M2 c2 ⟨g2,v,bo,l,rfl,⟨bb,hA⟩,hlen,hun⟩
 obtain⟨bb,hbb,hA⟩:=hA.norm
 have h2:=h.grow g2
 obtain⟨o1,o2,o3⟩:=cU hA
 have hst:=bf h2.m1 3 [v] (by simp) o3
 rw[show over [V.i .i64 3,V.i .i64 0,V.s 0 0,V.l0,V.l0] 3 [v]=[V.i .i64 3,V.i .i64 0,sV [],v,V.l0]from rfl]at hst
 simp only[WX,o2,hst]
 rw[←be,←be]
 have hp:=h2.put (cells':=[V.i .i64 3,V.i .i64 0,sV [],v,V.l0])
 exact uU p (u:=(G1 (X1 (G2 (X2 (X1 (G1 (X1 (G1 (aM (aM (aM (bO (bE (X4 (X1 [])))))))))))))))) (y:=⟨3,0,[],l,[]⟩) (b1:=bb) (b2:=0) bo hp.ok hp.gr e.ht ⟨zr,by simp,by dsimp only;omega,by simp,fun x hx=>by cases hx⟩ hp.m0 (ah _) (by have:=hp.lt;omega) hp.m1 hp.lt.2 (by omega) ((hA.up (ah _) fun _=>aK _ _ (by omega)).lo (by omega)) aQ.nil (by omega) (by omega) (fun _=>mr (fun k' h1 h2=>(show(3:Int)=k' from gQ 3 k' (by omega) h1 (hkw.trans h2.symm))) fun x hx hxk hr=>ce1 (fun l' h=>(hun l' h).2) x hx hxk hr) (fun hf=>LU (by omega) hkw fun x hx hxk hr=>by have:=(hun x.dt (hr.symm.trans (ce6 hxk))).1;rw[hf]at this;cases this)
theorem bT3{Φ:Nat→Option CF}{L:List eT}(p:xJ Φ L){F:RO}{M0 M:Mem}{c0 c aa:Nat}{s:List UInt8}(hkw:kw 4=eZ 32 s)(e:BH L F M0)(hge:1000≤c0)(hs:s.length≤20000)
 (h:Mu F M0 c0 M c aa [.i .i64 4,.i .i64 0,.s 0 0,.l0,.l0]) (u:List (Option V)):
 Wp lC (K Φ none 11 F) (.mk ((r5 u (sV s) (.p c0 0) (.i .i64 0) (sV (dg 32 s)) (.p aa 0) (.b true))) [] M c) (cX F [.cn (.r .h) 5,.t (.l (.l .h))] (lu M0 c0 s)):=by
 obtain⟨q1,q2⟩:=h.lt
 have l0:load1 F M aa 0=some (.i .i64 4):=aj h.m1 0
 have ha:=dH 32 s
 have zr:cJ 0:=⟨by decide,by decide⟩
 simp only[WX,Int.reduceEq,zF,l0]
 refine av ((r42 Φ p.h42 p.h89 p.h46 h.ok (dg 32 s) (by omega)).mono ?_)
 rintro r M2 c2 ⟨g2,v,bo,l,rfl,⟨bb,hA⟩,hlen,hun⟩
 obtain⟨bb,hbb,hA⟩:=hA.norm
 have h2:=h.grow g2
 obtain⟨o1,o2,o3⟩:=cU hA
 have hst:=bf h2.m1 3 [v] (by simp) o3
 rw[show over [V.i .i64 4,V.i .i64 0,V.s 0 0,V.l0,V.l0] 3 [v]=[V.i .i64 4,V.i .i64 0,sV [],v,V.l0]from rfl]at hst
 simp only[WX,o2,hst]
 rw[←be,←be]
 have hp:=h2.put (cells':=[V.i .i64 4,V.i .i64 0,sV [],v,V.l0])
 exact uU p (u:=(G1 (X1 (G2 (X2 (X1 (G1 (X1 (G1 (aM (aM (aM (bO (bE (X4 (X1 [])))))))))))))))) (y:=⟨4,0,[],l,[]⟩) (b1:=bb) (b2:=0) bo hp.ok hp.gr e.ht ⟨zr,by simp,by dsimp only;omega,by simp,fun x hx=>by cases hx⟩ hp.m0 (ah _) (by have:=hp.lt;omega) hp.m1 hp.lt.2 (by omega) ((hA.up (ah _) fun _=>aK _ _ (by omega)).lo (by omega)) aQ.nil (by omega) (by omega) (fun _=>mr (fun k' h1 h2=>(show(4:Int)=k' from gQ 4 k' (by omega) h1 (hkw.trans h2.symm))) fun x hx hxk hr=>ce2 (fun l' h=>(hun l' h).2) x hx hxk hr) (fun hf=>LU (by omega) hkw fun x hx hxk hr=>by have:=(hun x.dt (hr.symm.trans (ce7 hxk))).1;rw[hf]at this;cases this)
theorem bT5{Φ:Nat→Option CF}{L:List eT}(p:xJ Φ L){F:RO}{M0 M:Mem}{c0 c aa:Nat}{s:List UInt8}(hkw:kw 6=eZ 32 s)(e:BH L F M0)(hge:1000≤c0)(hs:s.length≤20000)
 (h:Mu F M0 c0 M c aa [.i .i64 6,.i .i64 0,.s 0 0,.l0,.l0]) (u:List (Option V)):
 Wp lC (K Φ none 11 F) (.mk ((r5 u (sV s) (.p c0 0) (.i .i64 0) (sV (dg 32 s)) (.p aa 0) (.b true))) [] M c) (cX F [.cn (.r .h) 5,.t (.l (.l .h))] (lu M0 c0 s)):=by
 obtain⟨q1,q2⟩:=h.lt
 have l0:load1 F M aa 0=some (.i .i64 6):=aj h.m1 0
 have ha:=dH 32 s
 have zr:cJ 0:=⟨by decide,by decide⟩
 have hst:=bf h.m1 2 [sV (dg 32 s)] (by simp) (by rw[dh,eP];rfl)
 rw[show over [V.i .i64 6,V.i .i64 0,V.s 0 0,V.l0,V.l0] 2 [sV (dg 32 s)]=[V.i .i64 6,V.i .i64 0,sV (dg 32 s),V.l0,V.l0]from rfl]at hst
 simp only[WX,Int.reduceEq,sw,sy,wX,sA,B5,B6,B8,ZG,Ba,Bb,Bc,sB,pQ,l0,n9,hst]
 rw[←be,←be]
 have hp:=h.put (cells':=[V.i .i64 6,V.i .i64 0,sV (dg 32 s),V.l0,V.l0])
 exact uU p (u:=(G1 (X1 (G2 (X2 (X1 (G1 (X1 (G1 (aM (aM (aM (bO (bE (X4 (X1 [])))))))))))))))) (y:=⟨6,0,dg 32 s,[],[]⟩) (b1:=0) (b2:=0) true hp.ok hp.gr e.ht ⟨zr,by dsimp only;omega,by simp,by simp,fun x hx=>by cases hx⟩ hp.m0 (ah _) (by have:=hp.lt;omega) hp.m1 hp.lt.2 (by omega) aQ.nil aQ.nil (by omega) (by omega) (fun _=>mr (fun k' h1 h2=>(show(6:Int)=k' from gQ 6 k' (by omega) h1 (hkw.trans h2.symm))) fun x hx hxk hr=>ce4 x hx hxk hr) (fun h=>by cases h)
theorem bT4{Φ:Nat→Option CF}{L:List eT}(p:xJ Φ L){F:RO}{M0 M:Mem}{c0 c aa:Nat}{s:List UInt8}(hkw:kw 5=eZ 32 s)(e:BH L F M0)(hge:1000≤c0)(hs:s.length≤20000)
 (h:Mu F M0 c0 M c aa [.i .i64 5,.i .i64 0,.s 0 0,.l0,.l0]) (u:List (Option V)):
 Wp lC (K Φ none 11 F) (.mk ((r5 u (sV s) (.p c0 0) (.i .i64 0) (sV (dg 32 s)) (.p aa 0) (.b true))) [] M c) (cX F [.cn (.r .h) 5,.t (.l (.l .h))] (lu M0 c0 s)):=by
 obtain⟨q1,q2⟩:=h.lt
 have l0:load1 F M aa 0=some (.i .i64 5):=aj h.m1 0
 have ha:=dH 32 s
 have zr:cJ 0:=⟨by decide,by decide⟩
 simp only[WX,Int.reduceEq,sw,sy,wX,sA,B5,B6,B8,G9,Gc,Ba,Bb,Bc,sB,pQ,l0]
 rw[←be,←be]
 exact uU p (u:=(G1 (X1 (G2 (X2 (X1 (G1 (X1 (G1 (aM (aM (aM (bO (bE (X4 (X1 [])))))))))))))))) (y:=⟨5,0,[],[],[]⟩) (b1:=0) (b2:=0) true h.ok h.gr e.ht ⟨zr,by simp,by simp,by simp,fun x hx=>by cases hx⟩ h.m0 (ah _) (by have:=h.lt;omega) h.m1 h.lt.2 (by omega) aQ.nil aQ.nil (by omega) (by omega) (fun _=>mr (fun k' h1 h2=>(show(5:Int)=k' from gQ 5 k' (by omega) h1 (hkw.trans h2.symm))) fun x hx hxk hr=>ce3 x hx hxk hr) (fun h=>by cases h)
theorem bT1{Φ:Nat→Option CF}{L:List eT}(p:xJ Φ L){F:RO}{M0 M:Mem}{c0 c aa:Nat}{s:List UInt8}(hno:∀k,1≤k∧k≤7→kw k≠eZ 32 s)(e:BH L F M0)(hge:1000≤c0)(hs:s.length≤20000)
 (h:Mu F M0 c0 M c aa [.i .i64 0,.i .i64 0,.s 0 0,.l0,.l0]) (u:List (Option V)):
 Wp lC (K Φ none 11 F) (.mk ((r5 u (sV s) (.p c0 0) (.i .i64 0) (sV (dg 32 s)) (.p aa 0) (.b true))) [] M c) (cX F [.cn (.r .h) 5,.t (.l (.l .h))] (lu M0 c0 s)):=by
 obtain⟨q1,q2⟩:=h.lt
 have l0:load1 F M aa 0=some (.i .i64 0):=aj h.m1 0
 have ha:=dH 32 s
 have zr:cJ 0:=⟨by decide,by decide⟩
 simp only[WX,Int.reduceEq,sw,sy,wX,sA,B5,B6,B8,G9,Gc,Ba,Bb,Bc,sB,pQ,l0]
 rw[←be,←be]
 exact uU p (u:=(G1 (X1 (G2 (X2 (X1 (G1 (X1 (G1 (aM (aM (aM (bO (bE (X4 (X1 [])))))))))))))))) (y:=⟨0,0,[],[],[]⟩) (b1:=0) (b2:=0) true h.ok h.gr e.ht ⟨zr,by simp,by simp,by simp,fun x hx=>by cases hx⟩ h.m0 (ah _) (by have:=h.lt;omega) h.m1 h.lt.2 (by omega) aQ.nil aQ.nil (by omega) (by omega) (fun _=>ce0 hno) (fun h=>by cases h)
theorem bT6{Φ:Nat→Option CF}{L:List eT}(p:xJ Φ L){F:RO}{M0 M:Mem}{c0 c aa:Nat}{s:List UInt8}(hkw:kw 7=eZ 32 s)(e:BH L F M0)(hge:1000≤c0)(hs:s.length≤20000)
 (h:Mu F M0 c0 M c aa [.i .i64 7,.i .i64 0,.s 0 0,.l0,.l0]) (u:List (Option V)):
 Wp lC (K Φ none 11 F) (.mk ((r5 u (sV s) (.p c0 0) (.i .i64 0) (sV (dg 32 s)) (.p aa 0) (.b true))) [] M c) (cX F [.cn (.r .h) 5,.t (.l (.l .h))] (lu M0 c0 s)):=by
 obtain⟨q1,q2⟩:=h.lt
 have l0:load1 F M aa 0=some (.i .i64 7):=aj h.m1 0
 have ha:=dH 32 s
 have zr:cJ 0:=⟨by decide,by decide⟩
 simp only[WX,Int.reduceEq,zF,l0]
 obtain⟨I,hI⟩:∃I:Nat→St→Prop,∀n s',I n s'↔(∃(rest:List UInt8) (c1 b2:Nat) (M1:Mem) (vl:V) (done:List (Int×Int×Int)) (u:List (Option V)),n=rest.length∧s'= .mk ((r5 u (sV s) (.p c0 0) (.i .i64 0) (sV rest) (.p aa 0) (.b true))) [] M1 c1∧Mu F M0 c0 M1 c1 aa [.i .i64 7,.i .i64 0,.s 0 0,.l0,vl]∧c≤b2∧aQ M1 c0 c1 b2 72 3 vl (dj done)∧DM (dg 32 s) rest done∧(∀x∈done,cJ x.1∧cJ x.2.1∧cJ x.2.2)∧done.length+rest.length≤20000∧c≤c1):=⟨fun n s'=>_,fun _ _=>Iff.rfl⟩
 refine bG I ?_ (dg 32 s).length _ ((hI _ _).2 ⟨dg 32 s,c,c,M,.l0,[],(G1 (X1 (G2 (X1 (G1 (X1 (G1 (X1 (G1 (aM (aM (aM (bO (bE (X4 (X1 [])))))))))))))))),rfl,rfl,h,ah _,aQ.nil,DM.start _,(fun x hx=>by cases hx),by rw[bU];omega,ah _⟩)
 intro n s' hIs
 obtain⟨rest,c1,b2,M1,vl,done,u,rfl,rfl,h1,hb2,hA,hS,hrng,hlen,hcc⟩:=(hI _ _).1 hIs
 clear hIs
 obtain⟨p1,p2⟩:=h1.lt
 have e0:=pi rest []
 rw[show sV []= .s 0 0 from rfl]at e0
 have l4:load1 F M1 aa 4=some vl:=aj h1.m1 4
 have nl:=(hA.sl (F:=F)).len
 rw[b6]at nl
 have stop:(rest=[]∨64<done.length)→ ∀u,Wp (.seq (.seq uS uT) (.seq rE .ret)) (K Φ none 11 F) (.mk ((Zu u (sV s) (.p c0 0) (.i .i64 0) (.p aa 0) (.b true))) [] M1 c1) (cX F [.cn (.r .h) 5,.t (.l (.l .h))] (lu M0 c0 s)):=fun hst u=>
  uU p (u:=u) (y:=⟨7,0,[],[],done⟩) (b1:=0) (b2:=b2) true h1.ok h1.gr e.ht ⟨zr,by simp,by simp,by dsimp only;omega,hrng⟩ h1.m0 (ah _) (by omega) h1.m1 h1.lt.2 (by omega) aQ.nil hA (by omega) (by omega)
   (fun _=>mr (fun k' h1 h2=>(show(7:Int)=k' from gQ 7 k' (by omega) h1 (hkw.trans h2.symm))) fun x hx hxk hr=>ce5 (hst.imp (fun hr=>by rw[hr]at hS;exact hS) fun hl=>⟨rest,hS,hl⟩) x hx hxk hr) (fun h=>by cases h)
 by_cases hr:rest=[]
 ·rw[ae hr,Bool.not_true]at e0;simp only[WX,Nat.reduceEqDiff,Ga,Gb,e0];rw[←be,←be];exact stop (.inl hr) (G1 (X1 (G2 (X2 (X1 (G1 (X1 (G1 (aM (aM (aM (bO (bE (X4 (X1 [])))))))))))))))
 ·rw[ag hr,Bool.not_false]at e0;by_cases h64:done.length≤64
  ·have d1:decide ((done.length:Int)≤64)=true:=ae (by omega);have hrl:=Qn 32 hr;have hwl:=lH 32 rest;have hal:=dH 58 (eZ 32 rest);have hal2:=dH 58 (dg 58 (eZ 32 rest));have hbl:=lH 58 (eZ 32 rest);have hbl2:=lH 58 (dg 58 (eZ 32 rest));have low1:∀{Mx:Mem} {cx:Nat},Gr c1 M1 cx Mx→ ∀g,g<1000→Mx.get g=none:=fun g3 g hg=>(g3.old g (by omega)).trans ((h1.gr.old g (by omega)).trans (e.low g hg));simp only[WX,zF,e0,l4,nl,d1];refine av ((r39 Φ p.h39 h1.ok rest 32 (by omega)).mono ?_);rintro r M2 c2 ⟨hr1,g2⟩;obtain⟨z1,hz1⟩:=ql 32 rest;rw[hz1]at hr1;subst hr1;have ok2:=g2.ok h1.ok;simp only[WX,zF];refine av ((r39 Φ p.h39 ok2 (eZ 32 rest) 58 (by omega)).mono ?_);rintro r M3 c3 ⟨hr1,g3⟩;obtain⟨z2,hz2⟩:=ql 58 (eZ 32 rest);rw[hz2]at hr1;subst hr1;have LV:=g3.ok ok2;simp only[WX,zF];refine av ((r39 Φ p.h39 LV (dg 58 (eZ 32 rest)) 58 (by omega)).mono ?_);rintro r M4 c4 ⟨hr1,g4⟩;obtain⟨z3,hz3⟩:=ql 58 (dg 58 (eZ 32 rest));rw[hz3]at hr1;subst hr1;have ok4:=g4.ok LV;have g14:=(g2.trans g3).trans g4;simp only[WX,zF];have g5:=(Gr.refl ok4).set c4 (ax 72 [V.i .i64 0,V.i .i64 0,V.i .i64 0]) (ah _) (aL _) (aP _);have ok5:=g5.ok ok4;have m5:(M4.set c4 (ax 72 [V.i .i64 0,V.i .i64 0,V.i .i64 0])).get c4=some (ax 72 [V.i .i64 0,V.i .i64 0,V.i .i64 0]):=au _ _ _;generalize M4.set c4 (ax 72 [V.i .i64 0,V.i .i64 0,V.i .i64 0])=M5 at g5 ok5 m5⊢;have g15:=g14.trans g5;refine av ((YT p.toNuP ok5 e.e1 e.e2 (low1 g15) (eZ 58 (eZ 32 rest)) (by omega)).mono ?_);rintro r M6 c6 ⟨x,er,rfl,hx,g6⟩;have m6:=(g6.old c4 (by omega)).trans m5;have st6:=bf m6 0 [V.i .i64 x] (by simp) rfl;rw[show over [V.i .i64 0,V.i .i64 0,V.i .i64 0] 0 [V.i .i64 x]=[V.i .i64 x,V.i .i64 0,V.i .i64 0]from rfl]at st6;have hc46:c4<c6:=by have:=g6.le;omega
   have ok6:=(g6.ok ok5).put (y:=ax 72 [V.i .i64 x,V.i .i64 0,V.i .i64 0]) hc46 m6;have m6':(M6.set c4 (ax 72 [V.i .i64 x,V.i .i64 0,V.i .i64 0])).get c4=some (ax 72 [V.i .i64 x,V.i .i64 0,V.i .i64 0]):=au _ _ _;have g16:Gr c1 M1 c6 (M6.set c4 (ax 72 [V.i .i64 x,V.i .i64 0,V.i .i64 0])):=(g15.trans g6).set c4 _ (by have:=g14.le;omega) hc46 (ah _);simp only[WX,zF,st6];generalize M6.set c4 (ax 72 [V.i .i64 x,V.i .i64 0,V.i .i64 0])=N6 at ok6 m6' g16⊢;refine av ((YT p.toNuP ok6 e.e1 e.e2 (low1 g16) (eZ 58 (dg 58 (eZ 32 rest))) (by omega)).mono ?_);rintro r M7 c7 ⟨y,er,rfl,hy,g7⟩;have m7:=(g7.old c4 (by omega)).trans m6';have st7:=bf m7 1 [V.i .i64 y] (by simp) rfl;rw[show over [V.i .i64 x,V.i .i64 0,V.i .i64 0] 1 [V.i .i64 y]=[V.i .i64 x,V.i .i64 y,V.i .i64 0]from rfl]at st7;have hc47:c4<c7:=by have:=g7.le;omega
   have YD:=(g7.ok ok6).put (y:=ax 72 [V.i .i64 x,V.i .i64 y,V.i .i64 0]) hc47 m7;have m7':(M7.set c4 (ax 72 [V.i .i64 x,V.i .i64 y,V.i .i64 0])).get c4=some (ax 72 [V.i .i64 x,V.i .i64 y,V.i .i64 0]):=au _ _ _;have g17:Gr c1 M1 c7 (M7.set c4 (ax 72 [V.i .i64 x,V.i .i64 y,V.i .i64 0])):=(g16.trans g7).set c4 _ (by have:=g14.le;omega) hc47 (ah _);simp only[WX,zF,st7];generalize M7.set c4 (ax 72 [V.i .i64 x,V.i .i64 y,V.i .i64 0])=N7 at YD m7' g17⊢;refine av ((YT p.toNuP YD e.e1 e.e2 (low1 g17) (dg 58 (dg 58 (eZ 32 rest))) (by omega)).mono ?_);rintro r M8 c8 ⟨z,er,rfl,hz,g8⟩;have m8:=(g8.old c4 (by omega)).trans m7';have st8:=bf m8 2 [V.i .i64 z] (by simp) rfl;rw[show over [V.i .i64 x,V.i .i64 y,V.i .i64 0] 2 [V.i .i64 z]=[V.i .i64 x,V.i .i64 y,V.i .i64 z]from rfl]at st8;have hc48:c4<c8:=by have:=g8.le;omega
   have ok8:=(g8.ok YD).put (y:=ax 72 [V.i .i64 x,V.i .i64 y,V.i .i64 z]) hc48 m8;have m8':(M8.set c4 (ax 72 [V.i .i64 x,V.i .i64 y,V.i .i64 z])).get c4=some (ax 72 [V.i .i64 x,V.i .i64 y,V.i .i64 z]):=au _ _ _;have g18:Gr c1 M1 c8 (M8.set c4 (ax 72 [V.i .i64 x,V.i .i64 y,V.i .i64 z])):=(g17.trans g8).set c4 _ (by have:=g14.le;omega) hc48 (ah _);have h8:=h1.grow g18;have l4':load1 F (M8.set c4 (ax 72 [V.i .i64 x,V.i .i64 y,V.i .i64 z])) aa 4=some vl:=aj h8.m1 4;have ld8:loadN F (M8.set c4 (ax 72 [V.i .i64 x,V.i .i64 y,V.i .i64 z])) c4 0 3=some [V.i .i64 x,V.i .i64 y,V.i .i64 z]:=bQ m8' 3 rfl;have hG:flatten (V.g [.i .i64 x,.i .i64 y,.i .i64 z])=[.i .i64 x,.i .i64 y,.i .i64 z]:=rfl;simp only[WX,Nat.reduceAdd,zF,st8,l4',ld8,hG];have hA8:=hA.gr g18;generalize M8.set c4 (ax 72 [V.i .i64 x,V.i .i64 y,V.i .i64 z])=N8 at ok8 m8' g18 h8 l4' ld8 hA8⊢;have g9:=(Gr.refl ok8).set c8 (dx [V.i .i64 0,V.i .i64 0,V.i .i64 0] 72 [V.i .i64 x,V.i .i64 y,V.i .i64 z]) (ah _) (aL _) (aP _);have hy9:cj F (N8.set c8 (dx [V.i .i64 0,V.i .i64 0,V.i .i64 0] 72 [V.i .i64 x,V.i .i64 y,V.i .i64 z])) (c8+1) 3 (.l c8 0 1 1) (dj [(x,y,z)]):=zo (d:=[V.i .i64 0,V.i .i64 0,V.i .i64 0]) (ty:=72) (au _ _ _) (by omega) (fun e he=>by obtain⟨x,_,rfl⟩:=List.mem_map.1 he;rfl) rfl;have hsn:dj done++dj [(x,y,z)]=dj (done++[(x,y,z)]):=(List.map_append ..).symm;have h9:=h8.grow g9;refine av ((iI (bytes:=24) (hA8.gr g9) h9.gr (by decide) hy9 rfl (eI (by rw[b6];show(3*(done.length+1)+2000)*24≤_;omega) (by rw[b6];show done.length+1≤_;omega))).mono ?_);rintro v' Mb cb ⟨bb,hAb,gb,hleb,holdb,hbb⟩;rw[hsn]at hAb;obtain⟨o1,o2,o3⟩:=cU hAb;have hc18:=g18.le;have mb:=(holdb aa (by omega) (by omega)).trans h9.m1;have hst:=bf mb 4 [v'] (by simp) o3;rw[show over [V.i .i64 7,V.i .i64 0,V.s 0 0,V.l0,vl] 4 [v']=[V.i .i64 7,V.i .i64 0,V.s 0 0,V.l0,v']from rfl]at hst;have hb:Mu F M0 c0 Mb cb aa [V.i .i64 7,V.i .i64 0,V.s 0 0,V.l0,vl]:=⟨h1.ok0,gb.ok h1.ok0,gb,(holdb c0 (by omega) (by omega)).trans h9.m0,mb,by omega,by omega⟩
   have hbb':c≤bb:=by rcases hbb with h|h<;>omega
   simp only[WX,o2,hst];refine⟨(dg 32 rest).length,hrl,(hI _ _).2 ⟨dg 32 rest,cb,bb,_,v',done++[(x,y,z)],(G1 (X1 (G2 (X1 (G1 (X1 (G1 (X1 (G1 (aM (aM (aM (bO (bE (X4 (X1 [])))))))))))))))),rfl,rfl,hb.put,hbb',hAb.up (ah _) fun _=>aK _ _ (by omega),hS.step hr hx hy hz (.inl rfl),fun x' hx'=>?_,?_,by omega⟩⟩
   ·rcases List.mem_append.1 hx' with h|h
    ·exact hrng x' h
    ·rw[List.mem_singleton]at h;subst h;exact⟨hx.1,hy.1,hz.1⟩
   ·rw[bw,List.length_singleton];omega
  ·have d1:decide ((done.length:Int)≤64)=false:=ag (by omega);simp only[WX,Nat.reduceEqDiff,Ga,Gb,e0,l4,nl,d1];rw[←be,←be];exact stop (.inr (by omega)) (G1 (X1 (G2 (X2 (X1 (G1 (X1 (G1 (aM (aM (aM (bO (bE (X4 (X1 [])))))))))))))))
abbrev bj4(u:List (Option V))(x0 x2 x3 x4 x5 x7 x8:V):T:=(.n (.n (.n (.n (.n (am u 127 63 191 31 159 95 223) (uO u 15) (am u 143 79 207 47 175 111 239)) (some x7) (.n (am u 135 71 199 39 167 103 231) (uO u 23) (am u 151 87 215 55 183 119 247))) (some x3) (.n (.n (am u 131 67 195 35 163 99 227) (uO u 19) (am u 147 83 211 51 179 115 243)) (uO u 11) (.n (am u 139 75 203 43 171 107 235) (uO u 27) (am u 155 91 219 59 187 123 251)))) (uO u 1) (.n (.n (.n (am u 129 65 193 33 161 97 225) (uO u 17) (am u 145 81 209 49 177 113 241)) (uO u 9) (.n (am u 137 73 201 41 169 105 233) (uO u 25) (am u 153 89 217 57 185 121 249))) (some x5) (.n (.n (am u 133 69 197 37 165 101 229) (uO u 21) (am u 149 85 213 53 181 117 245)) (uO u 13) (.n (am u 141 77 205 45 173 109 237) (uO u 29) (am u 157 93 221 61 189 125 253))))) (some x0) (.n (.n (.n (.n (am u 128 64 192 32 160 96 224) (uO u 16) (am u 144 80 208 48 176 112 240)) (some x8) (.n (am u 136 72 200 40 168 104 232) (uO u 24) (am u 152 88 216 56 184 120 248))) (some x4) (.n (.n (am u 132 68 196 36 164 100 228) (uO u 20) (am u 148 84 212 52 180 116 244)) (uO u 12) (.n (am u 140 76 204 44 172 108 236) (uO u 28) (am u 156 92 220 60 188 124 252)))) (some x2) (.n (.n (.n (am u 130 66 194 34 162 98 226) (uO u 18) (am u 146 82 210 50 178 114 242)) (uO u 10) (.n (am u 138 74 202 42 170 106 234) (uO u 26) (am u 154 90 218 58 186 122 250))) (uO u 6) (.n (.n (am u 134 70 198 38 166 102 230) (uO u 22) (am u 150 86 214 54 182 118 246)) (uO u 14) (.n (am u 142 78 206 46 174 110 238) (uO u 30) (am u 158 94 222 62 190 126 254))))))
theorem r11{Φ:Nat→Option CF}{L:List eT}(p:xJ Φ L){F:RO}{M:Mem}{c:Nat}{s:List UInt8}(ok:d9 F M c)(e:BH L F M)(hs:s.length≤20000):
 Calls Φ F 11 [sV s] M c (lu M c s):=by
 refine az p.h11 ?_
 have hge:=ok.ge
 simp only[WX,zF]
 have g1:=(Gr.refl ok).set c (ax 26 [V.i .i64 0,V.i .i64 0,V.s 0 0,V.l0,V.l0]) (ah _) (aL _) (aP _)
 have m1:(M.set c (ax 26 [V.i .i64 0,V.i .i64 0,V.s 0 0,V.l0,V.l0])).get c=some (ax 26 mK):=au _ _ _
 generalize M.set c (ax 26 [V.i .i64 0,V.i .i64 0,V.s 0 0,V.l0,V.l0])=M1 at g1 m1⊢
 refine av ((r39 Φ p.h39 (g1.ok ok) s 32 (by omega)).mono ?_)
 rintro r M2 c2 ⟨hr1,g2⟩
 obtain⟨z1,hz1⟩:=ql 32 s
 rw[hz1]at hr1
 subst hr1
 have hc2:=g2.le
 have g12:=g1.trans g2
 have g3:=g12.set c2 (ax 26 [V.i .i64 0,V.i .i64 0,V.s 0 0,V.l0,V.l0]) (by omega) (aL _) (aP _)
 simp only[WX,zF]
 have hmu:Mu F M c (M2.set c2 (ax 26 [V.i .i64 0,V.i .i64 0,V.s 0 0,V.l0,V.l0])) (c2+1) c2 [V.i .i64 0,V.i .i64 0,V.s 0 0,V.l0,V.l0]:=⟨ok,g3.ok ok,g3,(aK _ _ (by omega)).trans ((g2.old c (by omega)).trans m1),au _ _ _,by omega,by omega⟩
 generalize M2.set c2 (ax 26 [V.i .i64 0,V.i .i64 0,V.s 0 0,V.l0,V.l0])=M3 at hmu⊢
 obtain⟨I,hI⟩:∃I:Nat→St→Prop,∀n s',I n s'↔(∃(j c1:Nat) (M1:Mem) (u:List (Option V)),n=7-j∧j≤7∧s'= .mk ((bj4 u (sV s) (.p c 0) (.i .i64 0) (sV (eZ 32 s)) (sV (dg 32 s)) (.p c2 0) (.i .i64 (j:Int)))) [] M1 c1∧Mu F M c M1 c1 c2 [.i .i64 (kf (eZ 32 s) (j+1)),.i .i64 0,.s 0 0,.l0,.l0]):=⟨fun n s'=>_,fun _ _=>Iff.rfl⟩
 refine bG I ?_ 7 _ ((hI _ _).2 ⟨0,c2+1,M3,(G1 (X1 (G4 (X1 (G2 (aM (aM (aM (bO (bE (X4 (X2 [])))))))))))),rfl,aF _,rfl,hmu⟩)
 intro n s' hIs
 obtain⟨j,c1,M4,u,rfl,hj,rfl,h4⟩:=(hI _ _).1 hIs
 clear hIs
 by_cases hlt:j<7
 ·have d1:decide ((j:Int)<7)=true:=ae (by omega);have q8:bD .add (.i .i64 (j:Int)) (.i .i64 1)=some (.i .i64 ((j+1:Nat):Int)):=by rw[aO _ _ (by omega) (by omega)];simp
  simp only[WX,zF,d1];refine av ((r28 Φ p.h28 (F:=F) (M:=M4) (c:=c1)).mono ?_);rintro r M5 c5 ⟨rfl,rfl,rfl⟩;have g5:=(Gr.refl h4.ok).set c1 au7 (ah _) (aL _) (aP _);have h5:=h4.grow g5;obtain⟨pb,po,hpb,hia,hld⟩:=so (ZT (F:=F) (au M4 c1 au7) (aL _)) j (by simp[tX];omega);have hia:=hia .i64
  have hge2:(tX.drop 1)[j]'(by simp[tX];omega)=tX.getD (j+1) []:=by
   have:j=0∨j=1∨j=2∨j=3∨j=4∨j=5∨j=6:=by omega
   rcases this with rfl|rfl|rfl|rfl|rfl|rfl|rfl<;>rfl
  rw[hge2]at hld;have e1:=gk (tX.getD (j+1) []) (eZ 32 s);by_cases he:tX.getD (j+1) []=eZ 32 s
  ·rw[ae he]at e1;have hst:=bf h5.m1 0 [V.i .i64 ((j+1:Nat):Int)] (by simp) rfl;rw[show over [V.i .i64 (kf (eZ 32 s) (j+1)),V.i .i64 0,V.s 0 0,V.l0,V.l0] 0 [V.i .i64 ((j+1:Nat):Int)]=[V.i .i64 ((j+1:Nat):Int),V.i .i64 0,V.s 0 0,V.l0,V.l0]from rfl]at hst;simp only[WX,zF,hia,hld,e1,q8,hst];refine⟨7-(j+1),by omega,(hI _ _).2 ⟨j+1,c1+1,_,(G1 (X1 (G4 (X1 (G2 (aM (aM (aM (bO (bE (X4 (X2 [])))))))))))),rfl,hlt,rfl,?_⟩⟩;rw[kf,ac ⟨Nat.succ_pos _,he⟩];exact h5.put
  ·rw[ag he]at e1;simp only[WX,zF,hia,hld,e1,q8];exact⟨7-(j+1),by omega,(hI _ _).2 ⟨j+1,c1+1,_,(G1 (X1 (G4 (X1 (G2 (aM (aM (aM (bO (bE (X4 (X2 [])))))))))))),rfl,hlt,rfl,by rw[kf,ab (fun h=>he h.2)];exact h5⟩⟩
 ·obtain rfl:j=7:=by omega
  have d1:decide (((7:Nat):Int)<7)=false:=ag (by omega);simp only[WX,b32,b33,ZF,pQ,d1];rw[←be,←be];have h4:Mu F M c M4 c1 c2 [.i .i64 (kf (eZ 32 s) 8),.i .i64 0,.s 0 0,.l0,.l0]:=h4;rcases bV1 (eZ 32 s)with⟨k,hk,h1,h2⟩|⟨h1,h2⟩
  ·rw[h1]at h4;have hcase:k=1∨k=2∨k=3∨k=4∨k=5∨k=6∨k=7:=by omega
   rcases hcase with rfl|rfl|rfl|rfl|rfl|rfl|rfl
   ·exact Ym p (.inl rfl) h2 e hge hs h4 (G1 (X1 (G2 (X1 (G1 (X1 (G1 (X1 (G1 (aM (aM (aM (bO (bE (X4 (X1 []))))))))))))))))
   ·exact Ym p (.inr rfl) h2 e hge hs h4 (G1 (X1 (G2 (X1 (G1 (X1 (G1 (X1 (G1 (aM (aM (aM (bO (bE (X4 (X1 []))))))))))))))))
   ·exact bT2 p h2 e hge hs h4 (G1 (X1 (G2 (X1 (G1 (X1 (G1 (X1 (G1 (aM (aM (aM (bO (bE (X4 (X1 []))))))))))))))))
   ·exact bT3 p h2 e hge hs h4 (G1 (X1 (G2 (X1 (G1 (X1 (G1 (X1 (G1 (aM (aM (aM (bO (bE (X4 (X1 []))))))))))))))))
   ·exact bT4 p h2 e hge hs h4 (G1 (X1 (G2 (X1 (G1 (X1 (G1 (X1 (G1 (aM (aM (aM (bO (bE (X4 (X1 []))))))))))))))))
   ·exact bT5 p h2 e hge hs h4 (G1 (X1 (G2 (X1 (G1 (X1 (G1 (X1 (G1 (aM (aM (aM (bO (bE (X4 (X1 []))))))))))))))))
   ·exact bT6 p h2 e hge hs h4 (G1 (X1 (G2 (X1 (G1 (X1 (G1 (X1 (G1 (aM (aM (aM (bO (bE (X4 (X1 []))))))))))))))))
  ·rw[h1]at h4;exact bT1 p h2 e hge hs h4 (G1 (X1 (G2 (X1 (G1 (X1 (G1 (X1 (G1 (aM (aM (aM (bO (bE (X4 (X1 []))))))))))))))))
abbrev ch7(u:List (Option V))(x2 x3 x4 x5:V):T:=(.n (.n (.n (am u 31 15 47 7 39 23 55) (some x3) (am u 35 19 51 11 43 27 59)) (uO u 1) (.n (am u 33 17 49 9 41 25 57) (some x5) (am u 37 21 53 13 45 29 61))) (uO u 0) (.n (.n (am u 32 16 48 8 40 24 56) (some x4) (am u 36 20 52 12 44 28 60)) (some x2) (.n (am u 34 18 50 10 42 26 58) (uO u 6) (am u 38 22 54 14 46 30 62))))
def aA8:CC:=(.reg [(aa a2 (.bx 26 5 z0)),(aa a3 (.bx 26 5 z1)),(qq a4 (.mv xF))])
def b34:=wu aA8.eq_1
def aA9:CC:=(.reg [(qq a6 (.fa 0 z2)),(qq a7 (.ld1 z6)),(qq a8 (.fa 0 z3)),(qq a9 (.ld1 z8)),(qq cg (.bi .neq z7 z9)),(qq cF (.mv cm)),(aU de (.fa 1 z2) cF),(aU cO (.ld1 cT) cF),(aU dm (.fa 1 z3) cF),(aU dC (.ld1 dB) cF),(aU dJ (.bi .neq cK dy) cF),(qq dX (.pk cI xT ec)),(qq dS (.mv dL)),(aU dN (.fa 2 z2) dS),(aU fi (.ld1 fk) dS),(aU eL (.fa 2 z3) dS),(aU eM (.ld1 fT) dS),(aU ew (.bi .neq fl fm) dS),(qq dG (.pk eA xT fW)),(qq eE (.mv fX)),(aU eU (.fa 3 z2) eE),(aU fC (.ld1 ib) eE),(aU fU (.bs gi) eE),(aU fp (.fa 3 z3) eE),(aU fD (.ld1 ij) eE),(aU iF (.bs il) eE),(aU gu (.bi .neq ic iE) eE),(qq gH (.pk fY xT jh)),(qq ga (.mv ji)),(aU iG (.fa 4 z2) ga),(aU jb (.ld1 jj) ga),(aU iP (.ln .slice k5) ga),(aU ia (.fa 4 z3) ga),(aU j0 (.ld1 j1) ga),(aU ie (.ln .slice k8) ga),(aU jB (.bi .neq jk kg) ga),(qq jc (.pk jz xT kh))])
def cl7:=wu aA9.eq_1
def aB0:CC:=(.reg [(qq a4 (.mv xF))])
def cl8:=wu aB0.eq_1
def aB1:CC:=(.cond kK (.seq aB0 .ret) .skip)
def cl9:=wu aB1.eq_1
def aB2:CC:=(.reg [(qq a5 (.mv (x6 0)))])
def cm0:=wu aB2.eq_1
def aB3:CC:=(.reg [(qq jd (.mv z5)),(qq jm (.fa 4 z2)),(qq k6 (.ld1 lm)),(qq kS (.ln .slice lr)),(qq kT (.bi .lss ll mJ))])
def cm1:=wu aB3.eq_1
def aB4:CC:=(.seq aB3 (.cond lq .skip (.exit 0)))
def cm2:=wu aB4.eq_1
def aB5:CC:=(.dreg 11 [(0,0,(qq mh (.fa 4 z2))),(1,1,(qq k7 (.ld1 mM))),(2,0,(qq kd (.mv z5))),(3,7,(qq iH (.iaS 3 nN oq))),(4,15,(qq mB (.ldn 3 nO))),(5,0,(qq mC (.fa 4 z3))),(6,32,(qq kW (.ld1 ot))),(7,0,(qq kL (.mv z5))),(8,224,(qq mD (.iaS 3 nP p7))),(9,480,(qq oy (.ldn 3 p8))),(10,1023,(qq mE (.eq true (.agg [(0,.int),(1,.int),(2,.int)]) false oF pV)))])
def cm3:=wu aB5.eq_1
def aB6:CC:=(.reg [(qq a4 (.mv xF))])
def cm4:=wu aB6.eq_1
def Sy:CC:=(.cond pW (.seq aB6 .ret) .skip)
def bo9:=wu Sy.eq_1
def SA:CC:=(.reg [(qq jv (.mv z5)),(qq gj (.bi .add mw (x6 1))),(qq a5 (.mv mf))])
def bp0:=wu SA.eq_1
def SB:CC:=(.loop (.seq aB4 (.seq (.block 1 (.seq aB5 Sy)) SA)))
def bp1:=wu SB.eq_1
def SC:CC:=(.reg [(qq a4 (.mv xT))])
def bp2:=wu SC.eq_1
def SD:CC:=(.seq (.seq aA9 aB1) (.seq (.seq aB2 (.block 0 SB)) (.seq SC .ret)))
def ZI:=wu SD.eq_1
def c12:CF:= .mk 6 [.t a4] (.seq aA8 SD)
theorem e12(v0 v1:V):bh 6 [v0,v1]=(.n (.n oE (some v1) oE) (some v0) zn):=rfl
def B12:=ai @e12 (ai @b34 (ai @cl7 (ai @cl8 (ai @cl9 (ai @cm0 (ai @cm1 (ai @cm2 (ai @cm3 (ai @cm4 (ai @bo9 (ai @bp0 (ai @bp1 (ai @bp2 (@ZI))))))))))))))
def bH0:CC:=(.reg [(aa a2 (.bx 26 5 z0)),(qq a4 (.mv (x6 0)))])
def cp4:=wu bH0.eq_1
def bH1:CC:=(.reg [(qq a5 (.fa 2 z2)),(qq a6 (.ld1 z5)),(qq a7 (.ln .str z6)),(qq a8 (.mv z1)),(qq a9 (.bi .add z8 (x6 1))),(qq cg (.mn false z7 [z9])),(qq cF (.fa 3 z2)),(qq de (.ld1 cI)),(qq cO (.ln .slice cT)),(qq dm (.mv z1)),(qq dC (.bi .add dB (x6 1))),(qq dJ (.mn false cK [dy])),(qq dX (.bi .add cm ec)),(qq dS (.fa 4 z2)),(qq dN (.ld1 eA)),(qq fi (.ln .slice fk)),(qq eL (.mv z1)),(qq eM (.bi .add fT (x6 1))),(qq ew (.mn false fl [fm])),(qq dG (.bi .add dL fW)),(qq a4 (.mv fX))])
def cM6:=wu bH1.eq_1
def c7:CF:= .mk 5 [.t a4] (.seq bH0 (.seq bH1 .ret))
theorem e7(v0 v1:V):bh 5 [v0,v1]=(.n (.n iC (some v1) iC) (some v0) oE):=rfl
def B7:=ai @e7 (ai @cp4 (@cM6))
theorem r12{Φ:Nat→Option CF}(h:Φ 12=some c12){F:RO}{M:Mem}{c:Nat}{vd vl vd' vl':V}{y:AC}(ok:d9 F M c)(hlen:y.ls.length≤30000)(hdl:y.dt.length≤100000)(sd:ov F M c vd y.dt)(sl:cj F M c 3 vl (dj y.ls))(sd':ov F M c vd' y.dt)(sl':cj F M c 3 vl' (dj y.ls)):
 Calls Φ F 12 [fj y vd vl,fj y vd' vl'] M c fun r M' c'=>r= .b true∧Gr c M c' M':=by
 refine az h ?_
 unfold fj
 obtain⟨o1,o2,o3⟩:=dI sd
 obtain⟨o4,o5,o6⟩:=dI sl
 obtain⟨p1,p2,p3⟩:=dI sd'
 obtain⟨p4,p5,p6⟩:=dI sl'
 have g1:=(Gr.refl ok).set c (ax 26 [.i .i64 y.k,.i .i64 y.a,sV y.tx,vd,vl]) (ah _) (aL _) (aP _)
 have g2:=g1.set (c+1) (ax 26 [.i .i64 y.k,.i .i64 y.a,sV y.tx,vd',vl']) (by omega) (aL _) (aP _)
 have ok2:=g2.ok ok
 have b0:((M.set c (ax 26 [.i .i64 y.k,.i .i64 y.a,sV y.tx,vd,vl])).set (c+1) (ax 26 [.i .i64 y.k,.i .i64 y.a,sV y.tx,vd',vl'])).get c=some (ax 26 [.i .i64 y.k,.i .i64 y.a,sV y.tx,vd,vl]):=(aK _ _ (by omega)).trans (au _ _ _)
 have b1:((M.set c (ax 26 [.i .i64 y.k,.i .i64 y.a,sV y.tx,vd,vl])).set (c+1) (ax 26 [.i .i64 y.k,.i .i64 y.a,sV y.tx,vd',vl'])).get (c+1)=some (ax 26 [.i .i64 y.k,.i .i64 y.a,sV y.tx,vd',vl']):=au _ _ _
 have sdX:=sd.grow g2
 have slX:=sl.grow g2
 have sdX':=sd'.grow g2
 have slX':=sl'.grow g2
 simp only[WX,Nat.reduceAdd,e12,b34,ZI,eP,o1,o6,p1,p6]
 generalize(M.set c (ax 26 [.i .i64 y.k,.i .i64 y.a,sV y.tx,vd,vl])).set (c+1) (ax 26 [.i .i64 y.k,.i .i64 y.a,sV y.tx,vd',vl'])=M1 at g2 ok2 b0 b1 sdX slX sdX' slX'⊢
 have l0:load1 F M1 c 0=some (.i .i64 y.k):=aj b0 0
 have l1:load1 F M1 c 1=some (.i .i64 y.a):=aj b0 1
 have l2:load1 F M1 c 2=some (sV y.tx):=aj b0 2
 have l3:load1 F M1 c 3=some vd:=aj b0 3
 have l4:load1 F M1 c 4=some vl:=aj b0 4
 have k0:load1 F M1 (c+1) 0=some (.i .i64 y.k):=aj b1 0
 have k1:load1 F M1 (c+1) 1=some (.i .i64 y.a):=aj b1 1
 have k2:load1 F M1 (c+1) 2=some (sV y.tx):=aj b1 2
 have k3:load1 F M1 (c+1) 3=some vd':=aj b1 3
 have k4:load1 F M1 (c+1) 4=some vl':=aj b1 4
 have d1:decide (y.k≠y.k)=false:=ag (by simp)
 have d2:decide (y.a≠y.a)=false:=ag (by simp)
 have e3:=pi y.tx y.tx
 rw[ae rfl,Bool.not_true]at e3
 have e4:=pi y.dt y.dt
 rw[ae rfl,Bool.not_true]at e4
 have bs1:=yq sdX
 have bs2:=yq sdX'
 have nl:=slX.len
 have nl':=slX'.len
 rw[b6]at nl nl'
 have d5:decide ((y.ls.length:Int)≠(y.ls.length:Int))=false:=ag (by simp)
 simp only[WX,B12,l0,l1,l2,l3,l4,k0,k1,k2,k3,k4,d1,d2,e3,e4,bs1,bs2,nl,nl',d5]
 obtain⟨I,hI⟩:∃I:Nat→St→Prop,∀n s',I n s'↔(∃(i c1:Nat) (u:List (Option V)),n=y.ls.length-i∧i≤y.ls.length∧c+1+1≤c1∧s'= .mk ((ch7 u (.p c 0) (.p (c+1) 0) (.b false) (.i .i64 (i:Int)))) [] M1 c1):=⟨fun n s'=>_,fun _ _=>Iff.rfl⟩
 refine bG I ?_ y.ls.length _ ((hI _ _).2 ⟨0,c+1+1,(X2 (G4 (bO (bE (X8 (X1 [])))))),rfl,aF _,ah _,rfl⟩)
 intro n s' hIs
 obtain⟨i,c1,u,rfl,hi,hc1,rfl⟩:=(hI _ _).1 hIs
 clear hIs
 have q8:bD .add (.i .i64 (i:Int)) (.i .i64 1)=some (.i .i64 ((i+1:Nat):Int)):=by rw[aO _ _ (by omega) (by omega)];simp
 by_cases hlt:i<y.ls.length
 ·have d6:decide ((i:Int)<(y.ls.length:Int))=true:=ae (by omega);obtain⟨pb,po,hpb,hia,hld⟩:=slX.at i (by rw[b6];exact hlt);obtain⟨pb',po',hpb',hia',hld'⟩:=slX'.at i (by rw[b6];exact hlt);have hia:=hia .i64;have hia':=hia' .i64;have hge:(dj y.ls)[i]'(by rw[b6];exact hlt)=[.i .i64 y.ls[i].1,.i .i64 y.ls[i].2.1,.i .i64 y.ls[i].2.2]:=List.getElem_map ..;rw[hge]at hld hld';have hld:=hld.load (by simp);have hld':=hld'.load (by simp);generalize y.ls[i]=x at hld hld';obtain⟨x1,x2,x3⟩:=x;have hld:loadN F M1 pb po 3=some [.i .i64 x1,.i .i64 x2,.i .i64 x3]:=hld;have hld':loadN F M1 pb' po' 3=some [.i .i64 x1,.i .i64 x2,.i .i64 x3]:=hld';have z1:decide (x1=x1)=true:=ae rfl;have z2:decide (x2=x2)=true:=ae rfl;have z3:decide (x3=x3)=true:=ae rfl;have hfr:=ok2.free;simp only[WX,B12,l4,k4,nl,d6,hia,hia',hld,hld',q8];exact⟨y.ls.length-(i+1),by omega,(hI _ _).2 ⟨i+1,_,(X2 (G4 (bO (bE (X8 (X1 [])))))),rfl,hlt,by omega,rfl⟩⟩
 ·obtain rfl:i=y.ls.length:=by omega
  have d6:decide ((y.ls.length:Int)<(y.ls.length:Int))=false:=ag (by omega);simp only[WX,B12,l4,nl,d6];exact g2.up (by omega)
theorem r7{Φ:Nat→Option CF}(h:Φ 7=some c7){F:RO}{M:Mem}{c:Nat}{vd vl:V}{y:AC}(ok:d9 F M c)(sd:ov F M c vd y.dt)(sl:cj F M c 3 vl (dj y.ls)):
 Calls Φ F 7 [fj y vd vl,.i .i64 20000] M c fun r M' c'=>r= .i .i64 ((min y.tx.length 20001+min y.dt.length 20001+min y.ls.length 20001:Nat):Int)∧Gr c M c' M':=by
 refine az h ?_
 unfold fj
 obtain⟨o1,o2,o3⟩:=dI sd
 obtain⟨o4,o5,o6⟩:=dI sl
 have g1:=(Gr.refl ok).set c (ax 26 [.i .i64 y.k,.i .i64 y.a,sV y.tx,vd,vl]) (ah _) (aL _) (aP _)
 have b0:(M.set c (ax 26 [.i .i64 y.k,.i .i64 y.a,sV y.tx,vd,vl])).get c=some (ax 26 [.i .i64 y.k,.i .i64 y.a,sV y.tx,vd,vl]):=au _ _ _
 simp only[WX,Nat.reduceAdd,e7,cp4,eP,o1,o6]
 generalize M.set c (ax 26 [.i .i64 y.k,.i .i64 y.a,sV y.tx,vd,vl])=M1 at g1 b0⊢
 have l2:load1 F M1 c 2=some (sV y.tx):=aj b0 2
 have l3:load1 F M1 c 3=some vd:=aj b0 3
 have l4:load1 F M1 c 4=some vl:=aj b0 4
 have q1:bD .add (.i .i64 20000) (.i .i64 1)=some (.i .i64 ((20001:Nat):Int)):=by rw[show(.i .i64 20000:V)= .i .i64 ((20000:Nat):Int)from rfl,show(.i .i64 1:V)= .i .i64 ((1:Nat):Int)from rfl,aO _ _ (by omega) (by omega)];rfl
 have n3:=sd.len
 have n4:=sl.len
 rw[b6]at n4
 have a1:=um y.tx.length 20001
 have a2:=um y.dt.length 20001
 have a3:=um y.ls.length 20001
 have s1:bD .add (.i .i64 ((min y.tx.length 20001:Nat):Int)) (.i .i64 ((min y.dt.length 20001:Nat):Int))=some (.i .i64 ((min y.tx.length 20001+min y.dt.length 20001:Nat):Int)):=by rw[aO _ _ (by omega) (by omega)];rfl
 have s2:bD .add (.i .i64 ((min y.tx.length 20001+min y.dt.length 20001:Nat):Int)) (.i .i64 ((min y.ls.length 20001:Nat):Int))=some (.i .i64 ((min y.tx.length 20001+min y.dt.length 20001+min y.ls.length 20001:Nat):Int)):=by rw[aO _ _ (by omega) (by omega)];rfl
 simp only[WX,B7,l2,l3,l4,n3,n4,q1,b28,a1,a2,a3,s1,s2]
 exact g1
def h13:List V→Option V
 |[.i .i64 z]=>if -9223372036854775808≤z∧z≤9223372036854775807 then some (.i .i64 z)else none
 |_=>none
theorem Ys{y:AC}(h:jS y=true)(hb:ua y):(cw y).length≤20000:=by
 have hk:=((eb y).1 h).1
 have h1:=((eb y).1 h).2.1
 have hkl:=vP y.k hk
 have two:∀w:List UInt8,bC y=[w]→w.length≤15000→(cw y).length≤20000:=fun w hp hw=>by
  rw[cw,hp,rQ _ _ _ (by simp),cN];simp only[bw,List.length_singleton];omega
 have hcase:y.k=1∨y.k=2∨y.k=3∨y.k=4∨y.k=5∨y.k=6∨y.k=7:=by omega
 unfold cD at h1
 rcases hcase with hk1|hk1|hk1|hk1|hk1|hk1|hk1
 ·exact two (bI y.a) (by unfold bC;rw[ac (by omega)]) (by have:=dE hb.a;omega)
 ·exact two (bI y.a) (by unfold bC;rw[ac (by omega)]) (by have:=dE hb.a;omega)
 ·rw[ab (by omega),ab (by omega),ac hk1]at h1;have:=bc h1;exact two (iU y.dt) (by unfold bC;rw[ab (by omega),ac hk1]) (by have:=vL y.dt;omega)
 ·rw[ab (by omega),ab (by omega),ab (by omega),ac hk1]at h1;have:=bc h1;exact two (dK y.dt) (by unfold bC;rw[ab (by omega),ab (by omega),ac hk1]) (by have:=wZ y.dt;omega)
 ·have hp:bC y=[]:=by unfold bC;rw[ab (by omega),ab (by omega),ab (by omega),ab (by omega),ab (by omega)]
  rw[cw,hp,cN];omega
 ·rw[ab (by omega),ab (by omega),ab (by omega),ab (by omega),ac hk1,aD]at h1;have:=bc h1.1;exact two y.tx (by unfold bC;rw[ab (by omega),ab (by omega),ab (by omega),ac hk1]) (by omega)
 ·have h64:=(YD h hk1).1;have hsz:=AH y.ls hb.li;rw[cw];refine bn (yQ _ _) ?_;have hp:bC y=y.ls.map bN:=by unfold bC;rw[ab (by omega),ab (by omega),ab (by omega),ab (by omega),ac hk1]
  rw[hp,oa];simp only[aX,List.length_map,bU];omega
abbrev ch8(u:List (Option V))(x1 x2 x5 x6 x9 x11:V):T:=(.n (.n (.n (.n (am u 63 31 95 15 79 47 111) (uO u 7) (am u 71 39 103 23 87 55 119)) (uO u 3) (.n (am u 67 35 99 19 83 51 115) (some x11) (am u 75 43 107 27 91 59 123))) (some x1) (.n (.n (am u 65 33 97 17 81 49 113) (some x9) (am u 73 41 105 25 89 57 121)) (some x5) (.n (am u 69 37 101 21 85 53 117) (uO u 13) (am u 77 45 109 29 93 61 125)))) (uO u 0) (.n (.n (.n (am u 64 32 96 16 80 48 112) (uO u 8) (am u 72 40 104 24 88 56 120)) (uO u 4) (.n (am u 68 36 100 20 84 52 116) (uO u 12) (am u 76 44 108 28 92 60 124))) (some x2) (.n (.n (am u 66 34 98 18 82 50 114) (uO u 10) (am u 74 42 106 26 90 58 122)) (some x6) (.n (am u 70 38 102 22 86 54 118) (uO u 14) (am u 78 46 110 30 94 62 126)))))
abbrev ch9(u:List (Option V))(x1 x2 x5 x6 x7 x9 x11 x13:V):T:=(.n (.n (.n (.n (am u 63 31 95 15 79 47 111) (some x7) (am u 71 39 103 23 87 55 119)) (uO u 3) (.n (am u 67 35 99 19 83 51 115) (some x11) (am u 75 43 107 27 91 59 123))) (some x1) (.n (.n (am u 65 33 97 17 81 49 113) (some x9) (am u 73 41 105 25 89 57 121)) (some x5) (.n (am u 69 37 101 21 85 53 117) (some x13) (am u 77 45 109 29 93 61 125)))) (uO u 0) (.n (.n (.n (am u 64 32 96 16 80 48 112) (uO u 8) (am u 72 40 104 24 88 56 120)) (uO u 4) (.n (am u 68 36 100 20 84 52 116) (uO u 12) (am u 76 44 108 28 92 60 124))) (some x2) (.n (.n (am u 66 34 98 18 82 50 114) (uO u 10) (am u 74 42 106 26 90 58 122)) (some x6) (.n (am u 70 38 102 22 86 54 118) (uO u 14) (am u 78 46 110 30 94 62 126)))))
def bF9:CC:=(.reg [(aa a2 (.bx 26 5 z0)),(qq a4 (.mv xF))])
def cn4:=wu bF9.eq_1
def bG0:CC:=(.reg [(qq dJ (.ldn 5 z2)),(ee dX (.call 7 [ec,(x6 20000)])),(qq dS (.bi .gtr dL (x6 20000))),(qq dN (.mv eA)),(aU fi (.mv z1) dN),(aU eL (.ln .str fl) dN),(aU eM (.bi .gtr fT (x6 20000)) dN),(qq ew (.pk fk xT fm))])
def cL9:=wu bG0.eq_1
def bG1:CC:=(.reg [(ee dG (.call 8 [])),(qq a4 (.mv fX))])
def cM0:=wu bG1.eq_1
def bG2:CC:=(.seq bG0 (.cond fW (.seq bG1 .ret) .skip))
def co7:=wu bG2.eq_1
def bG3:CC:=(.reg [(qq eU (.ldn 5 z2)),(ee fC (.call 9 [ib])),(qq eE (.mv gi)),(qq fU (.ex 0 fY)),(qq fp (.ex 1 fY)),(qq a5 (.mv ic)),(qq a6 (.mv ij))])
def cM1:=wu bG3.eq_1
def bG4:CC:=(.reg [(qq iF (.mv z1)),(ee gu (.call 10 [iE])),(qq fD (.mv jh)),(qq gH (.ex 0 il)),(qq ga (.ex 1 il)),(aa a7 (.al 26 [(.i .i64 0),(.i .i64 0),(.s 0 0),.l0,.l0])),(ez (.st 5 z7 ji)),(qq a8 (.mv jz))])
def cM2:=wu bG4.eq_1
def bG5:CC:=(.reg [(qq jb (.mv z1)),(ee iP (.call 10 [k5])),(qq iG (.mv jk)),(qq ia (.ex 0 jj)),(qq j0 (.ex 1 jj)),(aa a9 (.al 26 [(.i .i64 0),(.i .i64 0),(.s 0 0),.l0,.l0])),(ez (.st 5 z9 j1)),(qq cg (.mv k8))])
def cM3:=wu bG5.eq_1
def bG6:CC:=(.reg [(qq jB (.mv z1)),(ee jc (.call 11 [kh])),(qq ie (.mv kK)),(qq jd (.ex 0 kg)),(qq jm (.ex 1 kg)),(aa cF (.al 26 [(.i .i64 0),(.i .i64 0),(.s 0 0),.l0,.l0])),(ez (.st 5 cI ll)),(qq de (.mv lm))])
def cM4:=wu bG6.eq_1
def bG7:CC:=(.reg [(qq k6 (.ldn 5 z7)),(qq kS (.ldn 5 cI)),(ee kT (.call 12 [lr,mJ])),(qq jv (.un .not lq)),(qq gj (.mv mw)),(aU mh (.mv z8) gj),(xS k7 (.call 13 [mM]) gj),(aU kd (.mv cT) gj),(aU iH (.bi .neq nN oq) gj),(qq mB (.pk mf xT nO))])
def cM5:=wu bG7.eq_1
def aI5:CC:=(.reg [(qq a4 (.mv xF))])
def cn5:=wu aI5.eq_1
def aI6:CC:=(.cond oF (.seq aI5 .ret) .skip)
def b45:=wu aI6.eq_1
def aI7:CC:=(.reg [(qq cO (.mv (x6 0)))])
def b46:=wu aI7.eq_1
def aI8:CC:=(.reg [(qq mC (.mv cK)),(qq kW (.fa 3 z7)),(qq kL (.ld1 nP)),(qq mD (.ln .slice p7)),(qq oy (.bi .lss ot p8))])
def a01:=wu aI8.eq_1
def aI9:CC:=(.seq aI8 (.cond pV .skip (.exit 0)))
def a02:=wu aI9.eq_1
def aJ0:CC:=(.reg [(qq oz (.fa 3 z7)),(qq mR (.ld1 rp)),(qq rt (.mv cK)),(qq qb (.iaS 1 rq xn)),(ez (.st 1 sH (.c (.i .u8 102))))])
def cn6:=wu aJ0.eq_1
def aJ1:CC:=(.reg [(qq mE (.mv cK)),(qq mF (.bi .add pW (x6 1))),(qq cO (.mv ry))])
def cn7:=wu aJ1.eq_1
def aJ2:CC:=(.block 0 (.loop (.seq aI9 (.seq (.block 1 aJ0) aJ1))))
def b47:=wu aJ2.eq_1
def aJ3:CC:=(.reg [(qq sK (.ldn 5 z9)),(qq pc (.ldn 5 cI)),(ee mi (.call 12 [uz,xp])),(qq pU (.un .not xq))])
def cn8:=wu aJ3.eq_1
def aJ4:CC:=(.reg [(qq a4 (.mv xF))])
def cn9:=wu aJ4.eq_1
def aJ5:CC:=(.cond xr (.seq aJ4 .ret) .skip)
def co0:=wu aJ5.eq_1
def aJ6:CC:=(.reg [(qq tL (.ldn 5 z2)),(ee sL (.call 14 [xu])),(qq pd (.un .not xD))])
def co1:=wu aJ6.eq_1
def aJ7:CC:=(.reg [(qq ub (.mv z5)),(qq uc (.bi .eql xE (.c (.s 0 0)))),(qq sM (.mv zC)),(ak ru (.mv z6) sM),(dZ xN (.call 13 [zE]) sM),(ak BB (.bi .eql BD (x6 2)) sM),(qq BC (.pk zD BE xF)),(qq xO (.mv GT)),(dZ DB (.call 8 []) xO),(qq DC (.pk GU PF xF)),(qq a4 (.mv Nx))])
def co2:=wu aJ7.eq_1
def aJ8:CC:=(.cond yf (.seq aJ7 .ret) .skip)
def co3:=wu aJ8.eq_1
def aJ9:CC:=(.reg [(qq rC (.mv z5)),(ee DR (.call 10 [GV])),(qq DD (.mv Pz)),(qq DT (.ex 0 PG)),(qq DU (.ex 1 PG)),(aa dm (.al 26 [(.i .i64 0),(.i .i64 0),(.s 0 0),.l0,.l0])),(ez (.st 5 dB Ny)),(qq dC (.mv PH))])
def co4:=wu aJ9.eq_1
def aK0:CC:=(.reg [(qq DV (.mv z5)),(qq xA (.ldn 5 z2)),(ee DW (.call 15 [PJ])),(qq DX (.bi .eql PI Nz)),(qq xP (.mv NA)),(ak DY (.mv z6) xP),(dZ BV (.call 13 [PL]) xP),(ak DE (.mv dy) xP),(dZ H5 (.call 13 [z95]) xP),(ak H6 (.bi .add PM NB) xP),(ak H7 (.bi .eql z97 (x6 0)) xP),(qq BW (.pk PK z98 xF)),(qq mO (.mv PN)),(ak mA (.ldn 5 dB) mO),(ak mP (.ldn 5 z2) mO),(dZ pa (.call 12 [sG,xj]) mO),(qq qa (.pk y5 y6 xF)),(qq tG (.mv y7)),(dZ uE (.call 8 []) tG),(qq iO (.pk y8 Bx xF)),(qq a4 (.mv y9))])
def co5:=wu aK0.eq_1
def Vo:CC:=(.seq (.seq aJ3 aJ5) (.seq (.seq aJ6 aJ8) (.seq aJ9 (.seq aK0 .ret))))
def a03:=wu Vo.eq_1
def aK1:CC:=(.seq bG6 (.seq (.seq bG7 aI6) (.seq (.seq aI7 aJ2) Vo)))
def co6:=wu aK1.eq_1
def aK2:CC:=(.seq bF9 (.seq bG2 (.seq bG3 (.seq bG4 (.seq bG5 aK1)))))
def b48:=wu aK2.eq_1
def c3:CF:= .mk 7 [.t a4] aK2
theorem e3(v0 v1:V):bh 7 [v0,v1]=(.n (.n zn (some v1) zn) (some v0) xC):=rfl
def B3:=ai @e3 (ai @cn4 (ai @cL9 (ai @cM0 (ai @co7 (ai @cM1 (ai @cM2 (ai @cM3 (ai @cM4 (ai @cM5 (ai @cn5 (ai @b45 (ai @b46 (ai @a01 (ai @a02 (ai @cn6 (ai @cn7 (ai @b47 (ai @cn8 (ai @cn9 (ai @co0 (ai @co1 (ai @co2 (ai @co3 (ai @co4 (ai @co5 (ai @a03 (ai @co6 (@b48))))))))))))))))))))))))))))
structure LaP(P:Program)(g13 g3 g4:Nat)(Φ:Nat→Option CF)(L:List eT):Prop where
 rd:NE P g13 g3 g4 Φ L
 un:xJ Φ L
 h3:Φ 3=some c3
 h7:Φ 7=some c7
 h9:Φ 9=some c9
 h12:Φ 12=some c12
 h13:Φ 13=some (.orc (bg h13))
theorem bj3{M:Mem}{b o ty:Nat}{l vs:List V}(h:M.get b=some (mI ty l))(hl:o+vs.length≤l.length)(h1:bv vs=true):cC M b o vs=some (M.set b (mI ty (over l o vs))):=by
 rw[sm h hl (aF _) h1,ng _ _ _ hl]
 unfold mI
 rw[iX]
def SpA(s:List UInt8)(y:AC)(z:Int):Prop:=(jS y=true∧cw y=s∧z=0)∨(y=⟨0,0,[],[],[]⟩∧z=4∧ ∀x,jS x=true→cw x≠s)
theorem SpA.uniq{s:List UInt8}{y y':AC}{z z':Int}(h:SpA s y z)(h':SpA s y' z'):y=y'∧z=z':=by
 rcases h with⟨a1,a2,a3⟩|⟨a1,a2,a3⟩
 ·rcases h' with⟨b1,b2,b3⟩|⟨b1,b2,b3⟩
  ·exact⟨Yr a1 b1 (a2.trans b2.symm),a3.trans b3.symm⟩
  ·exact absurd a2 (b3 y a1)
 ·rcases h' with⟨b1,b2,b3⟩|⟨b1,b2,b3⟩
  ·exact absurd b2 (a3 y' b1)
  ·exact⟨a1.trans b1.symm,a2.trans b2.symm⟩
theorem DL.shape{M:Mem}{lo c:Nat}{s:List UInt8}{r:V}(h:DL M lo c s r):∃y vd vl b1 b2 z,r= .t [fj y vd vl,.i .i64 z]∧SpA s y z∧cJ z∧y.dt.length≤100000∧y.ls.length≤30000∧lo≤b1∧aQ M lo c b1 5 1 vd (y.dt.map fun x=>[bV x])∧lo≤b2∧aQ M lo c b2 72 3 vl (dj y.ls):=by
 rcases h with⟨y,vd,vl,b1,b2,e1,o1,l1,B1,d1,f1⟩|⟨e1,n1⟩
 ·obtain⟨b1,h1,d1⟩:=d1.norm;obtain⟨b2,h2,f1⟩:=f1.norm;exact⟨y,vd,vl,b1,b2,0,e1,.inl ⟨o1,l1,rfl⟩,⟨by decide,by decide⟩,B1.dt,B1.ls,h1,d1,h2,f1⟩
 ·exact⟨⟨0,0,[],[],[]⟩,.l0,.l0,lo,lo,4,e1,.inr ⟨rfl,rfl,n1⟩,⟨by decide,by decide⟩,by simp,by simp,ah _,aQ.nil,ah _,aQ.nil⟩
theorem F7{z:Int}(h:cJ z):h13 [.i .i64 z]=some (.i .i64 z):=ac h
theorem l3{P:Program}{q13 q3 q4:Nat}{Φ:Nat→Option CF}{L:List eT}(p:LaP P q13 q3 q4 Φ L){KN:RO→List V→Mem→Nat→RC}(h8:Φ 8=some (.orc KN)){F:RO}{M:Mem}{c:Nat}{vd vl:V}{y:AC}{s:List UInt8}(hkn:∀M c,KN F [] M c= .k (.b true) M c)(ok:d9 F M c)(e:xG P q13 q3 q4 L F M)
 (hra:cJ y.a) (hrl:∀x∈y.ls,cJ x.1∧cJ x.2.1∧cJ x.2.2) (sd:ov F M c vd y.dt) (sl:cj F M c 3 vl (dj y.ls)):
 Calls Φ F 3 [fj y vd vl,sV s] M c fun r _ _=>r= .b true:=by
 refine az p.h3 ?_
 have hge:=ok.ge
 obtain⟨o1,o2,o3⟩:=dI sd
 obtain⟨o4,o5,o6⟩:=dI sl
 have g1:=(Gr.refl ok).set c (ax 26 [.i .i64 y.k,.i .i64 y.a,sV y.tx,vd,vl]) (ah _) (aL _) (aP _)
 have cD:=g1.ok ok
 have m1:(M.set c (ax 26 [.i .i64 y.k,.i .i64 y.a,sV y.tx,vd,vl])).get c=some (ax 26 [.i .i64 y.k,.i .i64 y.a,sV y.tx,vd,vl]):=au _ _ _
 show Wp _ _ (.mk _ [] M c) _
 unfold fj
 simp only[WX,Nat.reduceAdd,e3,cn4,co7,b48,eP,o1,o6]
 generalize M.set c (ax 26 [.i .i64 y.k,.i .i64 y.a,sV y.tx,vd,vl])=M1 at g1 cD m1⊢
 have ld1:loadN F M1 c 0 5=some [.i .i64 y.k,.i .i64 y.a,sV y.tx,vd,vl]:=bQ m1 5 rfl
 simp only[WX,B3,ld1]
 refine av ((show ou (cu (iu Φ) F 7 [fj y vd vl,.i .i64 20000] M1 (c+1) (Φ 7)) _ from r7 p.h7 cD (sd.grow g1) (sl.grow g1)).mono ?_)
 rintro r M2 c2 ⟨hr7,g2⟩
 obtain⟨N,hN⟩:∃N,min y.tx.length 20001+min y.dt.length 20001+min y.ls.length 20001=N:=⟨_,rfl⟩
 rw[hN]at hr7
 subst hr7
 by_cases hbig:20000<y.tx.length+y.dt.length+y.ls.length
 ·have d1:decide ((20000:Int)<(N:Int))=true:=ae (by omega);simp only[WX,B3,d1,h8,hkn]
 have d1:decide ((20000:Int)<(N:Int))=false:=ag (by omega)
 by_cases hsl:20000<s.length
 ·have d2:decide ((20000:Int)<(s.length:Int))=true:=ae (by omega);simp only[WX,B3,d1,d2,h8,hkn]
 have d2:decide ((20000:Int)<(s.length:Int))=false:=ag (by omega)
 have hb:ua y:=⟨hra,by omega,by omega,by omega,hrl⟩
 have g12:=g1.trans g2
 have ok2:=g2.ok cD
 have m2:=(g2.old c (by omega)).trans m1
 have ld2:loadN F M2 c 0 5=some [.i .i64 y.k,.i .i64 y.a,sV y.tx,vd,vl]:=bQ m2 5 rfl
 simp only[WX,B3,d1,d2,ld2]
 refine av ((show ou (cu (iu Φ) F 9 [fj y vd vl] M2 c2 (Φ 9)) _ from r9 p.h9 p.rd.toWrP ok2 e.ht hb (sd.grow g12) (sl.grow g12)).mono ?_)
 rintro r M3 c3 ⟨hr9,g3⟩
 obtain⟨T,E,hr9,hT1,hT2,hE⟩:∃T E,r= .t [sV T,.i .i64 E]∧(jS y=true→T=cw y∧E=0)∧(jS y=false→T=[]∧E=2)∧cJ E:=by
  cases ho:jS y with
  |true=>rw[ho,ac rfl]at hr9;exact⟨cw y,0,hr9,fun _=>⟨rfl,rfl⟩,fun h=>by(cases h),⟨by decide,by decide⟩⟩
  |false=>rw[ho,ab (by decide)]at hr9;exact⟨[],2,hr9,fun h=>by(cases h),fun _=>⟨rfl,rfl⟩,⟨by decide,by decide⟩⟩
 subst hr9
 have g13':=g12.trans g3
 have LV:=g3.ok ok2
 have hc2:=g2.le
 have hc3:=g3.le
 have m3:=(g3.old c (by omega)).trans m2
 have lowG:∀{Mx:Mem} {cx:Nat},Gr c M cx Mx→xG P q13 q3 q4 L F Mx:=fun g=>⟨e.ht,e.e1,e.e2,fun q hq=>(g.old q (by omega)).trans (e.low q hq),e.hL⟩
 simp only[WX,B3]
 refine av ((show ou (cu (iu Φ) F 10 [sV s] M3 c3 (Φ 10)) _ from r10 p.rd LV (lowG g13') (by omega)).mono ?_)
 rintro r M4 c4 ⟨hl1,g4'⟩
 obtain⟨ya,va,wa,a1,a2,za,rfl,sa,ra,la1,la2,ha1,da,ha2,fa⟩:=hl1.shape
 obtain⟨t1,t2,t3⟩:=cU da
 obtain⟨t4,t5,t6⟩:=cU fa
 have g14:=g13'.trans g4'
 have ok4:=g14.ok ok
 have hc4:=g4'.le
 have g5:=(Gr.refl ok4).set c4 (ax 26 [.i .i64 ya.k,.i .i64 ya.a,sV ya.tx,va,wa]) (ah _) (aL _) (aP _)
 have m5:(M4.set c4 (ax 26 [.i .i64 ya.k,.i .i64 ya.a,sV ya.tx,va,wa])).get c4=some (ax 26 [.i .i64 ya.k,.i .i64 ya.a,sV ya.tx,va,wa]):=au _ _ _
 unfold fj
 simp only[WX,Nat.reduceAdd,Nat.reduceLeDiff,B3,eP,t1,t6]
 generalize M4.set c4 (ax 26 [.i .i64 ya.k,.i .i64 ya.a,sV ya.tx,va,wa])=M5 at g5 m5⊢
 have g15:=g14.trans g5
 refine av ((show ou (cu (iu Φ) F 10 [sV s] M5 (c4+1) (Φ 10)) _ from r10 p.rd (g15.ok ok) (lowG g15) (by omega)).mono ?_)
 rintro r M6 c6 ⟨hl2,g6⟩
 obtain⟨yb,vb,wb,e1,e2,zb,rfl,sb,rb,lb1,lb2,hb1,db,hb2,fb⟩:=hl2.shape
 obtain⟨rfl,rfl⟩:=sa.uniq sb
 obtain⟨u1,u2,u3⟩:=cU db
 obtain⟨u4,u5,u6⟩:=cU fb
 have g16:=g15.trans g6
 have ok6:=g16.ok ok
 have hc6:=g6.le
 have g7:=(Gr.refl ok6).set c6 (ax 26 [.i .i64 ya.k,.i .i64 ya.a,sV ya.tx,vb,wb]) (ah _) (aL _) (aP _)
 have m7:(M6.set c6 (ax 26 [.i .i64 ya.k,.i .i64 ya.a,sV ya.tx,vb,wb])).get c6=some (ax 26 [.i .i64 ya.k,.i .i64 ya.a,sV ya.tx,vb,wb]):=au _ _ _
 unfold fj
 simp only[WX,Nat.reduceAdd,Nat.reduceLeDiff,B3,eP,u1,u6]
 generalize M6.set c6 (ax 26 [.i .i64 ya.k,.i .i64 ya.a,sV ya.tx,vb,wb])=M7 at g7 m7⊢
 have g17:=g16.trans g7
 refine av ((show ou (cu (iu Φ) F 11 [sV s] M7 (c6+1) (Φ 11)) _ from r11 p.un (g17.ok ok) ⟨e.ht,e.e1,e.e2,(lowG g17).low⟩ (by omega)).mono ?_)
 rintro r M8 c8 ⟨hl3,g8⟩
 obtain⟨yc,vc,wc,f1,f2,zc,rfl,sc,rc,lc1,lc2,hf1,dc,hf2,fc⟩:=hl3.shape
 obtain⟨rfl,rfl⟩:=sa.uniq sc
 obtain⟨v1,v2,v3⟩:=cU dc
 obtain⟨v4,v5,v6⟩:=cU fc
 have g18:=g17.trans g8
 have ok8:=g18.ok ok
 have hc8:=g8.le
 have g9:=(Gr.refl ok8).set c8 (ax 26 [.i .i64 ya.k,.i .i64 ya.a,sV ya.tx,vc,wc]) (ah _) (aL _) (aP _)
 have m9:(M8.set c8 (ax 26 [.i .i64 ya.k,.i .i64 ya.a,sV ya.tx,vc,wc])).get c8=some (ax 26 [.i .i64 ya.k,.i .i64 ya.a,sV ya.tx,vc,wc]):=au _ _ _
 unfold fj
 simp only[WX,Nat.reduceAdd,Nat.reduceLeDiff,eP,v1,v6]
 generalize M8.set c8 (ax 26 [.i .i64 ya.k,.i .i64 ya.a,sV ya.tx,vc,wc])=M9 at g9 m9⊢
 have g59:=((g6.trans g7).trans g8).trans g9
 have g79:=g8.trans g9
 have da9:=da.gr (g5.trans g59)
 have fa9:=fa.gr (g5.trans g59)
 have db9:=db.gr (g7.trans g79)
 have fb9:=fb.gr (g7.trans g79)
 have dc9:=dc.gr g9
 have fc9:=fc.gr g9
 have n5:=(g59.old c4 (by omega)).trans m5
 have n7:=(g79.old c6 (by omega)).trans m7
 have g19:=g18.trans g9
 have ok9:=g19.ok ok
 have ld5:loadN F M9 c4 0 5=some [.i .i64 ya.k,.i .i64 ya.a,sV ya.tx,va,wa]:=bQ n5 5 rfl
 have ld9:loadN F M9 c8 0 5=some [.i .i64 ya.k,.i .i64 ya.a,sV ya.tx,vc,wc]:=bQ m9 5 rfl
 have hz13:=F7 ra
 have dz:decide (za≠za)=false:=ag (by simp)
 simp only[WX,B3,ld5,ld9]
 refine av ((show ou (cu (iu Φ) F 12 [fj ya va wa,fj ya vc wc] M9 (c8+1) (Φ 12)) _ from r12 p.h12 ok9 la2 la1 da9.sl fa9.sl dc9.sl fc9.sl).mono ?_)
 rintro r M10 c10 ⟨rfl,g10⟩
 have g1a:=g19.trans g10
 have hc10:=g10.le
 have rest:∀{M11:Mem} (u:List (Option V)),d9 F M11 c10→(∀x,(x<c3∨c4<x)→M11.get x=M10.get x)→Wp Vo (K Φ none 3 F) (.mk ((ch8 u (sV s) (.p c 0) (sV T) (.i .i64 E) (.p c6 0) (.p c8 0))) [] M11 c10) (cX F [.t (.r (.l .h))] fun r _ _=>r= .b true):=by
  intro M11 u Fp hag;have gA:Gr c M c10 M11:=⟨by omega,fun x hx=>(hag x (.inl (by omega))).trans (g1a.old x hx),Fp.hiM⟩
  have m0:=(hag c (.inl (by omega))).trans (((g10.old c (by omega)).trans (((g5.trans g59).old c (by omega)).trans (g4'.old c (by omega)))).trans m3);have m6:=(hag c6 (.inr (by omega))).trans ((g10.old c6 (by omega)).trans n7);have m8:=(hag c8 (.inr (by omega))).trans ((g10.old c8 (by omega)).trans m9);have lda:loadN F M11 c 0 5=some [.i .i64 y.k,.i .i64 y.a,sV y.tx,vd,vl]:=bQ m0 5 rfl;have ld6:loadN F M11 c6 0 5=some [.i .i64 ya.k,.i .i64 ya.a,sV ya.tx,vb,wb]:=bQ m6 5 rfl;have ld8:loadN F M11 c8 0 5=some [.i .i64 ya.k,.i .i64 ya.a,sV ya.tx,vc,wc]:=bQ m8 5 rfl;have kb:=(db9.gr g10).up (ah _) fun _=>hag e1 (.inr (by omega));have kb2:=(fb9.gr g10).up (ah _) fun _=>hag e2 (.inr (by omega));have kc:=(dc9.gr g10).up (ah _) fun _=>hag f1 (.inr (by omega));have kc2:=(fc9.gr g10).up (ah _) fun _=>hag f2 (.inr (by omega));simp only[WX,B3,ld6,ld8];refine av ((show ou (cu (iu Φ) F 12 [fj ya vb wb,fj ya vc wc] M11 c10 (Φ 12)) _ from r12 p.h12 Fp la2 la1 kb.sl kb2.sl kc.sl kc2.sl).mono ?_);rintro r M12 c12 ⟨rfl,g12'⟩;have m0b:=(g12'.old c (by omega)).trans m0;have ldb:loadN F M12 c 0 5=some [.i .i64 y.k,.i .i64 y.a,sV y.tx,vd,vl]:=bQ m0b 5 rfl;have gB:=gA.trans g12';have hc12:=g12'.le;simp only[WX,B3,ldb];refine av ((show ou (cu (iu Φ) F 14 [fj y vd vl] M12 c12 (Φ 14)) _ from r14 p.un.h14 p.un.h43 (gB.ok ok) hb (sd.grow gB) (sl.grow gB)).mono ?_);rintro r M13 c13 ⟨rfl,g13x⟩;have gC:=gB.trans g13x;have hc13:=g13x.le;have hE13:=F7 hE;cases ho:jS y with
  |false=>
   obtain⟨rfl,rfl⟩:=hT2 ho;have e0:bD .eql (sV []) (.s 0 0)=some (.b true):=(gk [] []).trans (by rw[ae rfl]);simp only[WX,B3,e0,p.h13,hE13,h8,hkn]
  |true=>
   obtain⟨rfl,rfl⟩:=hT1 ho;simp only[WX,B3];refine av ((show ou (cu (iu Φ) F 10 [sV (cw y)] M13 c13 (Φ 10)) _ from r10 p.rd (gC.ok ok) (lowG gC) (Ys ho hb)).mono ?_);rintro r M14 PB ⟨hl4,g14'⟩;obtain⟨yd,ve,we,i1,i2,zd,rfl,sdd,rdd,ld1',ld2',hi1,dd,hi2,fd⟩:=hl4.shape;obtain⟨rfl,rfl⟩:=(show SpA (cw y) y 0 from .inl ⟨ho,rfl,rfl⟩).uniq sdd;obtain⟨w1,w2,w3⟩:=cU dd;obtain⟨w4,w5,w6⟩:=cU fd;have gD:=gC.trans g14';have hc14:=g14'.le;have okD:=gD.ok ok;have g15':=(Gr.refl okD).set PB (ax 26 [.i .i64 y.k,.i .i64 y.a,sV y.tx,ve,we]) (ah _) (aL _) (aP _);have m15:(M14.set PB (ax 26 [.i .i64 y.k,.i .i64 y.a,sV y.tx,ve,we])).get PB=some (ax 26 [.i .i64 y.k,.i .i64 y.a,sV y.tx,ve,we]):=au _ _ _;unfold fj;simp only[WX,Nat.reduceAdd,Nat.reduceLeDiff,eP,w1,w6];generalize M14.set PB (ax 26 [.i .i64 y.k,.i .i64 y.a,sV y.tx,ve,we])=M15 at g15' m15⊢;have gE:=gD.trans g15';have okE:=gE.ok ok;have m0c:=(g15'.old c (by omega)).trans ((g14'.old c (by omega)).trans ((g13x.old c (by omega)).trans m0b));have ldc:loadN F M15 c 0 5=some [.i .i64 y.k,.i .i64 y.a,sV y.tx,vd,vl]:=bQ m0c 5 rfl;simp only[WX,B3,ldc];refine av ((show ou (cu (iu Φ) F 15 [fj y vd vl] M15 (PB+1) (Φ 15)) _ from r15 p.un.h15 p.un.h28 p.un.h44 p.un.h45 p.un.h46 okE e.ht hb ho (sd.grow gE) (sl.grow gE)).mono ?_);rintro r M16 c16 ⟨rfl,g16'⟩;have gF:=gE.trans g16';have hc16:=g16'.le;have e0:=gk (cw y) (cw y);rw[ae rfl]at e0;have z0:h13 [.i .i64 0]=some (.i .i64 0):=F7 ⟨by decide,by decide⟩;have a0:bD .add (.i .i64 0) (.i .i64 0)=some (.i .i64 0):=aO 0 0 (by omega) (by omega);have ldd:loadN F M16 PB 0 5=some [.i .i64 y.k,.i .i64 y.a,sV y.tx,ve,we]:=bQ ((g16'.old PB (by omega)).trans m15) 5 rfl;have lde:loadN F M16 c 0 5=some [.i .i64 y.k,.i .i64 y.a,sV y.tx,vd,vl]:=bQ ((g16'.old c (by omega)).trans m0c) 5 rfl;simp only[WX,e0,p.h13,z0,a0,ldd,lde];have g1516:=g15'.trans g16';refine av ((show ou (cu (iu Φ) F 12 [fj y ve we,fj y vd vl] M16 c16 (Φ 12)) _ from r12 p.h12 (gF.ok ok) hb.ls hb.dt (dd.gr g1516).sl (fd.gr g1516).sl (sd.grow gF) (sl.grow gF)).mono ?_);rintro r M17 c17 ⟨rfl,g17'⟩;simp only[WX,h8,hkn]
 have da10:=da9.gr g10
 have nla:=(da10.sl (F:=F)).len
 rw[List.length_map]at nla
 have m10:=(g10.old c4 (by omega)).trans n5
 have l10:load1 F M10 c4 3=some va:=aj m10 3
 by_cases hdt:ya.dt=[]
 ·have d0:decide ((0:Int)<(ya.dt.length:Int))=false:=ag (by rw[hdt];decide);simp only[WX,b45,b46,a01,a02,b47,a03,p.h13,hz13,dz,Np,l10,nla,d0];rw[←be,←be];exact rest (X1 (G2 (X2 (G2 (X2 (G1 (X1 (G1 (aM (bO (bE (X2 (X1 []))))))))))))) (g10.ok ok9) fun _ _=>rfl
 ·have hpos:=List.length_pos_iff.2 hdt
  obtain⟨hva,hrow,ha4⟩:va= .u a1 0 ya.dt.length 0 ya.dt.length∧M10.get a1=some (mI 5 (ya.dt.map fun x=>[bV x]).flatten)∧a1<c4:=by
   rcases da10 with⟨_,⟨hn,_⟩|⟨_,_,hv,hr⟩⟩
   ·exact absurd (List.map_eq_nil_iff.1 hn) hdt
   ·refine⟨by rw[hv,List.length_map],hr,?_⟩;rcases da with⟨_,⟨hn,_⟩|⟨_,h,_,_⟩⟩
    ·exact absurd (List.map_eq_nil_iff.1 hn) hdt
    ·exact h
  simp only[WX,B3,p.h13,hz13,dz];obtain⟨I,hI⟩:∃I:Nat→St→Prop,∀n s',I n s'↔(∃(i:Nat) (M11:Mem) (row:List V) (u:List (Option V)),n=ya.dt.length-i∧i≤ya.dt.length∧s'= .mk ((ch9 u (sV s) (.p c 0) (sV T) (.i .i64 E) (.p c4 0) (.p c6 0) (.p c8 0) (.i .i64 (i:Int)))) [] M11 c10∧d9 F M11 c10∧(∀x,x≠a1→M11.get x=M10.get x)∧row.length=ya.dt.length∧M11.get a1=some (mI 5 row)):=⟨fun n s'=>_,fun _ _=>Iff.rfl⟩
  refine bG I ?_ ya.dt.length _ ((hI _ _).2 ⟨0,M10,_,(X1 (G2 (X2 (G2 (G1 (X1 (G1 (X1 (G1 (X1 (G1 (aM (bO (bE (X1 []))))))))))))))),rfl,aF _,rfl,g10.ok ok9,fun _ _=>rfl,by rw[gp,List.length_map],hrow⟩);intro n s' hIs;obtain⟨i,M11,row,u,rfl,hi,rfl,Fp,hag,hrl2,hr11⟩:=(hI _ _).1 hIs;clear hIs;have m11:=(hag c4 (by omega)).trans m10;have l11:load1 F M11 c4 3=some va:=aj m11 3;by_cases hlt:i<ya.dt.length
  ·have d3:decide ((i:Int)<(ya.dt.length:Int))=true:=ae (by omega);have q8:bD .add (.i .i64 (i:Int)) (.i .i64 1)=some (.i .i64 ((i+1:Nat):Int)):=by rw[aO _ _ (by omega) (by omega)];simp
   have hia:jP 1 va (.i .i64 (i:Int))=some (.p a1 i):=by rw[hva,b00 1 a1 0 _ 0 _ i .i64 hlt];congr 2;omega
   have hst:=bj3 (o:=i) (vs:=[V.i .u8 102]) hr11 (by rw[List.length_singleton];omega) rfl;simp only[WX,B3,l11,nla,d3,hia,hst,q8];exact⟨ya.dt.length-(i+1),by omega,(hI _ _).2 ⟨i+1,_,_,(X1 (G2 (X2 (G2 (G1 (X1 (G1 (X1 (G1 (X1 (G1 (aM (bO (bE (X1 []))))))))))))))),rfl,hlt,rfl,Fp.put (by omega) hr11,fun x hx=>(aK _ _ hx).trans (hag x hx),by rw[List.length_set];exact hrl2,au _ _ _⟩⟩
  ·obtain rfl:i=ya.dt.length:=by omega
   have d3:decide ((ya.dt.length:Int)<(ya.dt.length:Int))=false:=ag (by omega);simp only[WX,a01,a02,a03,l11,nla,d3];rw[←be,←be];exact rest (X1 (G2 (X2 (G2 (X2 (G1 (X1 (G1 (aM (bO (bE (X2 (X1 []))))))))))))) Fp fun x hx=>hag x (by omega)
def kV(L:List eT):Prop:=∀ty,bA (mc L ty) L=true
theorem CJ{L:List eT}{ty:Nat→Nat}{ct:Nat}(hs:kV L)(hc:1000≤ct):d9 (mc L ty) .e ct:=am6 (fun t ht=>(iD (hs ty) t ht).1) hc
theorem sO{v w:V}{f:List UInt8→Option V}(h:(DF v).bind f=some w):∃l,v=sV l∧f l=some w:=by
 obtain⟨l,h1,h2⟩:=aR.1 h
 exact⟨l,bg6 h1,h2⟩
theorem Xm{v w:V}{f:UInt8→Option V}(h:(Qq v).bind f=some w):∃b,v=bV b∧f b=some w:=by
 obtain⟨l,h1,h2⟩:=aR.1 h
 exact⟨l,bg5 h1,h2⟩
theorem L3(b:UInt8)(l:List UInt8):bd (fun _=>False) (pn b l):=by
 unfold pn
 cases mG b l 0<;>exact⟨trivial,trivial,trivial,trivial⟩
section
variable{P:Program}(hm:P.follows .mixedOrders=true){Φ:Nat→Option CF}(hΦ:fo P Φ)
include hm hΦ
theorem cB1(h:Φ 166=some af4):ce P 166 (bg vG):=fK hm hΦ (by
 intro args v ct hv hct;unfold vG at hv;split at hv
 ·obtain⟨l,rfl,hv1⟩:=sO hv;obtain⟨b,rfl,hv2⟩:=Xm hv1;obtain rfl:=af hv2;exact⟨trivial,cK4 Φ h _ _ _⟩
 ·cases hv)
theorem cA6(h:Φ 134=some ae9)(vG:Φ 166=some (.orc (bg vG))):ce P 134 (bg tR):=fK hm hΦ (by
 intro args v ct hv hct;unfold tR at hv;split at hv
 ·obtain⟨l,rfl,hv1⟩:=sO hv;obtain⟨s,rfl,hv2⟩:=sO hv1;split at hv2
  ·obtain rfl:=af hv2;exact⟨trivial,cK0 Φ h vG _ _ _⟩
  ·cases hv2
 ·cases hv)
theorem cA4(h:Φ 100=some ae7)(tR:Φ 134=some (.orc (bg tR))):ce P 100 (bg py):=fK hm hΦ (by
 intro args v ct hv hct;unfold py at hv;split at hv
 ·obtain⟨l,rfl,hv1⟩:=sO hv;obtain⟨s,rfl,hv2⟩:=sO hv1;split at hv2
  ·split at hv2
   ·rename_i hl;obtain rfl:=af hv2;exact⟨L3 _ _,cJ9 Φ h tR _ _ hl _⟩
   ·cases hv2
  ·cases hv2
 ·cases hv)
theorem o64(h:Φ 64=some c64)(h100':Φ 100=some (.orc (bg py))):ce P 64 (bg py):=fK hm hΦ (by
 intro args v ct hv hct;unfold py at hv;split at hv
 ·obtain⟨l,rfl,hv1⟩:=sO hv;obtain⟨s,rfl,hv2⟩:=sO hv1;split at hv2
  ·split at hv2
   ·rename_i hl;obtain rfl:=af hv2;exact⟨L3 _ _,t64 Φ h h100' _ _ hl _⟩
   ·cases hv2
  ·cases hv2
 ·cases hv)
theorem cB2(h:Φ 177=some af5):ce P 177 (bg tT):=fK hm hΦ (by
 intro args v ct hv hct;unfold tT at hv;split at hv
 ·split at hv
  ·rename_i hh;obtain rfl:=af hv;exact⟨trivial,cK5 Φ h _ hh _⟩
  ·cases hv
 ·cases hv)
theorem cB3(h:Φ 179=some af7):ce P 179 (bg tV):=fK hm hΦ (by
 intro args v ct hv hct;unfold tV at hv;split at hv
 ·obtain rfl:=af hv;exact⟨trivial,cK7 Φ h _ _⟩
 ·cases hv)
theorem cA9(h:Φ 158=some af2):ce P 158 (bg vF):=fK hm hΦ (by
 intro args v ct hv hct;unfold vF at hv;split at hv
 ·split at hv
  ·rename_i hh;obtain rfl:=af hv;exact⟨trivial,cK3 Φ h _ hh _⟩
  ·cases hv
 ·cases hv)
theorem cA7(h:Φ 149=some af0):ce P 149 (bg h149):=fK hm hΦ (by
 intro args v ct hv hct;unfold h149 at hv;split at hv
 ·obtain⟨b,rfl,hv1⟩:=Xm hv;obtain rfl:=af hv1;exact⟨trivial,cK1 Φ h _ _⟩
 ·cases hv)
theorem cA8(h:Φ 156=some af1):ce P 156 (bg h156):=fK hm hΦ (by
 intro args v ct hv hct;unfold h156 at hv;split at hv
 ·obtain⟨l,rfl,hv1⟩:=sO hv;split at hv1
  ·rename_i hl;obtain rfl:=af hv1;exact⟨trivial,cK2 Φ h _ hl _⟩
  ·cases hv1
 ·cases hv)
theorem bX4(h:Φ 178=some af6):ce P 178 (bg tU):=fK hm hΦ (by
 intro args v ct hv hct;unfold tU at hv;split at hv
 ·split at hv
  ·obtain rfl:=af hv;exact⟨trivial,cK6 Φ h _ (by assumption) _⟩
  ·cases hv
 ·cases hv)
theorem cB0{L:List eT}(h:Φ 159=some af3)(tU:Φ 178=some (.orc (bg tU)))(tT:Φ 177=some (.orc (bg tT)))(tV:Φ 179=some (.orc (bg tV)))(hs:kV L)(hp:(4,IntKind.u64,Aq)∈L):ce P 159 (eQ L tS):=qM hm hΦ (by
 intro args v ct ty hv hct;unfold tS at hv;split at hv
 ·split at hv
  ·rename_i hh;obtain rfl:=af hv;exact⟨trivial,cI6 Φ h tU tT tV (CJ hs hct) (hs ty) hp _ hh.1 hh.2⟩
  ·cases hv
 ·cases hv)
theorem cA5{L:List eT}(h:Φ 128=some ae8)(vF:Φ 158=some (.orc (bg vF)))(tS:Φ 159=some (.orc (eQ L tS)))(h160:Φ 160=some Xu)(hs:kV L):ce P 128 (eQ L vE):=qM hm hΦ (by
 intro args v ct ty hv hct;unfold vE at hv;split at hv
 ·split at hv
  ·rename_i hh;obtain rfl:=af hv;exact⟨trivial,cI2 Φ h vF tS h160 (CJ hs hct) (hs ty) _ hh.1 hh.2⟩
  ·cases hv
 ·cases hv)
theorem o90{L:List eT}(h:Φ 90=some c90)(vE:Φ 128=some (.orc (eQ L vE)))(hs:kV L):ce P 90 (eQ L DG):=qM hm hΦ (by
 intro args v ct ty hv hct;unfold DG at hv;split at hv
 ·split at hv
  ·rename_i hh;obtain rfl:=af hv;exact⟨trivial,r90 Φ h vE (hs ty) _ hh.1 hh.2⟩
  ·cases hv
 ·cases hv)
theorem o44{L:List eT}(h:Φ 44=some c44)(h90':Φ 90=some (.orc (eQ L DG)))(hs:kV L):ce P 44 (eQ L DG):=qM hm hΦ (by
 intro args v ct ty hv hct;unfold DG at hv;split at hv
 ·split at hv
  ·rename_i hh;obtain rfl:=af hv;exact⟨trivial,r44 Φ h h90' (hs ty) _ hh.1 hh.2⟩
  ·cases hv
 ·cases hv)
theorem o35(h:Φ 35=some c35):ce P 35 (bg h35):=fK hm hΦ (by
 intro args v ct hv hct;unfold h35 at hv;split at hv
 ·obtain rfl:=af hv;exact⟨by simp only[tX,List.map_cons,List.map_nil];exact⟨trivial,trivial,trivial,trivial,trivial,trivial,trivial,trivial,trivial⟩,t35 Φ h _⟩
 ·cases hv)
theorem o13(h:Φ 13=some c13):ce P 13 (bg h13):=fK hm hΦ (by
 intro args v ct hv hct;unfold h13 at hv;split at hv
 ·split at hv
  ·rename_i hz;obtain rfl:=af hv;exact⟨trivial,t13 Φ h _ hz _⟩
  ·cases hv
 ·cases hv)
theorem o89(h:Φ 89=some c89):ce P 89 (bg h89):=fK hm hΦ (by
 intro args v ct hv hct;unfold h89 at hv;split at hv
 ·obtain⟨b,rfl,hv1⟩:=Xm hv;split at hv1
  ·rename_i e;subst e;obtain rfl:=af hv1;exact⟨trivial,t89 Φ h _ _⟩
  ·split at hv1
   ·rename_i e;subst e;obtain rfl:=af hv1;exact⟨trivial,cK8 Φ h _ _⟩
   ·cases hv1
 ·cases hv)
end
def vX:Ty:= .cons (.int .i64) (.cons (.int .i64) (.cons (.int .i64) .nil))
def Qm:Ty:= .cons (.int .i64) (.cons (.int .i64) (.cons .str (.cons (.sl (.int .u8)) (.cons (.sl vX) .nil))))
theorem bW2{F:RO}{M:Mem}{c:Nat}{vs:List V}{x:vX.D}(h:Rp F M c vX vs x):∃z:Int×Int×Int,vs=[.i .i64 z.1,.i .i64 z.2.1,.i .i64 z.2.2]∧cJ z.1∧cJ z.2.1∧cJ z.2.2:=by
 obtain⟨v1,v2,rfl,h1,h2⟩:=h
 obtain⟨v3,v4,rfl,h3,h4⟩:=h2
 obtain⟨v5,v6,rfl,h5,h6⟩:=h4
 obtain⟨rfl,a1,b1⟩:=h1
 obtain⟨rfl,a2,b2⟩:=h3
 obtain⟨rfl,a3,b3⟩:=h5
 obtain rfl:v6=[]:=h6
 exact⟨(x.1,x.2.1,x.2.2.1),rfl,⟨a1,b1⟩,⟨a2,b2⟩,⟨a3,b3⟩⟩
theorem bW3{F:RO}{M:Mem}{c:Nat}:∀(es:List (List V)) (xs:List vX.D),es.length=xs.length→(∀i (h:i<es.length) (h':i<xs.length),Rp F M c vX es[i] xs[i])→ ∃l:List (Int×Int×Int),es=dj l∧ ∀x∈l,cJ x.1∧cJ x.2.1∧cJ x.2.2:=by
 intro es
 induction es with
 |nil=>intro xs _ _;exact⟨[],rfl,fun _ h=>nomatch h⟩
 |cons e es ih=>
  intro xs hl h;cases xs with
  |nil=>cases hl
  |cons z xs=>
   obtain⟨l,rfl,hl'⟩:=ih xs (by simpa using hl) (fun i hi hi'=>h (i+1) (by simpa using hi) (by simpa using hi'));obtain⟨w,hw,hr⟩:=bW2 (h 0 (by simp) (by simp));refine⟨w::l,?_,?_⟩
   ·show _=_::dj l;exact congrArg (· ::dj l) hw
   ·intro x hx;rcases bj.1 hx with rfl|hx
    ·exact hr
    ·exact hl' x hx
theorem b66{F:RO}{M:Mem}{c:Nat}{vs:List V}{x:Qm.D}(h:Rp F M c Qm vs x):∃(y:AC) (vd vl:V),vs=[.i .i64 y.k,.i .i64 y.a,sV y.tx,vd,vl]∧cJ y.a∧(∀x∈y.ls,cJ x.1∧cJ x.2.1∧cJ x.2.2)∧ov F M c vd y.dt∧cj F M c 3 vl (dj y.ls):=by
 obtain⟨v1,v2,rfl,h1,h2⟩:=h
 obtain⟨v3,v4,rfl,h3,h4⟩:=h2
 obtain⟨v5,v6,rfl,h5,h6⟩:=h4
 obtain⟨v7,v8,rfl,h7,h8⟩:=h6
 obtain⟨v9,v10,rfl,h9,h10⟩:=h8
 obtain⟨rfl,a1,b1⟩:=h1
 obtain⟨rfl,a2,b2⟩:=h3
 obtain⟨rfl,a3⟩:=h5
 obtain rfl:v10=[]:=h10
 obtain⟨vd,ld,rfl,hd,_⟩:=Xq h7
 obtain⟨vl,es,rfl,hs,_,he,hr⟩:=h9
 obtain⟨l,rfl,hl⟩:=bW3 es _ he hr
 exact⟨⟨x.1,x.2.1,x.2.2.1,ld,l⟩,vd,vl,rfl,⟨a2,b2⟩,hl,hd,hs⟩
theorem aq6{F:RO}{M:Mem}{c:Nat}{vs:List V}{x:(Ty.str).D}(h:Rp F M c .str vs x):∃s:List UInt8,vs=[sV s]:=by
 have key:∀l:List UInt8,vs=[sV l]∧l.length≤Go.maxLen→ ∃s:List UInt8,vs=[sV s]:=fun l h=>⟨l,h.1⟩
 exact key x h
end
end Go.Proofs.YtdnddpmjnlagfaaGreatDoor.Ev
