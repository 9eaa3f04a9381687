/- What is proved here: pieces of the evaluator's soundness: if the evaluator comes to a value, the model's run comes to it, for every world and tape; no conditions beyond the hypotheses of each theorem. -/
import Derived.Test.YtmbpllipombieaaDoorEv6
set_option linter.unusedSimpArgs false
set_option linter.unusedVariables false
set_option linter.defProp false
set_option maxRecDepth 10000
set_option maxHeartbeats 16000000
namespace Go.Proofs.YtmbpllipombieaaDoor.Ev
open Go
noncomputable section
abbrev aD6(u:List (Option V))(x2 x3 x5 x6 x7 x8:V):T:=(.n (.n (.n (.n (aq u 63 31 95 15 79 47 111) (some x7) (aq u 71 39 103 23 87 55 119)) (some x3) (.n (aq u 67 35 99 19 83 51 115) (uO u 11) (aq u 75 43 107 27 91 59 123))) (uO u 1) (.n (.n (aq u 65 33 97 17 81 49 113) (uO u 9) (aq u 73 41 105 25 89 57 121)) (some x5) (.n (aq u 69 37 101 21 85 53 117) (uO u 13) (aq u 77 45 109 29 93 61 125)))) (uO u 0) (.n (.n (.n (aq u 64 32 96 16 80 48 112) (some x8) (aq u 72 40 104 24 88 56 120)) (uO u 4) (.n (aq u 68 36 100 20 84 52 116) (uO u 12) (aq u 76 44 108 28 92 60 124))) (some x2) (.n (.n (aq u 66 34 98 18 82 50 114) (uO u 10) (aq u 74 42 106 26 90 58 122)) (some x6) (.n (aq u 70 38 102 22 86 54 118) (uO u 14) (aq u 78 46 110 30 94 62 126)))))
abbrev aD7(u:List (Option V))(x4:V):T:=(.n (.n (.n (.n (aq u 63 31 95 15 79 47 111) (uO u 7) (aq u 71 39 103 23 87 55 119)) (uO u 3) (.n (aq u 67 35 99 19 83 51 115) (uO u 11) (aq u 75 43 107 27 91 59 123))) (uO u 1) (.n (.n (aq u 65 33 97 17 81 49 113) (uO u 9) (aq u 73 41 105 25 89 57 121)) (uO u 5) (.n (aq u 69 37 101 21 85 53 117) (uO u 13) (aq u 77 45 109 29 93 61 125)))) (uO u 0) (.n (.n (.n (aq u 64 32 96 16 80 48 112) (uO u 8) (aq u 72 40 104 24 88 56 120)) (some x4) (.n (aq u 68 36 100 20 84 52 116) (uO u 12) (aq u 76 44 108 28 92 60 124))) (uO u 2) (.n (.n (aq u 66 34 98 18 82 50 114) (uO u 10) (aq u 74 42 106 26 90 58 122)) (uO u 6) (.n (aq u 70 38 102 22 86 54 118) (uO u 14) (aq u 78 46 110 30 94 62 126)))))
abbrev bG5(u:List (Option V))(x2 x3 x5 x6 x7 x8 x9 x10:V):T:=(.n (.n (.n (.n (aq u 63 31 95 15 79 47 111) (some x7) (aq u 71 39 103 23 87 55 119)) (some x3) (.n (aq u 67 35 99 19 83 51 115) (uO u 11) (aq u 75 43 107 27 91 59 123))) (uO u 1) (.n (.n (aq u 65 33 97 17 81 49 113) (some x9) (aq u 73 41 105 25 89 57 121)) (some x5) (.n (aq u 69 37 101 21 85 53 117) (uO u 13) (aq u 77 45 109 29 93 61 125)))) (uO u 0) (.n (.n (.n (aq u 64 32 96 16 80 48 112) (some x8) (aq u 72 40 104 24 88 56 120)) (uO u 4) (.n (aq u 68 36 100 20 84 52 116) (uO u 12) (aq u 76 44 108 28 92 60 124))) (some x2) (.n (.n (aq u 66 34 98 18 82 50 114) (some x10) (aq u 74 42 106 26 90 58 122)) (some x6) (.n (aq u 70 38 102 22 86 54 118) (uO u 14) (aq u 78 46 110 30 94 62 126)))))
abbrev bG6(u:List (Option V))(x2 x3 x5 x6 x7 x8 x9 x10 x11:V):T:=(.n (.n (.n (.n (aq u 63 31 95 15 79 47 111) (some x7) (aq u 71 39 103 23 87 55 119)) (some x3) (.n (aq u 67 35 99 19 83 51 115) (some x11) (aq u 75 43 107 27 91 59 123))) (uO u 1) (.n (.n (aq u 65 33 97 17 81 49 113) (some x9) (aq u 73 41 105 25 89 57 121)) (some x5) (.n (aq u 69 37 101 21 85 53 117) (uO u 13) (aq u 77 45 109 29 93 61 125)))) (uO u 0) (.n (.n (.n (aq u 64 32 96 16 80 48 112) (some x8) (aq u 72 40 104 24 88 56 120)) (uO u 4) (.n (aq u 68 36 100 20 84 52 116) (uO u 12) (aq u 76 44 108 28 92 60 124))) (some x2) (.n (.n (aq u 66 34 98 18 82 50 114) (some x10) (aq u 74 42 106 26 90 58 122)) (some x6) (.n (aq u 70 38 102 22 86 54 118) (uO u 14) (aq u 78 46 110 30 94 62 126)))))
abbrev aD8(u:List (Option V))(x2 x3 x5:V):T:=(.n (.n (.n (.n (aq u 63 31 95 15 79 47 111) (uO u 7) (aq u 71 39 103 23 87 55 119)) (some x3) (.n (aq u 67 35 99 19 83 51 115) (uO u 11) (aq u 75 43 107 27 91 59 123))) (uO u 1) (.n (.n (aq u 65 33 97 17 81 49 113) (uO u 9) (aq u 73 41 105 25 89 57 121)) (some x5) (.n (aq u 69 37 101 21 85 53 117) (uO u 13) (aq u 77 45 109 29 93 61 125)))) (uO u 0) (.n (.n (.n (aq u 64 32 96 16 80 48 112) (uO u 8) (aq u 72 40 104 24 88 56 120)) (uO u 4) (.n (aq u 68 36 100 20 84 52 116) (uO u 12) (aq u 76 44 108 28 92 60 124))) (some x2) (.n (.n (aq u 66 34 98 18 82 50 114) (uO u 10) (aq u 74 42 106 26 90 58 122)) (uO u 6) (.n (aq u 70 38 102 22 86 54 118) (uO u 14) (aq u 78 46 110 30 94 62 126)))))
abbrev bG7(u:List (Option V))(x2 x3 x5 x6 x7:V):T:=(.n (.n (.n (.n (aq u 63 31 95 15 79 47 111) (some x7) (aq u 71 39 103 23 87 55 119)) (some x3) (.n (aq u 67 35 99 19 83 51 115) (uO u 11) (aq u 75 43 107 27 91 59 123))) (uO u 1) (.n (.n (aq u 65 33 97 17 81 49 113) (uO u 9) (aq u 73 41 105 25 89 57 121)) (some x5) (.n (aq u 69 37 101 21 85 53 117) (uO u 13) (aq u 77 45 109 29 93 61 125)))) (uO u 0) (.n (.n (.n (aq u 64 32 96 16 80 48 112) (uO u 8) (aq u 72 40 104 24 88 56 120)) (uO u 4) (.n (aq u 68 36 100 20 84 52 116) (uO u 12) (aq u 76 44 108 28 92 60 124))) (some x2) (.n (.n (aq u 66 34 98 18 82 50 114) (uO u 10) (aq u 74 42 106 26 90 58 122)) (some x6) (.n (aq u 70 38 102 22 86 54 118) (uO u 14) (aq u 78 46 110 30 94 62 126)))))
def YF:CC:=(.reg [(aa a2 (.bx 25 1 z0)),(aa a3 (.bx 25 1 z1)),(qq a4 (.mv xF))])
def TM:=wu YF.eq_1
def YG:CC:=(.reg [(qq fg (.fa 0 z2)),(qq eQ (.ld1 eN)),(qq fh (.ln .slice ed)),(qq dM (.fa 0 z3)),(qq fu (.ld1 gK)),(qq gL (.ln .slice iA)),(qq fy (.bi .neq gb iB))])
def TV:=wu YG.eq_1
def YH:CC:=(.reg [(qq a4 (.mv xF))])
def aG1:=wu YH.eq_1
def YI:CC:=(.seq YG (.cond iC (.seq YH .ret) .skip))
def TZ:=wu YI.eq_1
def YJ:CC:=(.reg [(qq a5 (.mv (x6 0)))])
def aG2:=wu YJ.eq_1
def YK:CC:=(.reg [(qq jr (.mv z5)),(qq gH (.fa 0 z2)),(qq fY (.ld1 la)),(qq jt (.ln .slice kL)),(qq gU (.bi .lss l8 lA))])
def aG3:=wu YK.eq_1
def YL:CC:=(.seq YK (.cond lg .skip (.exit 0)))
def aG4:=wu YL.eq_1
def YM:CC:=(.dreg 14 [(0,0,(qq kd (.fa 0 z2))),(1,1,(qq gV (.ld1 nl))),(2,0,(qq lE (.mv z5))),(3,7,(qq ip (.iaS 6 nn nK))),(4,15,(qq ke (.ldn 6 ot))),(5,0,(qq lj (.fa 0 z3))),(6,32,(qq np (.ld1 pq))),(7,0,(qq nM (.mv z5))),(8,224,(qq jY (.iaS 6 pz ru))),(9,480,(qq jZ (.ldn 6 rv))),(10,0,(aa a6 (.al 39 [(.i .i64 0),(.b false),.l0,.l0,(.b false),.l0]))),(11,0,(aa a7 (.al 39 [(.i .i64 0),(.b false),.l0,.l0,(.b false),.l0]))),(12,3103,(ez (.st 6 z6 oz))),(13,8191,(ez (.st 6 z7 rx)))])
def aG5:=wu YM.eq_1
def YN:CC:=(.reg [(qq nN (.fa 0 z6)),(qq k8 (.ld1 sC)),(qq nq (.fa 0 z7)),(qq mN (.ld1 rU)),(qq pC (.bi .neq qF rV)),(qq js (.mv sD)),(aA lF (.fa 1 z6) js),(aA pD (.ld1 sE) js),(aA ng (.fa 1 z7) js),(aA pE (.ld1 rW) js),(aA lG (.eq true .bool false sF rX) js),(qq pF (.pk ry xT vm)),(qq kQ (.mv sG)),(aA nh (.fa 4 z6) kQ),(aA px (.ld1 vn) kQ),(aA rA (.fa 4 z7) kQ),(aA oD (.ld1 uM) kQ),(aA sP (.eq true .bool false vp vq) kQ),(qq pG (.pk uE xT wM)),(qq pH (.mv za)),(aA uI (.fa 2 z6) pH),(aA vw (.ldn 1 wN) pH),(aA vz (.fa 2 z7) pH),(aA rZ (.ldn 1 Bd) pH),(lV vA (.call 22 [Bx,Be]) pH),(aA s5 (.un .not Bf) pH),(qq sQ (.pk zl xT Bz)),(qq ou (.mv Bg)),(aA vC (.fa 3 z6) ou),(aA uT (.ldn 1 BA) ou),(aA oE (.fa 3 z7) ou),(aA qJ (.ldn 1 zn) ou),(lV uU (.call 22 [zb,wO]) ou),(aA uV (.un .not zo) ou),(qq vD (.pk zm xT zp)),(qq py (.mv BB)),(aA vE (.fa 5 z6) py),(aA fA (.ld1 BC) py),(aA qK (.ln .slice uF) py),(aA uJ (.fa 5 z7) py),(aA wW (.ld1 BE) py),(aA zc (.ln .slice BF) py),(aA zd (.bi .neq BD EK) py),(qq ze (.pk Bh xT EL))])
def AY:=wu YN.eq_1
def KE:CC:=(.reg [(qq a4 (.mv xF))])
def oe:=wu KE.eq_1
def KF:CC:=(.cond EM (.seq KE .ret) .skip)
def mI:=wu KF.eq_1
def KG:CC:=(.reg [(qq a8 (.mv (x6 0)))])
def TN:=wu KG.eq_1
def KH:CC:=(.reg [(qq vF (.mv z8)),(qq zx (.fa 5 z6)),(qq pI (.ld1 GC)),(qq uW (.ln .slice GD)),(qq BJ (.bi .lss GB GE))])
def TO:=wu KH.eq_1
def KI:CC:=(.cond GF .skip (.exit 2))
def TP:=wu KI.eq_1
def KJ:CC:=(.dreg 14 [(0,0,(qq BL (.fa 5 z6))),(1,1,(qq sR (.ld1 GH))),(2,0,(qq EU (.mv z8))),(3,7,(qq GT (.iaS 1 IL IM))),(4,15,(qq EV (.fa 0 J1))),(5,31,(qq EW (.ld1 J2))),(6,0,(qq BM (.fa 5 z7))),(7,64,(qq GU (.ld1 J4))),(8,0,(qq Jp (.mv z8))),(9,448,(qq zy (.iaS 1 J5 Vr))),(10,960,(qq Jq (.fa 0 Vs))),(11,1984,(qq Jr (.ld1 Vt))),(12,63,(qq a9 (.mv J3))),(13,8191,(qq dT (.mv Vu)))])
def TQ:=wu KJ.eq_1
def KK:CC:=(.reg [(qq Js (.mv z9)),(qq rz (.ln .slice Vv)),(qq iX (.mv ft)),(qq uN (.ln .slice EJ)),(qq uP (.bi .neq uD yX))])
def TR:=wu KK.eq_1
def KL:CC:=(.reg [(qq a4 (.mv xF))])
def b56:=wu KL.eq_1
def KM:CC:=(.cond yY (.seq KL .ret) .skip)
def TS:=wu KM.eq_1
def KN:CC:=(.reg [(qq eP (.mv (x6 0)))])
def TU:=wu KN.eq_1
def KO:CC:=(.reg [(qq uQ (.mv dL)),(qq GP (.mv z9)),(qq wV (.ln .slice Vb)),(qq GQ (.bi .lss yZ Vc))])
def b57:=wu KO.eq_1
def KP:CC:=(.cond Vd .skip (.exit 4))
def b58:=wu KP.eq_1
def KQ:CC:=(.dreg 10 [(0,0,(qq Jg (.mv z9))),(1,0,(qq uR (.mv dL))),(2,3,(qq Jh (.iaS 1 Yd Ye))),(3,7,(qq Ji (.ldn 1 Yf))),(4,0,(qq Jj (.mv ft))),(5,0,(qq Jk (.mv dL))),(6,48,(qq Jl (.iaS 1 Yh Yi))),(7,112,(qq Jm (.ldn 1 Yj))),(8,255,(ee sO (.call 22 [Yg,Yk]))),(9,511,(qq Jn (.un .not Yl)))])
def b59:=wu KQ.eq_1
def KR:CC:=(.reg [(qq a4 (.mv xF))])
def b60:=wu KR.eq_1
def KS:CC:=(.cond Ym (.seq KR .ret) .skip)
def b61:=wu KS.eq_1
def KT:CC:=(.reg [(qq GR (.mv dL)),(qq Jf (.bi .add Ve (x6 1))),(qq eP (.mv Yc))])
def b62:=wu KT.eq_1
def KU:CC:=(.seq (.seq KO KP) (.seq (.block 5 (.seq KQ KS)) KT))
def b63:=wu KU.eq_1
def C4:CC:=(.seq (.seq KK KM) (.seq KN (.block 4 (.loop KU))))
def TW:=wu C4.eq_1
def KV:CC:=(.reg [(qq wX (.mv z8)),(qq BK (.bi .add GG (x6 1))),(qq a8 (.mv IK))])
def b64:=wu KV.eq_1
def KW:CC:=(.seq (.seq KH KI) (.seq (.block 3 (.seq KJ C4)) KV))
def TX:=wu KW.eq_1
def C6:CC:=(.seq (.seq YN KF) (.seq KG (.block 2 (.loop KW))))
def ut:=wu C6.eq_1
def KZ:CC:=(.reg [(qq jX (.mv z5)),(qq gv (.bi .add kM (x6 1))),(qq a5 (.mv lB))])
def b65:=wu KZ.eq_1
def L0:CC:=(.loop (.seq YL (.seq (.block 1 (.seq YM C6)) KZ)))
def TY:=wu L0.eq_1
def L4:CC:=(.reg [(qq a4 (.mv xT))])
def b66:=wu L4.eq_1
def L5:CC:=(.seq YI (.seq (.seq YJ (.block 0 L0)) (.seq L4 .ret)))
def En:=wu L5.eq_1
def c12:CF:= .mk 7 [.t a4] (.seq YF L5)
theorem e12(v0 v1:V):bz 7 [v0,v1]=(.n (.n qw (some v1) qw) (some v0) vg):=rfl
def Vx:=ai @e12 (ai @TM (ai @TV (ai @aG1 (ai @TZ (ai @aG2 (ai @aG3 (ai @aG4 (ai @aG5 (ai @AY (ai @oe (ai @mI (ai @TN (ai @TO (ai @TP (ai @TQ (ai @TR (ai @b56 (ai @TS (ai @TU (ai @b57 (ai @b58 (ai @b59 (ai @b60 (ai @b61 (ai @b62 (ai @b63 (ai @TW (ai @b64 (ai @TX (ai @ut (ai @b65 (ai @TY (ai @b66 (@En))))))))))))))))))))))))))))))))))
theorem cg.at1{α:Type}{F:RO}{R:Mem→Nat→V→α→Prop}{M:Mem}{c:Nat}{v:V}{l:List α}(h:cg F (fun M c e a=>∃x,e=[x]∧R M c x a) 1 M c v l)(i:Nat)(hi:i<l.length):
 ∃b o x,b<c∧(∀k,fF 1 v (.i k (i:Int))=some (.p b o))∧load1 F M b o=some x∧loadN F M b o 1=some [x]∧R M c x l[i]:=by
 obtain⟨es,h1,h2,h3,h4⟩:=h
 obtain⟨b,o,a1,a2,a3⟩:=h1.at i (by omega)
 obtain⟨x,hx,hr⟩:=h4 i (by omega) hi
 rw[hx]at a3
 have a0:=a3 0 (by simp)
 exact⟨b,o,x,a1,a2,a0,a3.load (by simp),hr⟩
theorem bX3(Φ:Nat→Option CF)(h22:Φ 22=some c22){F:RO}{M:Mem}{c1 pc pd pa pb:Nat}{iv kv:V}(ok:cK F M c1){v1 v2:V}{l1 l2:List (List Pc)}(h1:ff F M c1 v1 l1)(h2:ff F M c1 v2 l2)(u:List (Option V))(Q:Ex→St→Prop)
 (hT:l1=l2→ ∀(u:List (Option V)) M' c',Gr c1 M c' M'→Q .nrm (.mk ((aD6 u (.p pc 0) (.p pd 0) iv (.p pa 0) (.p pb 0) kv)) [] M' c'))
 (hF:l1≠l2→ ∀(u:List (Option V)) M' c',Gr c1 M c' M'→Q .ret (.mk ((aD7 u (.b false))) [] M' c')):
 Wp C4 (K Φ none 12 F) (.mk ((bG5 u (.p pc 0) (.p pd 0) iv (.p pa 0) (.p pb 0) kv v1 v2)) [] M c1) Q:=by
 have n1:=h1.len
 have n2:=h2.len
 have mx1:=h1.max
 by_cases hlen:l1.length=l2.length
 ·have d0:decide (¬((l1.length:Int)=(l2.length:Int)))=false:=ag (by omega);simp only[WX,TR,TS,TU,TW,n1,n2,d0];obtain⟨I,hI⟩:∃I:Nat→St→Prop,∀n s',I n s'↔(∃(i c2:Nat) (M1:Mem) (u:List (Option V)),n=l1.length-i∧i≤l1.length∧s'= .mk ((bG6 u (.p pc 0) (.p pd 0) iv (.p pa 0) (.p pb 0) kv v1 v2 (.i .i64 (i:Int)))) [] M1 c2∧Gr c1 M c2 M1∧l1.take i=l2.take i):=⟨fun n s'=>_,fun _ _=>Iff.rfl⟩
  refine bw I ?_ l1.length _ ((hI _ _).2 ⟨0,_,_,(X2 (G2 (X1 (G4 (G2 (G1 (bD (bK (bB (X2 (X1 []))))))))))),rfl,ax _,rfl,Gr.refl ok,rfl⟩);intro n s' hIs;obtain⟨i,c2,M1,u,rfl,hi,rfl,gr1,hpre⟩:=(hI _ _).1 hIs;clear hIs;by_cases hlt:i<l1.length
  ·have q8:cz .add (.i .i64 (i:Int)) (.i .i64 1)=some (.i .i64 ((i+1:Nat):Int)):=by rw[aX _ _ (by omega) (by omega)];simp
   have hlt2:i<l2.length:=by omega
   have d1:decide ((i:Int)<(l1.length:Int))=true:=ah (by omega);have ok1:=gr1.ok ok;obtain⟨b1,o1,x1,hb1,ia1,_,ld1,w1⟩:=cg.at1 (h1.grow gr1) i hlt;obtain⟨b2,o2,x2,hb2,ia2,_,ld2,w2⟩:=cg.at1 (h2.grow gr1) i hlt2;have ia1:=ia1 .i64;have ia2:=ia2 .i64;have hfr:=ok1.free;have gX:Gr c2 M1 (c2+10) M1:=(Gr.refl ok1).up (by omega);simp only[WX,Nat.reducePow,Nat.reduceDiv,Nat.reduceMod,Nat.reduceBEq,fW,Vx,n1,d1,ia1,ia2,ld1,ld2,fW];refine du ((w22 Φ h22 (gX.ok ok1) (w1.grow gX) (w2.grow gX)).mono ?_);rintro r M2 c3 ⟨rfl,g2⟩;have gT:=gX.trans g2;refine⟨(gT.ok ok1).free,?_⟩;by_cases he:l1[i]=l2[i]
   ·have dd:decide (l1[i]=l2[i])=true:=ah he;simp only[WX,Vx,dd,q8];exact⟨l1.length-(i+1),by omega,(hI _ _).2 ⟨i+1,_,_,(X2 (G2 (X1 (G4 (G2 (G1 (bD (bK (bB (X2 (X1 []))))))))))),rfl,hlt,rfl,gr1.trans gT,sy hlt hlt2 hpre he⟩⟩
   ·have dd:decide (l1[i]=l2[i])=false:=ag he;simp only[WX,Vx,dd];exact hF (Gl hlt hlt2 he) (X4 (G1 (bD (bK (bB (X8 (X2 []))))))) _ _ (gr1.trans gT)
  ·obtain rfl:i=l1.length:=by omega
   have d1:decide ((l1.length:Int)<(l1.length:Int))=false:=ag (by omega);simp only[WX,Vx,n1,d1];exact hT (yO hlen hpre) (X2 (G2 (X1 (G4 (bD (bK (bB (X4 (X2 []))))))))) _ _ gr1
 ·have d0:decide (¬((l1.length:Int)=(l2.length:Int)))=true:=ah (by omega);simp only[WX,Vx,n1,n2,d0];exact hF (fun e=>hlen (by rw[e])) (X4 (G1 (bD (bK (bB (X8 (X2 []))))))) _ _ (Gr.refl ok)
theorem bX2(Φ:Nat→Option CF)(h22:Φ 22=some c22){F:RO}{M:Mem}{c1 pc pd pa pb:Nat}{iv:V}(ok:cK F M c1){r1 r2:List V}{p q:dD}(h1:P1 F M c1 r1 p)(h2:P1 F M c1 r2 q)(ma:M.get pa=some (af 39 r1))(mb:M.get pb=some (af 39 r2))(ha:pa<c1)(hb:pb<c1)(u:List (Option V))(Q:Ex→St→Prop)
 (hT:p=q→ ∀(u:List (Option V)) M' c',Gr c1 M c' M'→Q .nrm (.mk ((aD8 u (.p pc 0) (.p pd 0) iv)) [] M' c'))
 (hF:p≠q→ ∀(u:List (Option V)) M' c',Gr c1 M c' M'→Q .ret (.mk ((aD7 u (.b false))) [] M' c')):
 Wp C6 (K Φ none 12 F) (.mk ((bG7 u (.p pc 0) (.p pd 0) iv (.p pa 0) (.p pb 0))) [] M c1) Q:=by
 obtain⟨i1,o1,k1,hr1,a1,a2,a3⟩:=h1
 obtain⟨i2,o2,k2,hr2,b1,b2,b3⟩:=h2
 have L1:r1.length=6:=by rw[hr1];rfl
 have L2:r2.length=6:=by rw[hr2];rfl
 have A0:load1 F M pa 0=some (.i .i64 p.join):=(au ma 0).trans (by rw[hr1];rfl)
 have A1:load1 F M pa 1=some (.b p.nt):=(au ma 1).trans (by rw[hr1];rfl)
 have A4:load1 F M pa 4=some (.b p.beh):=(au ma 4).trans (by rw[hr1];rfl)
 have A5:load1 F M pa 5=some k1:=(au ma 5).trans (by rw[hr1];rfl)
 have A2:loadN F M pa 2 1=some [i1]:=by rw[cO ma,bW _ _ _ _ _ _ (by omega),hr1];rfl
 have A3:loadN F M pa 3 1=some [o1]:=by rw[cO ma,bW _ _ _ _ _ _ (by omega),hr1];rfl
 have B0:load1 F M pb 0=some (.i .i64 q.join):=(au mb 0).trans (by rw[hr2];rfl)
 have B1:load1 F M pb 1=some (.b q.nt):=(au mb 1).trans (by rw[hr2];rfl)
 have B4:load1 F M pb 4=some (.b q.beh):=(au mb 4).trans (by rw[hr2];rfl)
 have B5:load1 F M pb 5=some k2:=(au mb 5).trans (by rw[hr2];rfl)
 have B2:loadN F M pb 2 1=some [i2]:=by rw[cO mb,bW _ _ _ _ _ _ (by omega),hr2];rfl
 have B3:loadN F M pb 3 1=some [o2]:=by rw[cO mb,bW _ _ _ _ _ _ (by omega),hr2];rfl
 clear ma mb hr1 hr2 L1 L2
 by_cases dj:p.join=q.join
 rotate_left
 ·have dj':decide (¬(p.join=q.join))=true:=ah dj;simp only[WX,AY,oe,mI,ut,A0,B0,dj'];exact hF (fun e=>dj (by rw[e])) (X4 (G1 (bD (bK (bB (X8 (X2 []))))))) _ _ (Gr.refl ok)
 have dj':decide (¬(p.join=q.join))=false:=ag (fun h=>h dj)
 by_cases dn:p.nt=q.nt
 rotate_left
 ·have dn':decide (p.nt=q.nt)=false:=ag dn;simp only[WX,AY,oe,mI,ut,A0,B0,A1,B1,dj',dn'];exact hF (fun e=>dn (by rw[e])) (X4 (G1 (bD (bK (bB (X8 (X2 []))))))) _ _ (Gr.refl ok)
 have dn':decide (p.nt=q.nt)=true:=ah dn
 by_cases db:p.beh=q.beh
 rotate_left
 ·have db':decide (p.beh=q.beh)=false:=ag db;simp only[WX,AY,oe,mI,ut,A0,B0,A1,B1,A4,B4,dj',dn',db'];exact hF (fun e=>db (by rw[e])) (X4 (G1 (bD (bK (bB (X8 (X2 []))))))) _ _ (Gr.refl ok)
 have db':decide (p.beh=q.beh)=true:=ah db
 simp only[WX,AY,ut,A0,B0,A1,B1,A4,B4,A2,B2,dj',dn',db']
 refine aD ((w22 Φ h22 ok a1 b1).mono ?_)
 rintro r M2 c2 ⟨rfl,g2⟩
 have hle2:=g2.le
 have A3:loadN F M2 pa 3 1=some [o1]:=(g2.loadN (by omega) _ _).trans A3
 have B3:loadN F M2 pb 3 1=some [o2]:=(g2.loadN (by omega) _ _).trans B3
 have A5:load1 F M2 pa 5=some k1:=(g2.load1 (by omega) _).trans A5
 have B5:load1 F M2 pb 5=some k2:=(g2.load1 (by omega) _).trans B5
 by_cases di:p.inp=q.inp
 rotate_left
 ·have di':decide (p.inp=q.inp)=false:=ag di;simp only[WX,oe,mI,di'];exact hF (fun e=>di (by rw[e])) (X4 (G1 (bD (bK (bB (X8 (X2 []))))))) _ _ g2
 have di':decide (p.inp=q.inp)=true:=ah di
 simp only[WX,A3,B3,di']
 have ok2:=g2.ok ok
 refine aD ((w22 Φ h22 ok2 (a2.grow g2) (b2.grow g2)).mono ?_)
 rintro r M3 c3 ⟨rfl,g3⟩
 have hle3:=g3.le
 have A5:load1 F M3 pa 5=some k1:=(g3.load1 (by omega) _).trans A5
 have B5:load1 F M3 pb 5=some k2:=(g3.load1 (by omega) _).trans B5
 have g23:=g2.trans g3
 have ok3:=g3.ok ok2
 by_cases d5:p.out=q.out
 rotate_left
 ·have d5':decide (p.out=q.out)=false:=ag d5;simp only[WX,oe,mI,d5'];exact hF (fun e=>d5 (by rw[e])) (X4 (G1 (bD (bK (bB (X8 (X2 []))))))) _ _ g23
 have d5':decide (p.out=q.out)=true:=ah d5
 have a3:=a3.grow g23
 have b3:=b3.grow g23
 have n1:=a3.len
 have n2:=b3.len
 have mx1:=a3.max
 by_cases hlen:p.cmds.length=q.cmds.length
 rotate_left
 ·have d0:decide (¬((p.cmds.length:Int)=(q.cmds.length:Int)))=true:=ah (by omega);simp only[WX,oe,mI,A5,B5,n1,n2,d0,d5'];exact hF (fun e=>hlen (by rw[e])) (X4 (G1 (bD (bK (bB (X8 (X2 []))))))) _ _ g23
 have d0:decide (¬((p.cmds.length:Int)=(q.cmds.length:Int)))=false:=ag (by omega)
 have hnx:∀{l:List (List (List Pc))},p.cmds=q.cmds→p=q:=fun hc=>Sx.2 ⟨dj,dn,db,di,d5,hc⟩
 simp only[WX,mI,TN,A5,B5,n1,n2,d0,d5']
 obtain⟨I,hI⟩:∃I:Nat→St→Prop,∀n s',I n s'↔(∃(i c4:Nat) (M1:Mem) (u:List (Option V)),n=p.cmds.length-i∧i≤p.cmds.length∧s'= .mk ((aD6 u (.p pc 0) (.p pd 0) iv (.p pa 0) (.p pb 0) (.i .i64 (i:Int)))) [] M1 c4∧Gr c3 M3 c4 M1∧p.cmds.take i=q.cmds.take i):=⟨fun n s'=>_,fun _ _=>Iff.rfl⟩
 refine bw I ?_ p.cmds.length _ ((hI _ _).2 ⟨0,_,_,(X2 (G2 (X1 (G4 (bD (bK (bB (X4 (X2 []))))))))),rfl,ax _,rfl,Gr.refl ok3,rfl⟩)
 intro n s' hIs
 obtain⟨i,c4,M1,u,rfl,hi,rfl,gr1,hpre⟩:=(hI _ _).1 hIs
 clear hIs
 have A5:load1 F M1 pa 5=some k1:=(gr1.load1 (by omega) _).trans A5
 have B5:load1 F M1 pb 5=some k2:=(gr1.load1 (by omega) _).trans B5
 by_cases hlt:i<p.cmds.length
 ·have q8:cz .add (.i .i64 (i:Int)) (.i .i64 1)=some (.i .i64 ((i+1:Nat):Int)):=by rw[aX _ _ (by omega) (by omega)];simp
  have hlt2:i<q.cmds.length:=by omega
  have d1:decide ((i:Int)<(p.cmds.length:Int))=true:=ah (by omega);have Bs:=gr1.ok ok3;obtain⟨x1,y1,z1,hb1,ia1,ld1,_,w1⟩:=cg.at1 (a3.grow gr1) i hlt;obtain⟨x2,y2,z2,hb2,ia2,ld2,_,w2⟩:=cg.at1 (b3.grow gr1) i hlt2;have ia1:=ia1 .i64;have ia2:=ia2 .i64;have hfr:=Bs.free;have gX:Gr c4 M1 (c4+14) M1:=(Gr.refl Bs).up (by omega);simp only[WX,TO,TP,TQ,TX,A5,B5,n1,d1,ia1,ia2,ld1,ld2,aB];refine bX3 Φ h22 (gX.ok Bs) (w1.grow gX) (w2.grow gX) (X2 (G2 (X1 (G4 (G2 (bD (bK (bB (X4 []))))))))) _ ?_ ?_
  ·intro he u M' c' g;simp only[WX,Vx,q8];exact⟨p.cmds.length-(i+1),by omega,(hI _ _).2 ⟨i+1,_,_,(X2 (G2 (X1 (G4 (bD (bK (bB (X4 (X2 []))))))))),rfl,hlt,rfl,gr1.trans (gX.trans g),sy hlt hlt2 hpre he⟩⟩
  ·intro he u M' c' g;simp only[WX];exact hF (fun e=>Gl hlt hlt2 he (by rw[e])) (X4 (G1 (bD (bK (bB (X8 (X2 []))))))) _ _ (g23.trans (gr1.trans (gX.trans g)))
 ·obtain rfl:i=p.cmds.length:=by omega
  have d1:decide ((p.cmds.length:Int)<(p.cmds.length:Int))=false:=ag (by omega);simp only[WX,Vx,A5,n1,d1];exact hT (Sx.2 ⟨dj,dn,db,di,d5,yO hlen hpre⟩) (X2 (G2 (X1 (G1 (bD (bK (bB (X8 (X1 []))))))))) _ _ (g23.trans gr1)
theorem w12(Φ:Nat→Option CF)(h:Φ 12=some c12)(h22:Φ 22=some c22){F:RO}{M:Mem}{c:Nat}(ok:cK F M c){v1 v2:V}{l1 l2:List dD}(h1:iF F M c v1 l1)(h2:iF F M c v2 l2):
 Calls Φ F 12 [.g [v1],.g [v2]] M c fun r M' c'=>r= .b (decide (l1=l2))∧Gr c M c' M':=by
 refine aN h ?_
 obtain⟨y1,y2,y3⟩:=h1.one
 obtain⟨z1,z2,z3⟩:=h2.one
 have hG:∀v,flatten (V.g [v])=[v]:=fun _=>rfl
 have gX:=((Gr.refl ok).set c (af 25 [v1]) (aj _) (ay _) (aH _)).set (c+1) (af 25 [v2]) (by omega) (show c+1<c+2 by omega) (by omega)
 have m0:((M.set c (af 25 [v1])).set (c+1) (af 25 [v2])).get c=some (af 25 [v1]):=by rw[ak _ _ (by omega)];exact am _ _ _
 have m1:((M.set c (af 25 [v1])).set (c+1) (af 25 [v2])).get (c+1)=some (af 25 [v2]):=am _ _ _
 have k0:load1 F ((M.set c (af 25 [v1])).set (c+1) (af 25 [v2])) c 0=some v1:=au m0 0
 have k1:load1 F ((M.set c (af 25 [v1])).set (c+1) (af 25 [v2])) (c+1) 0=some v2:=au m1 0
 have n1:=h1.len
 have n2:=h2.len
 have mx1:=h1.max
 have h1:=h1.grow gX
 have h2:=h2.grow gX
 have okX:=gX.ok ok
 by_cases hlen:l1.length=l2.length
 rotate_left
 ·have d0:decide (¬((l1.length:Int)=(l2.length:Int)))=true:=ah (by omega);simp only[WX,Nat.reduceAdd,e12,TM,TV,aG1,TZ,En,hG,y3,z3,k0,k1,n1,n2,d0];exact⟨by rw[ag (fun e=>hlen (by rw[e]))],gX⟩
 have d0:decide (¬((l1.length:Int)=(l2.length:Int)))=false:=ag (by omega)
 simp only[WX,Nat.reduceAdd,e12,TM,TV,TZ,aG2,TY,En,hG,y3,z3,k0,k1,n1,n2,d0]
 generalize(M.set c (af 25 [v1])).set (c+1) (af 25 [v2])=X at gX h1 h2 okX k0 k1⊢
 clear m0 m1
 obtain⟨I,hI⟩:∃I:Nat→St→Prop,∀n s',I n s'↔(∃(i c1:Nat) (M1:Mem) (u:List (Option V)),n=l1.length-i∧i≤l1.length∧s'= .mk ((aD8 u (.p c 0) (.p (c+1) 0) (.i .i64 (i:Int)))) [] M1 c1∧Gr (c+2) X c1 M1∧l1.take i=l2.take i):=⟨fun n s'=>_,fun _ _=>Iff.rfl⟩
 refine bw I ?_ l1.length _ ((hI _ _).2 ⟨0,_,_,(X2 (G2 (X1 (G1 (bD (bK (bB (X8 (X1 []))))))))),rfl,ax _,rfl,Gr.refl okX,rfl⟩)
 intro n s' hIs
 obtain⟨i,c1,M1,u,rfl,hi,rfl,gr1,hpre⟩:=(hI _ _).1 hIs
 clear hIs
 have hle1:=gr1.le
 have k0:load1 F M1 c 0=some v1:=(gr1.load1 (by omega) _).trans k0
 have k1:load1 F M1 (c+1) 0=some v2:=(gr1.load1 (by omega) _).trans k1
 by_cases hlt:i<l1.length
 ·have q8:cz .add (.i .i64 (i:Int)) (.i .i64 1)=some (.i .i64 ((i+1:Nat):Int)):=by rw[aX _ _ (by omega) (by omega)];simp
  have hlt2:i<l2.length:=by omega
  have d1:decide ((i:Int)<(l1.length:Int))=true:=ah (by omega);have ok1:=gr1.ok okX;obtain⟨b1,o1,e1,hb1,ia1,ld1,el1,r1⟩:=cg.at (h1.grow gr1) (by decide) i hlt;obtain⟨b2,o2,e2,hb2,ia2,ld2,el2,r2⟩:=cg.at (h2.grow gr1) (by decide) i hlt2;have ia1:=ia1 .i64;have ia2:=ia2 .i64;have hfr:=ok1.free;have lk1:(look F M1 (c1+10)).isNone=true:=by rw[ok1.look (by omega)];rfl
  have lk2:(look F M1 (c1+11)).isNone=true:=by rw[ok1.look (by omega)];rfl
  have rf:∀x,c1≤x→bU x [(9,b2),(6,c+1),(4,b1),(1,c)]=true:=fun x hx=>by rw[aU _ _ _ _ (by omega),aU _ _ _ _ (by omega),aU _ _ _ _ (by omega),aU _ _ _ _ (by omega),cF]
  have rf1:=rf (c1+10) (by omega);have rf2:=rf (c1+11) (by omega);simp only[WX,aG3,aG4,aG5,k0,k1,n1,d1,ia1,ia2,ld1,ld2,uw,mj,lk1,lk2,rf1,rf2];have T1:testBit 3103 11=true:=by decide
  have T2:testBit 3103 10=true:=by decide
  obtain⟨Z,hZ⟩:∃Z:List V,Z=[V.i IntKind.i64 0,V.b false,V.l0,V.l0,V.b false,V.l0]:=⟨_,rfl⟩
  have lZ:Z.length=6:=by rw[hZ];rfl
  rw[←hZ];have gA:Gr c1 M1 (c1+14) ((M1.set (c1+11) (af 39 Z)).set (c1+10) (af 39 Z)):=((Gr.refl ok1).set (c1+11) _ (by omega) (show c1+11<c1+14 by omega) (by omega)).set (c1+10) _ (by omega) (by omega) (aj _);refine UV (M1:=(M1.set (c1+11) (af 39 Z)).set (c1+10) (af 39 Z)) (b:=c1+10) (ty:=39) (z:=Z) (e:=e1) _ _ _ _ _ _ _ _ _ _ _ _ _ (by simp only[List.all_cons,List.all_nil,T1,T2,Bool.and_self]) (by rw[eW,eW,ii]) (am _ _ _) rfl rfl r1.all el1 lZ rf1 (gA.ok ok1).free ?_;intro N1 hN1;have gN1:Gr c1 M1 (c1+14) N1:=⟨by omega,fun x hx=>by rw[hN1,ak _ _ (by omega)];exact gA.old x hx,fun x hx=>by rw[hN1,ak _ _ (by omega)];exact gA.new x hx⟩
  refine UV (M1:=N1) (b:=c1+11) (ty:=39) (z:=Z) (e:=e2) _ _ _ _ _ _ _ _ _ _ _ _ _ rfl (ii _) (by rw[hN1,ak _ _ (by omega),ak _ _ (by omega)];exact am _ _ _) rfl rfl r2.all el2 lZ rf2 (gN1.ok ok1).free ?_;intro N2 hN2;have gN2:Gr c1 M1 (c1+14) N2:=⟨by omega,fun x hx=>by rw[hN2,ak _ _ (by omega)];exact gN1.old x hx,fun x hx=>by rw[hN2,ak _ _ (by omega)];exact gN1.new x hx⟩
  have ma:N2.get (c1+10)=some (af 39 e1):=by rw[hN2,ak _ _ (by omega),hN1];exact am _ _ _
  have mb:N2.get (c1+11)=some (af 39 e2):=by rw[hN2];exact am _ _ _
  have okN:=gN2.ok ok1;simp only[WX];refine bX2 Φ h22 okN (P1.grow gN2 _ _ r1) (P1.grow gN2 _ _ r2) ma mb (by omega) (by omega) (X2 (G2 (X1 (G2 (G1 (bD (bK (bB (X4 (X2 (X1 []))))))))))) _ ?_ ?_
  ·intro he u M' c' g;simp only[WX,Vx,q8];exact⟨l1.length-(i+1),by omega,(hI _ _).2 ⟨i+1,_,_,(X2 (G2 (X1 (G1 (bD (bK (bB (X8 (X1 []))))))))),rfl,hlt,rfl,gr1.trans (gN2.trans g),sy hlt hlt2 hpre he⟩⟩
  ·intro he u M' c' g;simp only[WX];exact⟨by rw[ag (Gl hlt hlt2 he)],gX.trans (gr1.trans (gN2.trans g))⟩
 ·obtain rfl:i=l1.length:=by omega
  have d1:decide ((l1.length:Int)<(l1.length:Int))=false:=ag (by omega);simp only[WX,Vx,k0,n1,d1];exact⟨by rw[ah (yO hlen hpre)],gX.trans gr1⟩
def ab4:CC:=(.reg [(aa a2 (.bx 36 1 z0)),(qq a4 (.mv (x6 0)))])
def ab5:CC:=(.reg [(qq a7 (.fa 0 z2)),(qq a8 (.ld1 z7)),(qq a9 (.ln .slice z8)),(qq a5 (.mv z9))])
def ab6:CC:=(.reg [(qq a6 (.mv (x6 0)))])
def ab7:CC:=(.reg [(qq dT (.mv z6)),(qq eP (.fa 0 z2)),(qq fg (.ld1 dL)),(qq eQ (.ln .slice eN)),(qq fh (.bi .lss ft ed)),(qq dM (.mv gb)),(aF fu (.mv z5) dM),(aF gL (.mv z1) dM),(aF fy (.bi .leq iA iB) dM),(qq jr (.pk gK iC xF))])
def ab8:CC:=(.seq ab7 (.cond l8 .skip (.exit 0)))
def ab9:CC:=(.reg [(qq jt (.mv z5)),(qq gU (.fa 0 z2)),(qq jX (.ld1 lg)),(qq gv (.mv z6)),(qq kd (.iaS 2 kM lB)),(qq gV (.fa 0 nl)),(qq lE (.ld1 nn)),(qq ip (.ln .str nK)),(qq ke (.mv z1)),(qq lj (.bi .add oz (x6 1))),(qq np (.mn false ot [pq])),(qq nM (.bi .add lA pz)),(qq a5 (.mv ru))])
def ac0:CC:=(.reg [(qq gH (.mv z6)),(qq fY (.bi .add la (x6 1))),(qq a6 (.mv kL))])
def ac1:CC:=(.block 0 (.loop (.seq ab8 (.seq (.block 1 ab9) ac0))))
def ac2:CC:=(.reg [(qq jY (.mv z5)),(qq a4 (.mv rv))])
def MO:CC:=(.seq ab4 (.seq ab5 (.seq (.seq ab6 ac1) (.seq ac2 .ret))))
def c37:CF:= .mk 6 [.t a4] MO
theorem e37(v0 v1:V):bz 6 [v0,v1]=(.n (.n ow (some v1) ow) (some v0) qw):=rfl
def B37:=ai @e37 (ai (wu ab4.eq_1) (ai (wu ab5.eq_1) (ai (wu ab6.eq_1) (ai (wu ab7.eq_1) (ai (wu ab8.eq_1) (ai (wu ab9.eq_1) (ai (wu ac0.eq_1) (ai (wu ac1.eq_1) (ai (wu ac2.eq_1) (wu MO.eq_1))))))))))
def YQ:CC:=(.reg [(aa a2 (.bx 25 1 z0)),(qq a4 (.mv xF))])
def aG6:=wu YQ.eq_1
def YR:CC:=(.reg [(qq dT (.fa 0 z2)),(qq eP (.ld1 ft)),(qq fg (.ln .slice dL)),(qq a5 (.mv eN))])
def aG7:=wu YR.eq_1
def YS:CC:=(.reg [(qq a6 (.mv (x6 0)))])
def aG8:=wu YS.eq_1
def YT:CC:=(.reg [(qq eQ (.mv z6)),(qq fh (.fa 0 z2)),(qq dM (.ld1 gb)),(qq fu (.ln .slice gK)),(qq gL (.bi .lss ed iA)),(qq fy (.mv iB)),(aF jr (.mv z5) fy),(aF gH (.mv z1) fy),(aF fY (.bi .leq l8 la) fy),(qq jt (.pk iC kL xF))])
def aG9:=wu YT.eq_1
def YU:CC:=(.seq YT (.cond lA .skip (.exit 0)))
def aH0:=wu YU.eq_1
def YV:CC:=(.reg [(qq gv (.fa 0 z2)),(qq kd (.ld1 lB)),(qq gV (.mv z6)),(qq lE (.iaS 6 nl nn)),(qq ip (.ldn 6 nK)),(aa a7 (.al 39 [(.i .i64 0),(.b false),.l0,.l0,(.b false),.l0])),(ez (.st 6 z7 ot))])
def aH1:=wu YV.eq_1
def YW:CC:=(.reg [(qq ke (.mv z5)),(qq lj (.fa 5 z7)),(qq np (.ld1 pq)),(qq nM (.ln .slice pz)),(qq jY (.bi .add oz ru)),(qq jZ (.fa 2 z7)),(qq nN (.fa 0 rx)),(qq k8 (.ld1 sC)),(qq nq (.ln .slice qF)),(qq mN (.bi .add rv rU)),(qq pC (.fa 3 z7)),(qq js (.fa 0 sD)),(qq lF (.ld1 ry)),(qq pD (.ln .slice sE)),(qq ng (.bi .add rV sF)),(qq a5 (.mv rW))])
def aH2:=wu YW.eq_1
def YX:CC:=(.reg [(qq a8 (.mv (x6 0)))])
def aH3:=wu YX.eq_1
def YY:CC:=(.reg [(qq pE (.mv z8)),(qq lG (.fa 5 z7)),(qq pF (.ld1 vm)),(qq kQ (.ln .slice sG)),(qq nh (.bi .lss rX uE)),(qq px (.mv vn)),(aF rA (.mv z5) px),(aF oD (.mv z1) px),(aF sP (.bi .leq uM vq) px),(qq pG (.pk vp wM xF))])
def Gs:=wu YY.eq_1
def L6:CC:=(.seq YY (.cond za .skip (.exit 2)))
def yP:=wu L6.eq_1
def L7:CC:=(.reg [(qq vw (.mv z5)),(qq vz (.fa 5 z7)),(qq rZ (.ld1 Bd)),(qq vA (.mv z8)),(qq s5 (.iaS 1 Be Bf)),(qq sQ (.fa 0 Bz)),(qq ou (.ld1 Bg)),(qq vC (.ln .slice zm)),(qq uT (.bi .add Bx BA)),(qq a5 (.mv zb))])
def U0:=wu L7.eq_1
def L8:CC:=(.reg [(qq a9 (.mv (x6 0)))])
def U1:=wu L8.eq_1
def C7:CC:=(.reg [(qq oE (.mv z9)),(qq qJ (.fa 5 z7)),(qq uU (.ld1 wO)),(qq uV (.mv z8)),(qq vD (.iaS 1 zo zp)),(qq py (.fa 0 BB)),(qq vE (.ld1 Bh)),(qq fA (.ln .slice BC)),(qq qK (.bi .lss zn uF)),(qq uJ (.mv BD)),(aF wW (.mv z5) uJ),(aF zc (.mv z1) uJ),(aF zd (.bi .leq BF EK) uJ),(qq ze (.pk BE EL xF))])
def b67:=wu C7.eq_1
def C8:CC:=(.cond EM .skip (.exit 4))
def b68:=wu C8.eq_1
def C9:CC:=(.reg [(qq pI (.mv z5)),(qq uW (.fa 5 z7)),(qq BJ (.ld1 GE)),(qq wX (.mv z8)),(qq BK (.iaS 1 GF GG)),(qq BL (.fa 0 IK)),(qq sR (.ld1 GH)),(qq EU (.mv z9)),(qq GT (.iaS 1 IL IM)),(qq EV (.ldn 1 J1)),(qq EW (.mv z1)),(ee BM (.call 37 [J2,J3])),(qq GU (.bi .add GD J4)),(qq a5 (.mv J5))])
def b69:=wu C9.eq_1
def Ca:CC:=(.reg [(qq vF (.mv z9)),(qq zx (.bi .add GB (x6 1))),(qq a9 (.mv GC))])
def b70:=wu Ca.eq_1
def Cb:CC:=(.loop (.seq (.seq C7 C8) (.seq (.block 5 C9) Ca)))
def b71:=wu Cb.eq_1
def L9:CC:=(.reg [(qq pH (.mv z8)),(qq uI (.bi .add zl (x6 1))),(qq a8 (.mv wN))])
def b72:=wu L9.eq_1
def La:CC:=(.seq (.block 3 (.seq L7 (.seq L8 (.block 4 Cb)))) L9)
def U2:=wu La.eq_1
def Cc:CC:=(.dreg 12 [(0,0,(qq Jp (.mv z5))),(1,0,(qq zy (.fa 2 z7))),(2,2,(qq Jq (.ldn 1 Vs))),(3,0,(qq Jr (.mv z1))),(6,0,(qq iX (.fa 3 z7))),(7,64,(qq uN (.ldn 1 EJ))),(8,0,(qq uP (.mv z1))),(4,14,(ee Js (.call 37 [Vt,Vu]))),(5,31,(qq rz (.bi .add Vr Vv))),(9,478,(ee uQ (.call 37 [yX,yY]))),(10,1023,(qq GP (.bi .add uD yZ))),(11,2047,(qq a5 (.mv Vb)))])
def b73:=wu Cc.eq_1
def Cd:CC:=(.seq (.seq YX (.block 2 (.loop (.seq L6 La)))) Cc)
def U3:=wu Cd.eq_1
def Lb:CC:=(.reg [(qq gU (.mv z6)),(qq jX (.bi .add lg (x6 1))),(qq a6 (.mv kM))])
def b74:=wu Lb.eq_1
def Lc:CC:=(.seq YU (.seq (.block 1 (.seq YV (.seq YW Cd))) Lb))
def U4:=wu Lc.eq_1
def Ld:CC:=(.reg [(qq wV (.mv z5)),(qq GQ (.mv z1)),(qq GR (.bi .gtr Vc Vd)),(qq a4 (.mv Ve))])
def b75:=wu Ld.eq_1
def Le:CC:=(.seq (.seq YS (.block 0 (.loop Lc))) (.seq Ld .ret))
def U5:=wu Le.eq_1
def c14:CF:= .mk 7 [.t a4] (.seq YQ (.seq YR Le))
theorem e14(v0 v1:V):bz 7 [v0,v1]=(.n (.n qw (some v1) qw) (some v0) vg):=rfl
def Vy:=ai @e14 (ai @aG6 (ai @aG7 (ai @aG8 (ai @aG9 (ai @aH0 (ai @aH1 (ai @aH2 (ai @aH3 (ai @Gs (ai @yP (ai @U0 (ai @U1 (ai @b67 (ai @b68 (ai @b69 (ai @b70 (ai @b71 (ai @b72 (ai @U2 (ai @b73 (ai @U3 (ai @b74 (ai @U4 (ai @b75 (@U5)))))))))))))))))))))))))
theorem bJ7{F:RO}(mx:Bool)(x y:X)(M:Mem)(t:T):(cS (.mn mx x [y]) F M t).val=HR mx (x.ev t) (y.ev t):=by
 show(qr (minAll mx t (x.ev t) [y])).val=_
 show(qr (match HR mx (x.ev t) (y.ev t)with|some v=>minAll mx t v []|none=>none)).val=_
 cases HR mx (x.ev t) (y.ev t)<;>rfl
theorem Sm{F:RO}{M:Mem}{c:Nat}{v:V}{ps:List Pc}(h:cA F M c 2 v (jm ps))(i:Nat)(hi:i<ps.length):∃b o,b<c∧(∀k,fF 2 v (.i k (i:Int))=some (.p b o))∧load1 F M b o=some (sV ps[i].1):=by
 obtain⟨b,o,h1,h2,h3⟩:=h.at i (by rw[dv];exact hi)
 have e:(jm ps)[i]'(by rw[dv];exact hi)=ve ps[i]:=by simp[jm]
 rw[e]at h3
 have a0:=h3 0 (by simp[ve])
 exact⟨b,o,h1,h2,a0⟩
theorem cg.lk{α:Type}{F F':RO}{R R':Mem→Nat→List V→α→Prop}{sz:Nat}{M M':Mem}{c:Nat}{v:V}{l:List α}(hlk:∀b,look F' M' b=look F M b)(hR:∀e x,R M c e x→R' M' c e x)(h:cg F R sz M c v l):cg F' R' sz M' c v l:=by
 obtain⟨es,h1,h2,h3,h4⟩:=h
 exact⟨es,h1.lk hlk,h2,h3,fun i h h'=>hR _ _ (h4 i h h')⟩
theorem dw.lk{F F':RO}{M M':Mem}{c:Nat}{v:V}{w:List Pc}(hlk:∀b,look F' M' b=look F M b)(h:dw F M c v w):dw F' M' c v w:=⟨h.1.lk hlk,h.2⟩
theorem ff.lk{F F':RO}{M M':Mem}{c:Nat}{v:V}{l:List (List Pc)}(hlk:∀b,look F' M' b=look F M b)(h:ff F M c v l):ff F' M' c v l:=cg.lk hlk (fun e w ⟨x,h1,h2⟩=>⟨x,h1,h2.lk hlk⟩) h
theorem jg.lk{F F':RO}{M M':Mem}{c:Nat}{v:V}{l:List (List (List Pc))}(hlk:∀b,look F' M' b=look F M b)(h:jg F M c v l):jg F' M' c v l:=cg.lk hlk (fun e w ⟨x,h1,h2⟩=>⟨x,h1,h2.lk hlk⟩) h
abbrev Tm(u:List (Option V))(x1 x3 x7 x8 x9:V):T:=(.n (.n (.n (.n (fq u 31 15 47) (some x7) (fq u 39 23 55)) (some x3) (aq u 35 19 51 11 43 27 59)) (some x1) (.n (.n (fq u 33 17 49) (some x9) (fq u 41 25 57)) (uO u 5) (aq u 37 21 53 13 45 29 61))) (uO u 0) (.n (.n (.n (fq u 32 16 48) (some x8) (fq u 40 24 56)) (uO u 4) (aq u 36 20 52 12 44 28 60)) (uO u 2) (.n (aq u 34 18 50 10 42 26 58) (uO u 6) (aq u 38 22 54 14 46 30 62))))
def am7:CC:=(.reg [(aa a1 (.bx 36 1 z0)),(qq a2 (.mv xF))])
def am8:CC:=(.reg [(qq a3 (.mv xF))])
def am9:CC:=(.reg [(qq a6 (.fa 0 z1)),(qq a7 (.ld1 z6)),(qq a8 (.ln .slice z7)),(qq a9 (.mv (x6 0)))])
def an0:CC:=(.reg [(qq dT (.bi .lss z9 z8))])
def an1:CC:=(.reg [(qq eP (.iaS 2 z7 z9)),(qq fg (.ldn 2 dL)),(aa a5 (.al 64 [(.s 0 0),(.b false)])),(ez (.st 2 z5 eN))])
def an2:CC:=(.reg [(qq fh (.fa 1 z5)),(qq dM (.ld1 gb)),(qq fu (.mv gK)),(aF gL (.fa 0 z5) fu),(aF fy (.ld1 iB) fu),(aF jr (.bi .neq iC (.c (.s 0 0))) fu),(qq gH (.pk iA l8 xF)),(qq eQ (.mv la))])
def an3:CC:=(.reg [(qq fY (.fa 1 z5)),(qq jt (.ld1 kL)),(qq gU (.un .not lA)),(qq jX (.mv lg)),(aF gv (.mv z3) jX),(qq kd (.pk kM lB xF)),(qq eQ (.mv nl))])
def an4:CC:=(.reg [(qq gV (.fa 1 z5)),(qq lE (.ld1 nn)),(qq ip (.un .not nK)),(qq ke (.mv ot)),(aF lj (.fa 0 z5) ke),(aF np (.ld1 pq) ke),(aF nM (.bi .eql pz (.c (.s 0 0))) ke),(qq jY (.pk oz ru xF)),(qq jZ (.mv rv)),(aF nN (.fa 0 z1) jZ),(aF k8 (.ld1 sC) jZ),(aF nq (.ln .slice qF) jZ),(aF mN (.bi .gtr rU (x6 1)) jZ),(qq pC (.pk rx rV xF)),(qq eQ (.mv sD))])
def an5:CC:=(.reg [(qq js (.fa 0 z5)),(qq lF (.ld1 ry)),(ee pD (.call 77 [sE,(.c (.f 78 [] []))])),(qq ng (.un .not sF)),(qq eQ (.mv rW))])
def PH:CC:=(.cond ed .skip (.seq an4 (.cond ed .skip an5)))
def PI:CC:=(.seq an2 (.cond ed .skip (.seq an3 PH)))
def PJ:CC:=(.seq (.reg [(qq a2 (.mv xF))]) .ret)
def PK:CC:=(.block 2 (.seq PI (.cond ed PJ .skip)))
def PL:CC:=(.reg [(qq pE (.fa 1 z5)),(qq lG (.ld1 rX)),(qq pF (.un .not vm)),(qq a3 (.mv sG))])
def PM:CC:=(.reg [(qq kQ (.bi .add z9 (x6 1))),(qq a9 (.mv uE))])
def PN:CC:=(.seq (.cond ft .skip (.exit 0)) (.seq (.block 1 (.seq an1 (.seq PK PL))) PM))
def PP:CC:=(.reg [(qq nh (.fa 0 z1)),(qq px (.ld1 vn)),(qq rA (.ln .slice vp)),(qq oD (.bi .gtr uM (x6 0))),(qq a2 (.mv vq))])
def PQ:CC:=(.seq (.seq am9 (.block 0 (.loop (.seq an0 PN)))) (.seq PP .ret))
def F5:CF:= .mk 6 [.t a2] (.seq am7 (.seq am8 PQ))
theorem e61(v0:V):bz 6 [v0]=(.n qw (some v0) qw):=rfl
def Vi:=ai @e61 (ai (wu am7.eq_1) (ai (wu am8.eq_1) (ai (wu am9.eq_1) (ai (wu an0.eq_1) (ai (wu an1.eq_1) (ai (wu an2.eq_1) (ai (wu an3.eq_1) (ai (wu an4.eq_1) (ai (wu an5.eq_1) (ai (wu PH.eq_1) (ai (wu PI.eq_1) (ai (wu PJ.eq_1) (ai (wu PK.eq_1) (ai (wu PL.eq_1) (ai (wu PM.eq_1) (ai (wu PN.eq_1) (ai (wu PP.eq_1) (wu PQ.eq_1))))))))))))))))))
def pJ(n:Nat)(tx:Bool)(p:Pc):Bool:=(p.2&& !decide (p.1=[]))||((!p.2&&tx)||((!p.2&&(decide (p.1=[])&&decide (1<n)))|| !(p.1.all ka)))
def iZ(n:Nat):Bool→List Pc→Bool
 |_,[]=>true
 |tx,p::r=> !pJ n tx p&&iZ n (!p.2) r
def cP(w:List Pc):Bool:=iZ w.length false w&&decide (0<w.length)
theorem dS{M:Mem}{c ty:Nat}{d vs:List V}(hl:vs.length=d.length)(h1:aL vs=true):bS (M.set c (af ty d)) c 0 vs=some (M.set c (af ty vs)):=by
 rw[aJ (am M c (af ty d)) 0 vs (by omega) h1,pj,tS hl.symm]
theorem bA2(s:List UInt8):h77 [sV s,.f 78 [] []]=if s.length≤1000000 then some (.b (s.all ka))else none:=by
 show(qM (sV s)).bind _=_
 rw[lJ,Option.bind_some]
theorem w61(Φ:Nat→Option CF)(h:Φ 61=some F5)(h77:Φ 77=some (.orc (aO h77))){F:RO}{M:Mem}{c:Nat}(ok:cK F M c){v:V}{w:List Pc}(hw:dw F M c v w)(hp:∀p∈w,p.1.length≤1000000):
 Calls Φ F 61 [.g [v]] M c fun r M' c'=>r= .b (cP w)∧Gr c M c' M':=by
 refine aN h ?_
 obtain⟨y1,y2,y3⟩:=hw.one
 have hG:∀v,flatten (V.g [v])=[v]:=fun _=>rfl
 have gX:=(Gr.refl ok).set c (af 36 [v]) (aj _) (ay _) (aH _)
 have m0:(M.set c (af 36 [v])).get c=some (af 36 [v]):=am _ _ _
 have n1:=hw.len
 have mx1:w.length≤9223372036854775807:=hw.2
 have hX:=hw.grow gX
 have k0:load1 F (M.set c (af 36 [v])) c 0=some v:=au m0 0
 simp only[WX,Vi,hG,y3,k0,n1]
 generalize M.set c (af 36 [v])=X at gX m0 hX⊢
 clear k0
 obtain⟨I,hI⟩:∃I:Nat→St→Prop,∀n s',I n s'↔(∃(i c1:Nat) (tx:Bool) (M1:Mem) (u:List (Option V)),n=w.length-i∧i≤w.length∧s'= .mk ((Tm u (.p c 0) (.b tx) v (.i .i64 (w.length:Int)) (.i .i64 (i:Int)))) [] M1 c1∧Gr (c+1) X c1 M1∧iZ w.length false w=iZ w.length tx (w.drop i)):=⟨fun n s'=>_,fun _ _=>Iff.rfl⟩
 refine bw I ?_ w.length _ ((hI _ _).2 ⟨0,_,_,_,(X1 (G1 (X1 (G1 (X2 (X1 (G2 (G1 (bK (bB (X4 (X1 [])))))))))))),rfl,ax _,rfl,Gr.refl (gX.ok ok),rfl⟩)
 intro n s' hIs
 obtain⟨i,c1,tx,M1,u,rfl,hi,rfl,gr1,hf⟩:=(hI _ _).1 hIs
 clear hIs
 have k0:load1 F M1 c 0=some v:=(gr1.load1 (by omega) _).trans (au m0 0)
 by_cases hlt:i<w.length
 ·have q8:cz .add (.i .i64 (i:Int)) (.i .i64 1)=some (.i .i64 ((i+1:Nat):Int)):=by rw[aX _ _ (by omega) (by omega)];simp
  have d1:decide ((i:Int)<(w.length:Int))=true:=ah (by omega);obtain⟨b,o,hb,ia,ld1⟩:=wj (hX.grow gr1).1 i hlt;have ia:=ia .i64;have hd:w.drop i=w[i]::w.drop (i+1):=bX hlt;rw[hd,iZ]at hf;have hl1:=hp w[i] (List.getElem_mem _);generalize w[i]=p at ld1 hf hl1;obtain⟨tx1,st⟩:=p;unfold ve at ld1;have sn:bS (M1.set c1 (af 64 [V.s 0 0,V.b false])) c1 0 [sV tx1,.b st]=some (M1.set c1 (af 64 [sV tx1,.b st])):=dS rfl rfl;have m1:(M1.set c1 (af 64 [sV tx1,.b st])).get c1=some (af 64 [sV tx1,.b st]):=am _ _ _;have g1:=gr1.set c1 (af 64 [sV tx1,.b st]) gr1.le (ay _) (aH _);have p0:load1 F (M1.set c1 (af 64 [sV tx1,.b st])) c1 0=some (sV tx1):=au m1 0;have p1:load1 F (M1.set c1 (af 64 [sV tx1,.b st])) c1 1=some (.b st):=au m1 1;have k1:load1 F (M1.set c1 (af 64 [sV tx1,.b st])) c 0=some v:=(g1.load1 (by omega) _).trans (au m0 0);have qn:=nR tx1 [];have qe:=cG tx1 [];have e0:V.s 0 0=sV []:=rfl;rw[←e0]at qn qe;have hh:=bA2 tx1;rw[ac hl1]at hh;have STEP:iZ w.length false w=(!pJ w.length tx (tx1,st)&&iZ w.length (!st) (w.drop (i+1))):=hf;have BAD:pJ w.length tx (tx1,st)=true→cP w=false:=by
   intro hb;unfold cP;rw[STEP,hb];rfl
  have GOOD:pJ w.length tx (tx1,st)=false→iZ w.length false w=iZ w.length (!st) (w.drop (i+1)):=by
   intro hb;rw[STEP,hb];rfl
  unfold pJ at BAD GOOD;generalize M1.set c1 (af 64 [sV tx1,.b st])=Y at sn p0 p1 k1 g1;have FIN:∀(M2:Mem) (c2:Nat),Gr (c+1) X c2 M2→Gr c M c2 M2:=fun _ _ g=>gX.trans g;cases st with
  |true=>
   by_cases ht:tx1=[]
   ·rw[ah ht]at qe qn;cases ha:tx1.all ka with
    |true=>
     rw[ha]at hh;simp only[WX,Nat.reduceAdd,Vi,d1,ia,ld1,sn,p0,p1,qn,h77,hh,q8];exact⟨w.length-(i+1),by omega,(hI _ _).2 ⟨i+1,_,_,_,(X1 (G1 (X1 (G1 (X2 (X1 (G2 (G1 (bK (bB (X4 (X1 [])))))))))))),rfl,hlt,rfl,g1,GOOD (by rw[ha,ah ht];rfl)⟩⟩
    |false=>
     rw[ha]at hh;simp only[WX,Nat.reduceAdd,Vi,d1,ia,ld1,sn,p0,p1,qn,h77,hh];exact⟨by rw[BAD (by rw[ha];simp)],FIN _ _ g1⟩
   ·rw[ag ht]at qe qn;simp only[WX,Nat.reduceAdd,Vi,d1,ia,ld1,sn,p0,p1,qn];exact⟨by rw[BAD (by rw[ag ht];rfl)],FIN _ _ g1⟩
  |false=>
   cases tx with
   |true=>
    simp only[WX,Nat.reduceAdd,Vi,d1,ia,ld1,sn,p1];exact⟨by rw[BAD rfl],FIN _ _ g1⟩
   |false=>
    by_cases ht:tx1=[]
    ·rw[ah ht]at qe qn;by_cases h1:1<w.length
     ·have d2:decide ((1:Int)<(w.length:Int))=true:=ah (by omega);simp only[WX,Nat.reduceAdd,Vi,d1,d2,ia,ld1,sn,p0,p1,qe,k1,n1];exact⟨by rw[BAD (by rw[ah ht,ah h1];simp)],FIN _ _ g1⟩
     ·have d2:decide ((1:Int)<(w.length:Int))=false:=ag (by omega);have ha:tx1.all ka=true:=by rw[ht];rfl
      rw[ha]at hh;simp only[WX,Nat.reduceAdd,Vi,d1,d2,ia,ld1,sn,p0,p1,qe,k1,h77,hh,n1,q8];exact⟨w.length-(i+1),by omega,(hI _ _).2 ⟨i+1,_,_,_,(X1 (G1 (X1 (G1 (X2 (X1 (G2 (G1 (bK (bB (X4 (X1 [])))))))))))),rfl,hlt,rfl,g1,GOOD (by rw[ha,ag h1];simp)⟩⟩
    ·rw[ag ht]at qe qn;cases ha:tx1.all ka with
     |true=>
      rw[ha]at hh;simp only[WX,Nat.reduceAdd,Vi,d1,ia,ld1,sn,p0,p1,qe,h77,hh,q8];exact⟨w.length-(i+1),by omega,(hI _ _).2 ⟨i+1,_,_,_,(X1 (G1 (X1 (G1 (X2 (X1 (G2 (G1 (bK (bB (X4 (X1 [])))))))))))),rfl,hlt,rfl,g1,GOOD (by rw[ha,ag ht];simp)⟩⟩
     |false=>
      rw[ha]at hh;simp only[WX,Nat.reduceAdd,Vi,d1,ia,ld1,sn,p0,p1,qe,h77,hh];exact⟨by rw[BAD (by rw[ha];simp)],FIN _ _ g1⟩
 ·obtain rfl:i=w.length:=by omega
  have d1:decide ((w.length:Int)<(w.length:Int))=false:=ag (by omega);rw[cm]at hf;have hff:cP w=decide ((0:Int)<(w.length:Int)):=by
   unfold cP;rw[hf];simp[iZ]
  simp only[WX,Vi,d1,k0,n1];exact⟨by rw[hff],gX.trans gr1⟩
abbrev Gg(u:List (Option V))(x1 x3 x4:V):T:=(.n (.n (.n (.n (aq u 63 31 95 15 79 47 111) (uO u 7) (aq u 71 39 103 23 87 55 119)) (some x3) (.n (aq u 67 35 99 19 83 51 115) (uO u 11) (aq u 75 43 107 27 91 59 123))) (some x1) (.n (.n (aq u 65 33 97 17 81 49 113) (uO u 9) (aq u 73 41 105 25 89 57 121)) (uO u 5) (.n (aq u 69 37 101 21 85 53 117) (uO u 13) (aq u 77 45 109 29 93 61 125)))) (uO u 0) (.n (.n (.n (aq u 64 32 96 16 80 48 112) (uO u 8) (aq u 72 40 104 24 88 56 120)) (some x4) (.n (aq u 68 36 100 20 84 52 116) (uO u 12) (aq u 76 44 108 28 92 60 124))) (uO u 2) (.n (.n (aq u 66 34 98 18 82 50 114) (uO u 10) (aq u 74 42 106 26 90 58 122)) (uO u 6) (.n (aq u 70 38 102 22 86 54 118) (uO u 14) (aq u 78 46 110 30 94 62 126)))))
abbrev aD9(u:List (Option V))(x2:V):T:=(.n (.n (.n (.n (aq u 63 31 95 15 79 47 111) (uO u 7) (aq u 71 39 103 23 87 55 119)) (uO u 3) (.n (aq u 67 35 99 19 83 51 115) (uO u 11) (aq u 75 43 107 27 91 59 123))) (uO u 1) (.n (.n (aq u 65 33 97 17 81 49 113) (uO u 9) (aq u 73 41 105 25 89 57 121)) (uO u 5) (.n (aq u 69 37 101 21 85 53 117) (uO u 13) (aq u 77 45 109 29 93 61 125)))) (uO u 0) (.n (.n (.n (aq u 64 32 96 16 80 48 112) (uO u 8) (aq u 72 40 104 24 88 56 120)) (uO u 4) (.n (aq u 68 36 100 20 84 52 116) (uO u 12) (aq u 76 44 108 28 92 60 124))) (some x2) (.n (.n (aq u 66 34 98 18 82 50 114) (uO u 10) (aq u 74 42 106 26 90 58 122)) (uO u 6) (.n (aq u 70 38 102 22 86 54 118) (uO u 14) (aq u 78 46 110 30 94 62 126)))))
abbrev nH(u:List (Option V))(x1 x3 x4 x5:V):T:=(.n (.n (.n (.n (aq u 63 31 95 15 79 47 111) (uO u 7) (aq u 71 39 103 23 87 55 119)) (some x3) (.n (aq u 67 35 99 19 83 51 115) (uO u 11) (aq u 75 43 107 27 91 59 123))) (some x1) (.n (.n (aq u 65 33 97 17 81 49 113) (uO u 9) (aq u 73 41 105 25 89 57 121)) (some x5) (.n (aq u 69 37 101 21 85 53 117) (uO u 13) (aq u 77 45 109 29 93 61 125)))) (uO u 0) (.n (.n (.n (aq u 64 32 96 16 80 48 112) (uO u 8) (aq u 72 40 104 24 88 56 120)) (some x4) (.n (aq u 68 36 100 20 84 52 116) (uO u 12) (aq u 76 44 108 28 92 60 124))) (uO u 2) (.n (.n (aq u 66 34 98 18 82 50 114) (uO u 10) (aq u 74 42 106 26 90 58 122)) (uO u 6) (.n (aq u 70 38 102 22 86 54 118) (uO u 14) (aq u 78 46 110 30 94 62 126)))))
abbrev bG8(u:List (Option V))(x1 x3:V):T:=(.n (.n (.n (.n (aq u 63 31 95 15 79 47 111) (uO u 7) (aq u 71 39 103 23 87 55 119)) (some x3) (.n (aq u 67 35 99 19 83 51 115) (uO u 11) (aq u 75 43 107 27 91 59 123))) (some x1) (.n (.n (aq u 65 33 97 17 81 49 113) (uO u 9) (aq u 73 41 105 25 89 57 121)) (uO u 5) (.n (aq u 69 37 101 21 85 53 117) (uO u 13) (aq u 77 45 109 29 93 61 125)))) (uO u 0) (.n (.n (.n (aq u 64 32 96 16 80 48 112) (uO u 8) (aq u 72 40 104 24 88 56 120)) (uO u 4) (.n (aq u 68 36 100 20 84 52 116) (uO u 12) (aq u 76 44 108 28 92 60 124))) (uO u 2) (.n (.n (aq u 66 34 98 18 82 50 114) (uO u 10) (aq u 74 42 106 26 90 58 122)) (uO u 6) (.n (aq u 70 38 102 22 86 54 118) (uO u 14) (aq u 78 46 110 30 94 62 126)))))
def ao2:CC:=(.reg [(aa a1 (.bx 36 1 z0)),(qq a2 (.mv xF))])
def bO7:=wu ao2.eq_1
def ao3:CC:=(.reg [(qq a3 (.mv (x6 0)))])
def bO8:=wu ao3.eq_1
def ao4:CC:=(.reg [(qq a6 (.mv z3)),(qq a7 (.fa 0 z1)),(qq a8 (.ld1 z7)),(qq a9 (.ln .slice z8)),(qq dT (.bi .lss z6 z9))])
def jd:=wu ao4.eq_1
def ao5:CC:=(.reg [(qq eQ (.fa 0 z1)),(qq fh (.ld1 ed)),(qq dM (.mv z3)),(qq fu (.iaS 2 gb gK)),(qq gL (.ldn 2 iA)),(aa a4 (.al 64 [(.s 0 0),(.b false)])),(ez (.st 2 z4 iB))])
def jP:=wu ao5.eq_1
def ao6:CC:=(.reg [(qq fy (.fa 1 z4)),(qq jr (.ld1 iC)),(qq gH (.mv l8)),(aF fY (.fa 0 z4) gH),(aF jt (.ld1 kL) gH),(aF gU (.bi .neq lA (.c (.s 0 0))) gH),(qq jX (.pk la lg xF)),(qq gv (.mv kM)),(aA kd (.fa 1 z4) gv),(aA gV (.ld1 nl) gv),(aA lE (.un .not nn) gv),(aA ip (.mv nK) gv),(aF ke (.fa 0 z4) ip),(aF lj (.ld1 oz) ip),(aF np (.bi .eql pq (.c (.s 0 0))) ip),(aA nM (.pk ot pz xF) gv),(aA jY (.mv ru) gv),(aF jZ (.fa 0 z1) jY),(aF nN (.ld1 rx) jY),(aF k8 (.ln .slice sC) jY),(aF nq (.bi .gtr qF (x6 1)) jY),(aA mN (.pk rv rU xF) gv),(qq pC (.pk lB xT rV)),(qq js (.mv sD)),(aA lF (.mv z3) js),(aA pD (.bi .gtr sE (x6 0)) js),(aA ng (.mv sF) js),(aF pE (.fa 1 z4) ng),(aF lG (.ld1 rX) ng),(aF pF (.un .not vm) ng),(aA kQ (.pk rW sG xF) js),(aA nh (.mv uE) js),(aF px (.fa 0 z1) nh),(aF rA (.ld1 vp) nh),(aF oD (.mv z3) nh),(aF sP (.bi .sub vq (x6 1)) nh),(aF pG (.iaS 2 uM wM) nh),(aF pH (.fa 1 za) nh),(aF uI (.ld1 zl) nh),(aF vw (.un .not wN) nh),(aA vz (.pk vn Bx xF) js),(qq rZ (.pk ry xT Bd))])
def jQ:=wu ao6.eq_1
def ao7:CC:=(.seq (.reg [(qq a2 (.mv xF))]) .ret)
def uu:=wu ao7.eq_1
def ao8:CC:=(.seq ao6 (.cond Be ao7 .skip))
def jT:=wu ao8.eq_1
def ao9:CC:=(.reg [(qq a5 (.mv (x6 0)))])
def uv:=wu ao9.eq_1
def PW:CC:=(.reg [(qq vA (.mv z5)),(qq s5 (.fa 0 z4)),(qq sQ (.ld1 Bz)),(qq ou (.ln .str Bg)),(qq vC (.bi .lss Bf zm))])
def bO9:=wu PW.eq_1
def CD:CC:=(.cond BA .skip (.exit 2))
def bk7:=wu CD.eq_1
def PR:CC:=(.reg [(qq qJ (.fa 0 z4)),(qq uU (.ld1 wO)),(qq uV (.mv z5)),(qq vD (.ixS zo zp)),(ee py (.call 69 [BB])),(qq vE (.un .not Bh))])
def bk8:=wu PR.eq_1
def PS:CC:=(.seq (.reg [(qq a2 (.mv xF))]) .ret)
def bk9:=wu PS.eq_1
def CE:CC:=(.seq PR (.cond BC PS .skip))
def bl0:=wu CE.eq_1
def CG:CC:=(.reg [(qq uT (.mv z5)),(qq oE (.bi .add zb (x6 1))),(qq a5 (.mv zn))])
def bl1:=wu CG.eq_1
def xI:CC:=(.loop (.seq (.seq PW CD) (.seq (.block 3 CE) CG)))
def bl2:=wu xI.eq_1
def PT:CC:=(.block 1 (.seq ao5 (.seq ao8 (.seq ao9 (.block 2 xI)))))
def gu:=wu PT.eq_1
def CI:CC:=(.reg [(qq eP (.mv z3)),(qq fg (.bi .add dL (x6 1))),(qq a3 (.mv eN))])
def bl3:=wu CI.eq_1
def PU:CC:=(.seq (.seq ao4 (.cond ft .skip (.exit 0))) (.seq PT CI))
def fV:=wu PU.eq_1
def CJ:CC:=(.reg [(qq fA (.fa 0 z1)),(qq qK (.ld1 uF)),(qq uJ (.ln .slice BD)),(qq wW (.bi .gtr BE (x6 0))),(qq a2 (.mv BF))])
def UT:=wu CJ.eq_1
def PV:CC:=(.seq (.seq ao3 (.block 0 (.loop PU))) (.seq CJ .ret))
def bl4:=wu PV.eq_1
def c64:CF:= .mk 7 [.t a2] (.seq ao2 PV)
theorem e64(v0:V):bz 7 [v0]=(.n vg (some v0) vg):=rfl
def B64:=ai @e64 (ai @bO7 (ai @bO8 (ai @jd (ai @jP (ai @jQ (ai @uu (ai @jT (ai @uv (ai @bO9 (ai @bk7 (ai @bk8 (ai @bk9 (ai @bl0 (ai @bl1 (ai @bl2 (ai @gu (ai @bl3 (ai @fV (ai @UT (@bl4))))))))))))))))))))
def o5(w:List Pc):Nat→Bool
 |0=>false
 |i+1=> !((w[i]?).getD ([],true)).2
theorem Sy{w:List Pc}{i:Nat}(h0:0<i)(h1:i-1<w.length):o5 w i= !(w[i-1]).2:=by
 cases i with
 |zero=>cases h0
 |succ k=>have h2:k<w.length:=h1;show(!((w[k]?).getD ([],true)).2)=_;rw[List.getElem?_eq_getElem h2];rfl
theorem aV1{F:RO}{M:Mem}{c:Nat}{v:V}{ps:List Pc}(h:cA F M c 2 v (jm ps))(i:Nat)(hi:i<ps.length):∃b o,b<c∧(∀k,fF 2 v (.i k (i:Int))=some (.p b o))∧load1 F M b (o+1)=some (.b ps[i].2):=by
 obtain⟨b,o,h1,h2,h3⟩:=h.at i (by rw[dv];exact hi)
 have e:(jm ps)[i]'(by rw[dv];exact hi)=ve ps[i]:=by simp[jm]
 rw[e]at h3
 have a0:=h3 1 (by simp[ve])
 exact⟨b,o,h1,h2,a0⟩
theorem l64(Φ:Nat→Option CF)(h69:Φ 69=some (.orc (aO h78))){F:RO}{M:Mem}{c b i c1:Nat}{s:List UInt8}(hs:s.length≤1000000)(p0:load1 F M b 0=some (sV s))(u:List (Option V))(Q:Ex→St→Prop)
 (hQ:s.all ka=true→ ∀u:List (Option V),Q (.ext 2) (.mk ((Gg u (.p c 0) (.i .i64 (i:Int)) (.p b 0))) [] M c1))
 (hR:s.all ka=false→ ∀u:List (Option V),Q .ret (.mk ((aD9 u (.b false))) [] M c1)):
 Wp xI (K Φ none 64 F) (.mk ((nH u (.p c 0) (.i .i64 (i:Int)) (.p b 0) (.i .i64 0))) [] M c1) Q:=by
 show Wp (.loop (.seq (.seq PW CD) (.seq (.block 3 CE) CG))) _ _ _
 obtain⟨I,hI⟩:∃I:Nat→St→Prop,∀n s',I n s'↔(∃(j:Nat) (u:List (Option V)),n=s.length-j∧j≤s.length∧s'= .mk ((nH u (.p c 0) (.i .i64 (i:Int)) (.p b 0) (.i .i64 (j:Int)))) [] M c1∧s.all ka=(s.drop j).all ka):=⟨fun n s'=>_,fun _ _=>Iff.rfl⟩
 refine bw I ?_ s.length _ ((hI _ _).2 ⟨0,(X1 (G1 (X1 (G2 (G1 (bD (bK (bB (X8 (X1 [])))))))))),rfl,ax _,rfl,rfl⟩)
 intro n s' hIs
 obtain⟨j,u,rfl,hj,rfl,hb⟩:=(hI _ _).1 hIs
 clear hIs
 by_cases hlt:j<s.length
 ·have q8:cz .add (.i .i64 (j:Int)) (.i .i64 1)=some (.i .i64 ((j+1:Nat):Int)):=by rw[aX _ _ (by omega) (by omega)];simp
  have d1:decide ((j:Int)<(s.length:Int))=true:=ah (by omega);have hix:rK (sV s) (.i .i64 (j:Int))=some (bV s[j]):=ye s .i64 j hlt;have hd:s.drop j=s[j]::s.drop (j+1):=bX hlt;have hh:=RF s[j];rw[hd,List.all_cons]at hb;cases ho:ka s[j]with
  |true=>
   rw[ho]at hh hb;simp only[WX,B64,p0,d1,hix,h69,hh,q8];exact⟨s.length-(j+1),by omega,(hI _ _).2 ⟨j+1,(X1 (G1 (X1 (G2 (G1 (bD (bK (bB (X8 (X1 [])))))))))),rfl,by omega,rfl,hb⟩⟩
  |false=>
   rw[ho]at hh hb;simp only[WX,B64,p0,d1,hix,h69,hh];exact hR hb (X2 (G1 (bD (bK (bB (X8 (X4 [])))))))
 ·obtain rfl:j=s.length:=by omega
  have d1:decide ((s.length:Int)<(s.length:Int))=false:=ag (by omega);simp only[WX,B64,p0,d1];exact hQ (by rw[hb,cm];rfl) (X1 (G1 (X1 (G2 (bD (bK (bB (X8 (X2 [])))))))))
theorem w64(Φ:Nat→Option CF)(h:Φ 64=some c64)(h69:Φ 69=some (.orc (aO h78))){F:RO}{M:Mem}{c:Nat}(ok:cK F M c){v:V}{w:List Pc}(hw:dw F M c v w)(hp:∀p∈w,p.1.length≤1000000):
 Calls Φ F 64 [.g [v]] M c fun r M' c'=>r= .b (cP w)∧Gr c M c' M':=by
 refine aN h ?_
 obtain⟨y1,y2,y3⟩:=hw.one
 have hG:∀v,flatten (V.g [v])=[v]:=fun _=>rfl
 have gX:=(Gr.refl ok).set c (af 36 [v]) (aj _) (ay _) (aH _)
 have m0:(M.set c (af 36 [v])).get c=some (af 36 [v]):=am _ _ _
 have n1:=hw.len
 have mx1:w.length≤9223372036854775807:=hw.2
 have hX:=hw.grow gX
 simp only[WX,B64,hG,y3]
 generalize M.set c (af 36 [v])=X at gX m0 hX⊢
 obtain⟨I,hI⟩:∃I:Nat→St→Prop,∀n s',I n s'↔(∃(i c1:Nat) (M1:Mem) (u:List (Option V)),n=w.length-i∧i≤w.length∧s'= .mk ((bG8 u (.p c 0) (.i .i64 (i:Int)))) [] M1 c1∧Gr (c+1) X c1 M1∧iZ w.length false w=iZ w.length (o5 w i) (w.drop i)):=⟨fun n s'=>_,fun _ _=>Iff.rfl⟩
 refine bw I ?_ w.length _ ((hI _ _).2 ⟨0,_,_,(X1 (G1 (X1 (G1 (bD (bK (bB (X8 (X2 (X1 [])))))))))),rfl,ax _,rfl,Gr.refl (gX.ok ok),rfl⟩)
 intro n s' hIs
 obtain⟨i,c1,M1,u,rfl,hi,rfl,gr1,hf⟩:=(hI _ _).1 hIs
 clear hIs
 have k0:load1 F M1 c 0=some v:=(gr1.load1 (by omega) _).trans (au m0 0)
 by_cases hlt:i<w.length
 ·have q8:cz .add (.i .i64 (i:Int)) (.i .i64 1)=some (.i .i64 ((i+1:Nat):Int)):=by rw[aX _ _ (by omega) (by omega)];simp
  have d1:decide ((i:Int)<(w.length:Int))=true:=ah (by omega);obtain⟨b,o,hb,ia,ld1⟩:=wj (hX.grow gr1).1 i hlt;have ia:=ia .i64;have hd:w.drop i=w[i]::w.drop (i+1):=bX hlt;rw[hd,iZ]at hf;have hl1:=hp w[i] (List.getElem_mem _);have hnx:o5 w (i+1)= !w[i].2:=by show(!((w[i]?).getD ([],true)).2)=_;rw[List.getElem?_eq_getElem hlt];rfl
  have PRV:0<i→ ∃b' o',cz .sub (.i .i64 (i:Int)) (.i .i64 1)=some (.i .i64 ((i-1:Nat):Int))∧fF 2 v (.i .i64 ((i-1:Nat):Int))=some (.p b' o')∧b'<c1∧load1 F M1 b' (o'+1)=some (.b (!o5 w i)):=by
   intro h0;obtain⟨b',o',hb',ia',ld'⟩:=aV1 (hX.grow gr1).1 (i-1) (by omega);refine⟨b',o',?_,ia' .i64,hb',?_⟩
   ·rw[xL,mJ (by omega) (by omega)];congr 2;omega
   ·rw[ld',Sy h0 (by omega),Bool.not_not]
  generalize w[i]=p at ld1 hf hl1 hnx;obtain⟨tx1,st⟩:=p;unfold ve at ld1;have sn:bS (M1.set c1 (af 64 [V.s 0 0,V.b false])) c1 0 [sV tx1,.b st]=some (M1.set c1 (af 64 [sV tx1,.b st])):=dS rfl rfl;have m1:(M1.set c1 (af 64 [sV tx1,.b st])).get c1=some (af 64 [sV tx1,.b st]):=am _ _ _;have g1':=(Gr.refl (gr1.ok (gX.ok ok))).set c1 (af 64 [sV tx1,.b st]) (aj _) (ay _) (aH _);have g1:=gr1.trans g1';have p0:load1 F (M1.set c1 (af 64 [sV tx1,.b st])) c1 0=some (sV tx1):=au m1 0;have p1:load1 F (M1.set c1 (af 64 [sV tx1,.b st])) c1 1=some (.b st):=au m1 1;have k1:load1 F (M1.set c1 (af 64 [sV tx1,.b st])) c 0=some v:=(g1.load1 (by omega) _).trans (au m0 0);have qn:=nR tx1 [];have qe:=cG tx1 [];have e0:V.s 0 0=sV []:=rfl;rw[←e0]at qn qe;have STEP:iZ w.length false w=(!pJ w.length (o5 w i) (tx1,st)&&iZ w.length (o5 w (i+1)) (w.drop (i+1))):=by rw[hnx];exact hf
  have BAD:pJ w.length (o5 w i) (tx1,st)=true→cP w=false:=by
   intro hb;unfold cP;rw[STEP,hb];rfl
  have GOOD:pJ w.length (o5 w i) (tx1,st)=false→iZ w.length false w=iZ w.length (o5 w (i+1)) (w.drop (i+1)):=by
   intro hb;rw[STEP,hb];rfl
  unfold pJ at BAD GOOD;generalize M1.set c1 (af 64 [sV tx1,.b st])=Y at sn p0 p1 k1 g1 g1';have FIN:∀(M2:Mem) (c2:Nat),Gr (c+1) X c2 M2→Gr c M c2 M2:=fun _ _ g=>gX.trans g;have P2:0<i→ ∃b' o',cz .sub (.i .i64 (i:Int)) (.i .i64 1)=some (.i .i64 ((i-1:Nat):Int))∧fF 2 v (.i .i64 ((i-1:Nat):Int))=some (.p b' o')∧load1 F Y b' (o'+1)=some (.b (!o5 w i)):=by
   intro h0;obtain⟨b',o',h1,h2,h3,h4⟩:=PRV h0;exact⟨b',o',h1,h2,(g1'.load1 h3 _).trans h4⟩
  clear PRV
  have LOOP:∀u:List (Option V),((st&& !decide (tx1=[]))||((!st&&o5 w i)||(!st&&(decide (tx1=[])&&decide (1<w.length)))))=false→Wp xI (K Φ none 64 F) (.mk ((nH u (.p c 0) (.i .i64 (i:Int)) (.p c1 0) (.i .i64 0))) [] Y (c1+1)) (dF 2 (dF 1 (gJ CI (K Φ none 64 F) (jo I (w.length-i) (dF 0 (gJ (CJ.seq CC.ret) (K Φ none 64 F) (nk F [RV.t a2] fun r M' c'=>r=V.b (cP w)∧Gr c M c' M'))))))):=by
   intro u hnb;refine l64 Φ h69 hl1 p0 u _ ?_ ?_
   ·intro ha u;simp only[WX,Nat.reduceEqDiff,reduceCtorEq,B64,q8];exact⟨w.length-(i+1),by omega,(hI _ _).2 ⟨i+1,_,_,(X1 (G1 (X1 (G1 (bD (bK (bB (X8 (X2 (X1 [])))))))))),rfl,hlt,rfl,g1,GOOD (by rw[ha];revert hnb;cases st<;>cases o5 w i<;>cases decide (tx1=[])<;>cases decide (1<w.length)<;>intro hnb<;>first|rfl|exact absurd hnb (by simp))⟩⟩
   ·intro ha u;simp only[WX];exact⟨by rw[BAD (by rw[ha];simp)],FIN _ _ g1⟩
  by_cases h0:0<i
  ·obtain⟨b',o',r1,r2,r3⟩:=P2 h0;have d0:decide ((0:Int)<(i:Int))=true:=ah (by omega);cases st with
   |true=>
    by_cases ht:tx1=[]
    ·rw[ah ht]at qe qn;simp only[WX,Nat.reduceAdd,jd,jP,jQ,jT,uv,gu,fV,d0,d1,ia,ld1,sn,p0,p1,qn,k0,n1];exact LOOP (X1 (G1 (X1 (G2 (G1 (bD (bK (bB (X8 (X1 [])))))))))) (by rw[ah ht];rfl)
    ·rw[ag ht]at qe qn;simp only[WX,Nat.reduceAdd,jd,jP,jQ,uu,jT,gu,fV,d1,ia,ld1,sn,p0,p1,qn,k0,n1];exact⟨by rw[BAD (by rw[ag ht];rfl)],FIN _ _ g1⟩
   |false=>
    by_cases ht:tx1=[]
    ·rw[ah ht]at qe qn;by_cases h1:1<w.length
     ·have d2:decide ((1:Int)<(w.length:Int))=true:=ah (by omega);simp only[WX,Nat.reduceAdd,jd,jP,jQ,uu,jT,gu,fV,d2,d1,ia,ld1,sn,p0,p1,qe,k0,n1,k1];exact⟨by rw[BAD (by rw[ah ht,ah h1];simp)],FIN _ _ g1⟩
     ·have d2:decide ((1:Int)<(w.length:Int))=false:=ag (by omega);cases hv:o5 w i with
      |true=>
       rw[hv]at r3;simp only[WX,Nat.reduceAdd,jd,jP,jQ,uu,jT,gu,fV,d0,r1,r2,r3,d2,d1,ia,ld1,sn,p0,p1,qe,k0,n1,k1];exact⟨by rw[BAD (by rw[hv];rfl)],FIN _ _ g1⟩
      |false=>
       rw[hv]at r3;simp only[WX,Nat.reduceAdd,jd,jP,jQ,jT,uv,gu,fV,d0,r1,r2,r3,d2,d1,ia,ld1,sn,p0,p1,qe,k0,n1,k1];exact LOOP (X1 (G1 (X1 (G2 (G1 (bD (bK (bB (X8 (X1 [])))))))))) (by rw[ah ht,ag h1,hv];rfl)
    ·rw[ag ht]at qe qn;cases hv:o5 w i with
     |true=>
      rw[hv]at r3;simp only[WX,Nat.reduceAdd,jd,jP,jQ,uu,jT,gu,fV,d0,r1,r2,r3,d1,ia,ld1,sn,p0,p1,qe,k0,n1,k1];exact⟨by rw[BAD (by rw[hv];rfl)],FIN _ _ g1⟩
     |false=>
      rw[hv]at r3;simp only[WX,Nat.reduceAdd,jd,jP,jQ,jT,uv,gu,fV,d0,r1,r2,r3,d1,ia,ld1,sn,p0,p1,qe,k0,n1,k1];exact LOOP (X1 (G1 (X1 (G2 (G1 (bD (bK (bB (X8 (X1 [])))))))))) (by rw[ag ht,hv];rfl)
  ·have d0:decide ((0:Int)<(i:Int))=false:=ag (by omega);have hv:o5 w i=false:=by rw[show i=0 by omega];rfl
   rw[hv]at LOOP;cases st with
   |true=>
    by_cases ht:tx1=[]
    ·rw[ah ht]at qe qn;simp only[WX,Nat.reduceAdd,jd,jP,jQ,jT,uv,gu,fV,d0,d1,ia,ld1,sn,p0,p1,qn,k0,n1];exact LOOP (X1 (G1 (X1 (G2 (G1 (bD (bK (bB (X8 (X1 [])))))))))) (by rw[ah ht];rfl)
    ·rw[ag ht]at qe qn;simp only[WX,Nat.reduceAdd,jd,jP,jQ,uu,jT,gu,fV,d1,ia,ld1,sn,p0,p1,qn,k0,n1];exact⟨by rw[BAD (by rw[ag ht];rfl)],FIN _ _ g1⟩
   |false=>
    by_cases ht:tx1=[]
    ·rw[ah ht]at qe qn;by_cases h1:1<w.length
     ·have d2:decide ((1:Int)<(w.length:Int))=true:=ah (by omega);simp only[WX,Nat.reduceAdd,jd,jP,jQ,uu,jT,gu,fV,d2,d1,ia,ld1,sn,p0,p1,qe,k0,n1,k1];exact⟨by rw[BAD (by rw[ah ht,ah h1];simp)],FIN _ _ g1⟩
     ·have d2:decide ((1:Int)<(w.length:Int))=false:=ag (by omega);simp only[WX,Nat.reduceAdd,jd,jP,jQ,jT,uv,gu,fV,d0,d2,d1,ia,ld1,sn,p0,p1,qe,k0,n1,k1];exact LOOP (X1 (G1 (X1 (G2 (G1 (bD (bK (bB (X8 (X1 [])))))))))) (by rw[ah ht,ag h1];rfl)
    ·rw[ag ht]at qe qn;simp only[WX,Nat.reduceAdd,jd,jP,jQ,jT,uv,gu,fV,d0,d1,ia,ld1,sn,p0,p1,qe,k0,n1];exact LOOP (X1 (G1 (X1 (G2 (G1 (bD (bK (bB (X8 (X1 [])))))))))) (by rw[ag ht];rfl)
 ·obtain rfl:i=w.length:=by omega
  have d1:decide ((w.length:Int)<(w.length:Int))=false:=ag (by omega);rw[cm]at hf;have hff:cP w=decide ((0:Int)<(w.length:Int)):=by
   unfold cP;rw[hf];simp[iZ]
  simp only[WX,jd,fV,UT,d1,k0,n1];exact⟨by rw[hff],gX.trans gr1⟩
abbrev bG9(u:List (Option V))(x1 x3 x4 x5 x6:V):T:=(.n (.n (.n (aq u 31 15 47 7 39 23 55) (some x3) (aq u 35 19 51 11 43 27 59)) (some x1) (.n (aq u 33 17 49 9 41 25 57) (some x5) (aq u 37 21 53 13 45 29 61))) (uO u 0) (.n (.n (aq u 32 16 48 8 40 24 56) (some x4) (aq u 36 20 52 12 44 28 60)) (uO u 2) (.n (aq u 34 18 50 10 42 26 58) (some x6) (aq u 38 22 54 14 46 30 62))))
abbrev aE0(u:List (Option V))(x1 x3 x4 x5 x6 x7:V):T:=(.n (.n (.n (.n (fq u 31 15 47) (some x7) (fq u 39 23 55)) (some x3) (aq u 35 19 51 11 43 27 59)) (some x1) (.n (aq u 33 17 49 9 41 25 57) (some x5) (aq u 37 21 53 13 45 29 61))) (uO u 0) (.n (.n (aq u 32 16 48 8 40 24 56) (some x4) (aq u 36 20 52 12 44 28 60)) (uO u 2) (.n (aq u 34 18 50 10 42 26 58) (some x6) (aq u 38 22 54 14 46 30 62))))
abbrev bH0(u:List (Option V))(x1 x3 x4:V):T:=(.n (.n (.n (aq u 31 15 47 7 39 23 55) (some x3) (aq u 35 19 51 11 43 27 59)) (some x1) (.n (aq u 33 17 49 9 41 25 57) (uO u 5) (aq u 37 21 53 13 45 29 61))) (uO u 0) (.n (.n (aq u 32 16 48 8 40 24 56) (some x4) (aq u 36 20 52 12 44 28 60)) (uO u 2) (.n (aq u 34 18 50 10 42 26 58) (uO u 6) (aq u 38 22 54 14 46 30 62))))
def af2:CC:=(.reg [(aa a1 (.bx 36 1 z0)),(qq a2 (.mv (.c (.s 0 0))))])
def bN6:=wu af2.eq_1
def af3:CC:=(.reg [(qq a3 (.mv (.c (.s 0 0))))])
def bN7:=wu af3.eq_1
def af4:CC:=(.reg [(qq a4 (.mv (x6 0)))])
def bN8:=wu af4.eq_1
def af5:CC:=(.reg [(qq a8 (.mv z4)),(qq a9 (.fa 0 z1)),(qq dT (.ld1 z9)),(qq eP (.ln .slice ft)),(qq fg (.bi .lss z8 dL))])
def aJ2:=wu af5.eq_1
def af6:CC:=(.reg [(qq dM (.fa 0 z1)),(qq fu (.ld1 gK)),(qq gL (.mv z4)),(qq fy (.iaS 2 iA iB)),(qq jr (.ldn 2 iC)),(aa a5 (.al 64 [(.s 0 0),(.b false)])),(ez (.st 2 z5 l8))])
def aJ3:=wu af6.eq_1
def af7:CC:=(.reg [(qq gH (.fa 0 z5)),(qq fY (.ld1 la)),(qq jt (.bi .neq kL (.c (.s 0 0)))),(qq a6 (.mv lA))])
def aJ4:=wu af7.eq_1
def af8:CC:=(.reg [(qq a7 (.mv (x6 0)))])
def aJ5:=wu af8.eq_1
def af9:CC:=(.reg [(qq gU (.mv z7)),(qq jX (.fa 0 z5)),(qq gv (.ld1 kM)),(qq kd (.ln .str lB)),(qq gV (.bi .lss lg nl))])
def bN9:=wu af9.eq_1
def ag0:CC:=(.seq af9 (.cond nn .skip (.exit 2)))
def bO0:=wu ag0.eq_1
def NE:CC:=(.reg [(qq ke (.mv z6)),(qq lj (.mv oz)),(aF np (.fa 0 z5) lj),(aF nM (.ld1 pz) lj),(aF jY (.mv z7) lj),(aF jZ (.ixS ru rv) lj),(lW nN (.call 68 [rx]) lj),(qq k8 (.pk pq sC xF)),(qq a6 (.mv qF))])
def bf0:=wu NE.eq_1
def NF:CC:=(.reg [(qq lE (.mv z7)),(qq ip (.bi .add nK (x6 1))),(qq a7 (.mv ot))])
def bf1:=wu NF.eq_1
def Cu:CC:=(.block 2 (.loop (.seq ag0 (.seq (.block 3 NE) NF))))
def bf2:=wu Cu.eq_1
def NG:CC:=(.reg [(qq nq (.fa 1 z5)),(qq mN (.ld1 rU))])
def bf3:=wu NG.eq_1
def NH:CC:=(.reg [(qq pC (.mv z3)),(qq js (.bi .add sD (.c (.s 2 16164)))),(qq a3 (.mv ry))])
def bf4:=wu NH.eq_1
def NI:CC:=(.reg [(qq lF (.mv z6))])
def bf5:=wu NI.eq_1
def NJ:CC:=(.reg [(qq pD (.mv z3)),(qq ng (.fa 0 z5)),(qq pE (.ld1 rW)),(qq lG (.bi .add sF rX)),(qq a3 (.mv vm))])
def bf6:=wu NJ.eq_1
def NK:CC:=(.reg [(qq pF (.mv z3)),(qq kQ (.bi .add sG (.c (.s 1 39)))),(qq nh (.fa 0 z5)),(qq px (.ld1 vn)),(qq rA (.bi .add uE vp)),(qq oD (.bi .add uM (.c (.s 1 39)))),(qq a3 (.mv vq))])
def bf7:=wu NK.eq_1
def NL:CC:=(.seq NI (.cond sE NJ NK))
def bf8:=wu NL.eq_1
def NM:CC:=(.seq NG (.cond rV NH NL))
def bf9:=wu NM.eq_1
def NN:CC:=(.block 1 (.seq af6 (.seq af7 (.seq (.seq af8 Cu) NM))))
def UF:=wu NN.eq_1
def NP:CC:=(.reg [(qq eQ (.mv z4)),(qq fh (.bi .add ed (x6 1))),(qq a4 (.mv gb))])
def bg0:=wu NP.eq_1
def NQ:CC:=(.seq (.seq af5 (.cond eN .skip (.exit 0))) (.seq NN NP))
def UG:=wu NQ.eq_1
def NR:CC:=(.reg [(qq sP (.mv z3)),(qq a2 (.mv wM))])
def bg1:=wu NR.eq_1
def NS:CC:=(.seq (.seq af4 (.block 0 (.loop NQ))) (.seq NR .ret))
def bg2:=wu NS.eq_1
def W5:CF:= .mk 6 [.t a2] (.seq af2 (.seq af3 NS))
theorem e42(v0:V):bz 6 [v0]=(.n qw (some v0) qw):=rfl
def VA:=ai @e42 (ai @bN6 (ai @bN7 (ai @bN8 (ai @aJ2 (ai @aJ3 (ai @aJ4 (ai @aJ5 (ai @bN9 (ai @bO0 (ai @bf0 (ai @bf1 (ai @bf2 (ai @bf3 (ai @bf4 (ai @bf5 (ai @bf6 (ai @bf7 (ai @bf8 (ai @bf9 (ai @UF (ai @bg0 (ai @UG (ai @bg1 (@bg2))))))))))))))))))))))))
def ak9:CC:=(.reg [(aa a1 (.bx 36 1 z0)),(qq a2 (.mv (.c (.s 0 0))))])
def al0:CC:=(.reg [(aa a3 (.al 99 [.p0,.l0]))])
def al1:CC:=(.reg [(qq a6 (.fa 0 z1)),(qq a7 (.ld1 z6)),(qq a8 (.ln .slice z7)),(qq a9 (.mv (x6 0)))])
def al2:CC:=(.reg [(qq dT (.bi .lss z9 z8))])
def al3:CC:=(.reg [(qq eP (.iaS 2 z7 z9)),(qq fg (.ldn 2 dL)),(aa a5 (.al 64 [(.s 0 0),(.b false)])),(ez (.st 2 z5 eN))])
def al4:CC:=(.reg [(qq jr (.fa 1 z5)),(qq gH (.ld1 l8)),(qq fy (.mv la))])
def al5:CC:=(.reg [(ee fY (.call 52 [z3,(.c (.s 2 16164))]))])
def al6:CC:=(.reg [(qq gU (.fa 0 z5)),(qq jX (.ld1 lg)),(qq gv (.bi .neq kM (.c (.s 0 0)))),(qq kd (.mv lB)),(aF gV (.fa 0 z5) kd),(aF lE (.ld1 nn) kd),(lW ip (.call 77 [nK,(.c (.f 75 [] []))]) kd),(qq ke (.pk nl ot xF)),(qq jt (.mv oz))])
def al7:CC:=(.reg [(qq lj (.fa 0 z5)),(qq np (.ld1 pq)),(ee nM (.call 52 [z3,pz]))])
def P4:CC:=(.reg [(qq eQ (.fa 0 z5)),(qq fh (.ld1 ed)),(qq dM (.bi .add (.c (.s 1 39)) gb)),(qq fu (.bi .add gK (.c (.s 1 39)))),(ee gL (.call 52 [z3,iA]))])
def P5:CC:=(.seq al6 (.cond lA al7 P4))
def P6:CC:=(.seq al4 (.cond iC al5 P5))
def P7:CC:=(.reg [(qq jY (.bi .add z9 (x6 1))),(qq a9 (.mv rv))])
def P8:CC:=(.seq (.cond ft .skip (.exit 0)) (.seq (.block 1 (.seq al3 (.block 2 P6))) P7))
def P9:CC:=(.reg [(ee jZ (.call 54 [z3])),(qq a2 (.mv rx))])
def Pa:CC:=(.seq (.seq al1 (.block 0 (.loop (.seq al2 P8)))) (.seq P9 .ret))
def CR:CF:= .mk 6 [.t a2] (.seq ak9 (.seq al0 Pa))
theorem e59(v0:V):bz 6 [v0]=(.n qw (some v0) qw):=rfl
def Vh:=ai @e59 (ai (wu ak9.eq_1) (ai (wu al0.eq_1) (ai (wu al1.eq_1) (ai (wu al2.eq_1) (ai (wu al3.eq_1) (ai (wu al4.eq_1) (ai (wu al5.eq_1) (ai (wu al6.eq_1) (ai (wu al7.eq_1) (ai (wu P4.eq_1) (ai (wu P5.eq_1) (ai (wu P6.eq_1) (ai (wu P7.eq_1) (ai (wu P8.eq_1) (ai (wu P9.eq_1) (wu Pa.eq_1))))))))))))))))
def lz(p:Pc):List UInt8:=if p.2=true then[36,63]else if(!decide (p.1=[])&&p.1.all mi)=true then p.1 else 39::(p.1++[39])
def cw:List Pc→List UInt8
 |[]=>[]
 |p::r=>lz p++cw r
theorem Gy(a b:List Pc):cw (a++b)=cw a++cw b:=by
 induction a with
 |nil=>rfl
 |cons p r ih=>show lz p++cw (r++b)=(lz p++cw r)++cw b;rw[ih,aQ]
theorem uB{w:List Pc}{i:Nat}(h:i<w.length):cw (w.take (i+1))=cw (w.take i)++lz w[i]:=by
 rw[List.take_succ_eq_append_getElem h,Gy];show _++(lz w[i]++[])=_;rw[bF]
theorem Y3{w:List Pc}{i:Nat}:(cw (w.take i)).length≤(cw w).length:=by
 have:=congrArg List.length (Gy (w.take i) (w.drop i))
 rw[List.take_append_drop,aG]at this
 omega
theorem V5{w:List Pc}{i:Nat}(h:i<w.length):(cw (w.take i)).length+(lz w[i]).length≤(cw w).length:=by
 have:=@Y3 w (i+1)
 rw[uB h,aG]at this
 exact this
theorem aV7(p:Pc):p.2=true∨p.1.length≤(lz p).length:=by
 unfold lz
 split
 ·rename_i h;exact .inl h
 ·right;split
  ·exact aj _
  ·rw[av,aG];omega
theorem l42(Φ:Nat→Option CF)(h68:Φ 68=some (.orc (aO h75))){F:RO}{M:Mem}{c b i c1:Nat}{s:List UInt8}{b0:Bool}{x:V}(hs:s.length≤1000000)(p0:load1 F M b 0=some (sV s))(u:List (Option V))(Q:Ex→St→Prop)
 (hQ:∀u:List (Option V),Q .nrm (.mk ((bG9 u (.p c 0) x (.i .i64 (i:Int)) (.p b 0) (.b (b0&&s.all mi)))) [] M c1)):
 Wp Cu (K Φ none 42 F) (.mk ((aE0 u (.p c 0) x (.i .i64 (i:Int)) (.p b 0) (.b b0) (.i .i64 0))) [] M c1) Q:=by
 simp only[WX,VA]
 obtain⟨I,hI⟩:∃I:Nat→St→Prop,∀n s',I n s'↔(∃(j:Nat) (bj:Bool) (u:List (Option V)),n=s.length-j∧j≤s.length∧s'= .mk ((aE0 u (.p c 0) x (.i .i64 (i:Int)) (.p b 0) (.b bj) (.i .i64 (j:Int)))) [] M c1∧(b0&&s.all mi)=(bj&&(s.drop j).all mi)):=⟨fun n s'=>_,fun _ _=>Iff.rfl⟩
 refine bw I ?_ s.length _ ((hI _ _).2 ⟨0,b0,(X1 (G1 (X1 (G4 (G1 (bK (bB (X4 (X2 (X1 [])))))))))),rfl,ax _,rfl,rfl⟩)
 intro n s' hIs
 obtain⟨j,bj,u,rfl,hj,rfl,hb⟩:=(hI _ _).1 hIs
 clear hIs
 by_cases hlt:j<s.length
 ·have q8:cz .add (.i .i64 (j:Int)) (.i .i64 1)=some (.i .i64 ((j+1:Nat):Int)):=by rw[aX _ _ (by omega) (by omega)];simp
  have d1:decide ((j:Int)<(s.length:Int))=true:=ah (by omega);have hix:rK (sV s) (.i .i64 (j:Int))=some (bV s[j]):=ye s .i64 j hlt;have hd:s.drop j=s[j]::s.drop (j+1):=bX hlt;have hh:=Df s[j];rw[hd,List.all_cons]at hb;cases bj with
  |true=>
   rw[Bool.true_and]at hb;simp only[WX,VA,p0,d1,hix,h68,hh,q8];exact⟨s.length-(j+1),by omega,(hI _ _).2 ⟨j+1,_,(X1 (G1 (X1 (G4 (G1 (bK (bB (X4 (X2 (X1 [])))))))))),rfl,by omega,rfl,hb⟩⟩
  |false=>
   simp only[WX,VA,p0,d1,q8];exact⟨s.length-(j+1),by omega,(hI _ _).2 ⟨j+1,_,(X1 (G1 (X1 (G4 (G1 (bK (bB (X4 (X2 (X1 [])))))))))),rfl,by omega,rfl,hb⟩⟩
 ·obtain rfl:j=s.length:=by omega
  have d1:decide ((s.length:Int)<(s.length:Int))=false:=ag (by omega);rw[cm,List.all_nil,Bool.and_true]at hb;simp only[WX,VA,p0,d1];rw[←hb];exact hQ (X1 (G1 (X1 (G4 (bK (bB (X8 [])))))))
theorem w42(Φ:Nat→Option CF)(h:Φ 42=some W5)(h68:Φ 68=some (.orc (aO h75))){F:RO}{M:Mem}{c:Nat}(ok:cK F M c){v:V}{w:List Pc}(hw:dw F M c v w)(hp:∀p∈w,p.1.length≤1000000)(hz:(cw w).length≤1000000):
 Calls Φ F 42 [.g [v]] M c fun r M' c'=>r=sV (cw w)∧Gr c M c' M':=by
 refine aN h ?_
 obtain⟨y1,y2,y3⟩:=hw.one
 have hG:∀v,flatten (V.g [v])=[v]:=fun _=>rfl
 have gX:=(Gr.refl ok).set c (af 36 [v]) (aj _) (ay _) (aH _)
 have m0:(M.set c (af 36 [v])).get c=some (af 36 [v]):=am _ _ _
 have n1:=hw.len
 have mx1:w.length≤9223372036854775807:=hw.2
 have hX:=hw.grow gX
 have e0:V.s 0 0=sV []:=rfl
 simp only[WX,VA,hG,y3]
 generalize M.set c (af 36 [v])=X at gX m0 hX⊢
 obtain⟨I,hI⟩:∃I:Nat→St→Prop,∀n s',I n s'↔(∃(i c1:Nat) (M1:Mem) (u:List (Option V)),n=w.length-i∧i≤w.length∧s'= .mk ((bH0 u (.p c 0) (sV (cw (w.take i))) (.i .i64 (i:Int)))) [] M1 c1∧Gr (c+1) X c1 M1):=⟨fun n s'=>_,fun _ _=>Iff.rfl⟩
 refine bw I ?_ w.length _ ((hI _ _).2 ⟨0,_,_,(X1 (G1 (X1 (G2 (bK (bB (X8 (X2 [])))))))),rfl,ax _,rfl,Gr.refl (gX.ok ok)⟩)
 intro n s' hIs
 obtain⟨i,c1,M1,u,rfl,hi,rfl,gr1⟩:=(hI _ _).1 hIs
 clear hIs
 have k0:load1 F M1 c 0=some v:=(gr1.load1 (by omega) _).trans (au m0 0)
 by_cases hlt:i<w.length
 ·have q8:cz .add (.i .i64 (i:Int)) (.i .i64 1)=some (.i .i64 ((i+1:Nat):Int)):=by rw[aX _ _ (by omega) (by omega)];simp
  have d1:decide ((i:Int)<(w.length:Int))=true:=ah (by omega);obtain⟨b,o,hb,ia,ld1⟩:=wj (hX.grow gr1).1 i hlt;have ia:=ia .i64;have hl1:=hp w[i] (List.getElem_mem _);have htk:=uB hlt;have hsz:=V5 hlt;have hge:=aV7 w[i];generalize w[i]=p at ld1 hl1 htk hsz hge;obtain⟨s,st⟩:=p;unfold ve at ld1;have sn:bS (M1.set c1 (af 64 [V.s 0 0,V.b false])) c1 0 [sV s,.b st]=some (M1.set c1 (af 64 [sV s,.b st])):=dS rfl rfl;have m1:(M1.set c1 (af 64 [sV s,.b st])).get c1=some (af 64 [sV s,.b st]):=am _ _ _;have g1:=gr1.set c1 (af 64 [sV s,.b st]) gr1.le (ay _) (aH _);have p0:load1 F (M1.set c1 (af 64 [sV s,.b st])) c1 0=some (sV s):=au m1 0;have p1:load1 F (M1.set c1 (af 64 [sV s,.b st])) c1 1=some (.b st):=au m1 1;have qn:=nR s [];rw[←e0]at qn;generalize cw (w.take i)=T at htk hsz⊢;generalize M1.set c1 (af 64 [sV s,.b st])=Y at sn p0 p1 g1;simp only[WX,Nat.reduceAdd,aJ2,aJ3,aJ4,aJ5,UF,UG,k0,n1,d1,ia,ld1,sn,p0,qn];refine l42 Φ h68 hl1 p0 (X1 (G1 (X1 (G4 (G1 (bK (bB (X4 (X2 (X1 [])))))))))) _ ?_;intro u;cases st with
  |true=>
   have ca:cz .add (sV T) (.s 2 16164)=some (sV (T++[36,63])):=gw T [36,63] (by have:(lz (s,true)).length=2:=rfl;simp;omega);simp only[WX,VA,p1,ca,q8];exact⟨w.length-(i+1),by omega,(hI _ _).2 ⟨i+1,_,_,(X1 (G1 (X1 (G2 (bK (bB (X8 (X2 [])))))))),rfl,hlt,by rw[htk];rfl,g1⟩⟩
  |false=>
   have hge:s.length≤(lz (s,false)).length:=by
    rcases hge with h|h
    ·cases h
    ·exact h
   cases hx:(!decide (s=[])&&s.all mi)with
   |true=>
    have hpt:lz (s,false)=s:=by unfold lz;rw[ab (by simp),ac hx]
    rw[hpt]at hsz htk;have ca:cz .add (sV T) (sV s)=some (sV (T++s)):=gw T s (by omega);simp only[WX,VA,p0,p1,ca,q8];exact⟨w.length-(i+1),by omega,(hI _ _).2 ⟨i+1,_,_,(X1 (G1 (X1 (G2 (bK (bB (X8 (X2 [])))))))),rfl,hlt,by rw[htk];rfl,g1⟩⟩
   |false=>
    have hpt:lz (s,false)=39::(s++[39]):=by unfold lz;rw[ab (by simp),ab (by simpa using hx)]
    rw[hpt]at hsz htk;have hl3:(39::(s++[39]):List UInt8).length=s.length+2:=by simp
    have htk':cw (w.take (i+1))=T++[39]++s++[39]:=by rw[htk];simp
    rw[hl3]at hsz;have ca:cz .add (sV T) (.s 1 39)=some (sV (T++[39])):=gw T [39] (by simp;omega);have cb:cz .add (sV (T++[39])) (sV s)=some (sV (T++[39]++s)):=gw _ s (by simp;omega);have cc:cz .add (sV (T++[39]++s)) (.s 1 39)=some (sV (T++[39]++s++[39])):=gw _ [39] (by simp;omega);simp only[WX,VA,p0,p1,ca,cb,cc,q8];exact⟨w.length-(i+1),by omega,(hI _ _).2 ⟨i+1,_,_,(X1 (G1 (X1 (G2 (bK (bB (X8 (X2 [])))))))),rfl,hlt,by rw[htk'];rfl,g1⟩⟩
 ·obtain rfl:i=w.length:=by omega
  have d1:decide ((w.length:Int)<(w.length:Int))=false:=ag (by omega);rw[List.take_length];simp only[WX,VA,d1,k0,n1];exact gX.trans gr1
theorem w59(Φ:Nat→Option CF)(h:Φ 59=some CR)(h77:Φ 77=some (.orc (aO h77)))(h52:Φ 52=some zL)(h54:Φ 54=some zM)(h71:Φ 71=some xN){F:RO}{M:Mem}{c:Nat}(ok:cK F M c){v:V}{w:List Pc}(hw:dw F M c v w)(hp:∀p∈w,p.1.length≤1000000)(hz:(cw w).length≤1000000):
 Calls Φ F 59 [.g [v]] M c fun r M' c'=>r=sV (cw w)∧Gr c M c' M':=by
 refine aN h ?_
 obtain⟨y1,y2,y3⟩:=hw.one
 have hG:∀v,flatten (V.g [v])=[v]:=fun _=>rfl
 have gX:=(Gr.refl ok).set c (af 36 [v]) (aj _) (ay _) (aH _)
 have m0:(M.set c (af 36 [v])).get c=some (af 36 [v]):=am _ _ _
 have n1:=hw.len
 have mx1:w.length≤9223372036854775807:=hw.2
 have hX:=hw.grow gX
 have e0:V.s 0 0=sV []:=rfl
 have kz:load1 F (M.set c (af 36 [v])) c 0=some v:=au m0 0
 have gA:=(Gr.refl (gX.ok ok)).set (c+1) (af 99 [.p0,.l0]) (aj _) (ay _) (aH _)
 have k0:load1 F ((M.set c (af 36 [v])).set (c+1) (af 99 [.p0,.l0])) c 0=some v:=(gA.load1 (ay _) _).trans kz
 have hB:kN ((M.set c (af 36 [v])).set (c+1) (af 99 [.p0,.l0])) (c+1) (c+2) (c+1) 0 (cw (w.take 0)):=⟨aj _,ay _,by omega,.p0,.l0,am _ _ _,.inl rfl,.inl ⟨rfl,rfl⟩⟩
 simp only[WX,Nat.reduceAdd,Vh,hG,y3,k0,n1]
 generalize M.set c (af 36 [v])=X at gX m0 hX gA kz hB k0⊢
 generalize X.set (c+1) (af 99 [.p0,.l0])=A at gA hB k0⊢
 have okX:=gX.ok ok
 obtain⟨I,hI⟩:∃I:Nat→St→Prop,∀n s',I n s'↔(∃(i c1 bb:Nat) (M1:Mem) (u:List (Option V)),n=w.length-i∧i≤w.length∧s'= .mk ((Tm u (.p c 0) (.p (c+1) 0) v (.i .i64 (w.length:Int)) (.i .i64 (i:Int)))) [] M1 c1∧Gr (c+1) X c1 M1∧kN M1 (c+1) c1 (c+1) bb (cw (w.take i))):=⟨fun n s'=>_,fun _ _=>Iff.rfl⟩
 refine bw I ?_ w.length _ ((hI _ _).2 ⟨0,_,_,_,(X1 (G1 (X1 (G1 (X2 (X1 (G2 (G1 (bK (bB (X4 (X1 [])))))))))))),rfl,ax _,rfl,gA,hB⟩)
 intro n s' hIs
 obtain⟨i,c1,bb,M1,u,rfl,hi,rfl,gr1,hb1⟩:=(hI _ _).1 hIs
 clear hIs
 by_cases hlt:i<w.length
 ·have q8:cz .add (.i .i64 (i:Int)) (.i .i64 1)=some (.i .i64 ((i+1:Nat):Int)):=by rw[aX _ _ (by omega) (by omega)];simp
  have d1:decide ((i:Int)<(w.length:Int))=true:=ah (by omega);obtain⟨b,o,hb,ia,ld1⟩:=wj (hX.grow gr1).1 i hlt;have ia:=ia .i64;have hl1:=hp w[i] (List.getElem_mem _);have htk:=uB hlt;have hsz:=V5 hlt;generalize w[i]=p at ld1 hl1 htk hsz;obtain⟨s,st⟩:=p;unfold ve at ld1;have ok1:=gr1.ok okX;have sn:bS (M1.set c1 (af 64 [V.s 0 0,V.b false])) c1 0 [sV s,.b st]=some (M1.set c1 (af 64 [sV s,.b st])):=dS rfl rfl;have m1:(M1.set c1 (af 64 [sV s,.b st])).get c1=some (af 64 [sV s,.b st]):=am _ _ _;have g1':=(Gr.refl ok1).set c1 (af 64 [sV s,.b st]) (aj _) (ay _) (aH _);have g1:=gr1.trans g1';have hb2:kN (M1.set c1 (af 64 [sV s,.b st])) (c+1) (c1+1) (c+1) bb (cw (w.take i)):=hb1.up (aH _) (fun x hx=>g1'.old x hx);have p0:load1 F (M1.set c1 (af 64 [sV s,.b st])) c1 0=some (sV s):=au m1 0;have p1:load1 F (M1.set c1 (af 64 [sV s,.b st])) c1 1=some (.b st):=au m1 1;have qn:=nR s [];rw[←e0]at qn;generalize cw (w.take i)=T at htk hsz hb2 hb1⊢;generalize M1.set c1 (af 64 [sV s,.b st])=Y at sn p0 p1 g1 g1' hb2;have okY:=g1.ok okX;have NXT:∀(W:List UInt8),cw (w.take (i+1))=T++W→ ∀(M2:Mem) (c2 bb2:Nat) (u:List (Option V)),kN M2 (c+1) c2 (c+1) bb2 (T++W)→Gr (c+1) X c2 M2→I (w.length-(i+1)) (.mk ((Tm u (.p c 0) (.p (c+1) 0) v (.i .i64 (w.length:Int)) (.i .i64 ((i+1:Nat):Int)))) [] M2 c2):=by
   intro W hW M2 c2 bb2 u hb3 g3;exact(hI _ _).2 ⟨i+1,_,_,_,(X1 (G1 (X1 (G1 (X2 (X1 (G2 (G1 (bK (bB (X4 (X1 [])))))))))))),rfl,hlt,rfl,g3,by rw[hW];exact hb3⟩
  cases st with
  |true=>
   simp only[WX,Nat.reduceAdd,Vh,d1,ia,ld1,sn,p1];refine aD ((r52 Φ h52 h71 okY g1 hb2 [36,63] (kE (by have:(lz (s,true)).length=2:=rfl;simp only[av,aM];omega))).mono ?_);rintro r M2 c2 ⟨bb2,hb3,g3,_⟩;simp only[WX,Vh,q8];exact⟨w.length-(i+1),by omega,NXT _ htk _ _ _ (X1 (G1 (X1 (G1 (X2 (X1 (G2 (G1 (bK (bB (X4 (X1 [])))))))))))) hb3 g3⟩
  |false=>
   have hxx:=bA1 s hl1;by_cases hs0:s=[]
   ·rw[ah hs0]at qn;have hpt:lz (s,false)=39::(s++[39]):=by unfold lz;rw[ab (by simp),ab (by simp[hs0])]
    rw[hpt]at hsz htk;have hl3:(39::(s++[39]):List UInt8).length=s.length+2:=by simp
    rw[hl3]at hsz;have ca:cz .add (.s 1 39) (sV s)=some (sV (39::s)):=gw [39] s (by simp only[av,aM];omega);have cb:cz .add (sV (39::s)) (.s 1 39)=some (sV (39::(s++[39]))):=gw (39::s) [39] (by simp only[av,aM];omega);simp only[WX,Nat.reduceAdd,Vh,d1,ia,ld1,sn,p0,p1,qn,ca,cb];refine aD ((r52 Φ h52 h71 okY g1 hb2 (39::(s++[39])) (kE (by rw[hl3];omega))).mono ?_);rintro r M2 c2 ⟨bb2,hb3,g3,_⟩;simp only[WX,Vh,q8];exact⟨w.length-(i+1),by omega,NXT _ htk _ _ _ (X1 (G1 (X1 (G1 (X2 (X1 (G2 (G1 (bK (bB (X4 (X1 [])))))))))))) hb3 g3⟩
   ·rw[ag hs0]at qn;cases hx:s.all mi with
    |true=>
     rw[hx]at hxx;have hpt:lz (s,false)=s:=by unfold lz;rw[ab (by simp),ac (by simp[hs0];simpa using hx)]
     rw[hpt]at hsz htk;simp only[WX,Nat.reduceAdd,Vh,d1,ia,ld1,sn,p0,p1,qn,h77,hxx];refine aD ((r52 Φ h52 h71 okY g1 hb2 s (kE (by omega))).mono ?_);rintro r M2 c2 ⟨bb2,hb3,g3,_⟩;simp only[WX,Vh,q8];exact⟨w.length-(i+1),by omega,NXT _ htk _ _ _ (X1 (G1 (X1 (G1 (X2 (X1 (G2 (G1 (bK (bB (X4 (X1 [])))))))))))) hb3 g3⟩
    |false=>
     rw[hx]at hxx;have hpt:lz (s,false)=39::(s++[39]):=by unfold lz;rw[ab (by simp),ab (by simp only[hx,Bool.and_false];simp)]
     rw[hpt]at hsz htk;have hl3:(39::(s++[39]):List UInt8).length=s.length+2:=by simp
     rw[hl3]at hsz;have ca:cz .add (.s 1 39) (sV s)=some (sV (39::s)):=gw [39] s (by simp only[av,aM];omega);have cb:cz .add (sV (39::s)) (.s 1 39)=some (sV (39::(s++[39]))):=gw (39::s) [39] (by simp only[av,aM];omega);simp only[WX,Nat.reduceAdd,Vh,d1,ia,ld1,sn,p0,p1,qn,ca,cb,h77,hxx];refine aD ((r52 Φ h52 h71 okY g1 hb2 (39::(s++[39])) (kE (by rw[hl3];omega))).mono ?_);rintro r M2 c2 ⟨bb2,hb3,g3,_⟩;simp only[WX,Vh,q8];exact⟨w.length-(i+1),by omega,NXT _ htk _ _ _ (X1 (G1 (X1 (G1 (X2 (X1 (G2 (G1 (bK (bB (X4 (X1 [])))))))))))) hb3 g3⟩
 ·obtain rfl:i=w.length:=by omega
  have d1:decide ((w.length:Int)<(w.length:Int))=false:=ag (by omega);rw[List.take_length]at hb1;simp only[WX,Vh,d1];refine aD ((r54 Φ h54 (gr1.ok okX) gr1 hb1 (by omega)).mono ?_);rintro r M2 c2 ⟨rfl,g3,_⟩;simp only[WX];exact gX.trans g3
def av1:CC:=(.reg [(aa a1 (.mkm)),(qq a2 (.bld [(.i .i64 0),(.i .i64 0),(.b false)] [])),(ez (.mu .str z1 (.c (.s 4 1702195828)) z2)),(qq a3 (.bld [(.i .i64 0),(.i .i64 0),(.b false)] [])),(ez (.mu .str z1 (.c (.s 5 435728179558)) z3)),(qq a4 (.bld [(.i .i64 0),(.i .i64 0),(.b false)] [])),(ez (.mu .str z1 (.c (.s 5 500069396323)) z4)),(qq a5 (.bld [(.i .i64 0),(.i .i64 0),(.b false)] [])),(ez (.mu .str z1 (.c (.s 5 491328139381)) z5)),(qq a6 (.bld [(.i .i64 0),(.i .i64 0),(.b false)] [(1,1,(x6 (-1)))])),(ez (.mu .str z1 (.c (.s 4 1869112165)) z6)),(qq a7 (.bld [(.i .i64 0),(.i .i64 0),(.b false)] [(1,1,(x6 (-1)))])),(ez (.mu .str z1 (.c (.s 3 7627107)) z7)),(qq a8 (.bld [(.i .i64 0),(.i .i64 0),(.b false)] [(0,1,(x6 1)),(1,1,(x6 1))])),(ez (.mu .str z1 (.c (.s 5 500153084262)) z8)),(qq a9 (.bld [(.i .i64 0),(.i .i64 0),(.b false)] [(0,1,(x6 1)),(1,1,(x6 1))])),(ez (.mu .str z1 (.c (.s 3 7561576)) z9)),(qq dT (.bld [(.i .i64 0),(.i .i64 0),(.b false)] [(1,1,(x6 1))])),(ez (.mu .str z1 (.c (.s 4 1953720684)) ft)),(qq eP (.bld [(.i .i64 0),(.i .i64 0),(.b false)] [(0,1,(x6 2)),(1,1,(x6 2)),(2,1,xT)])),(ez (.mu .str z1 (.c (.s 4 1701536109)) dL)),(qq fg (.bld [(.i .i64 0),(.i .i64 0),(.b false)] [(0,1,(x6 1)),(1,1,(x6 1)),(2,1,xT)])),(ez (.mu .str z1 (.c (.s 4 2036430689)) eN)),(qq eQ (.bld [(.i .i64 0),(.i .i64 0),(.b false)] [(0,1,(x6 1)),(1,1,(x6 1)),(2,1,xT)])),(ez (.mu .str z1 (.c (.s 5 491260308579)) ed)),(qq fh (.bld [(.i .i64 0),(.i .i64 0),(.b false)] [(0,1,(x6 2)),(1,1,(x6 2)),(2,1,xT)])),(ez (.mu .str z1 (.c (.s 4 1702260589)) gb)),(qq dM (.bld [(.i .i64 0),(.i .i64 0),(.b false)] [(0,1,(x6 2)),(1,1,(x6 2)),(2,1,xT)])),(ez (.mu .str z1 (.c (.s 4 1802398060)) gK)),(qq fu (.bld [(.i .i64 0),(.i .i64 0),(.b false)] [(0,1,(x6 2)),(1,1,(x6 2)),(2,1,xT)])),(ez (.mu .str z1 (.c (.s 6 126943805008242)) iA)),(qq gL (.mv z1)),(qq a0 (.mv iB))])
def av2:CC:=(.seq (.reg [(qq a0 (.mv (.c .m0)))]) (.seq av1 .ret))
def IV:CF:= .mk 5 [.t a0] av2
theorem e80:bz 5 []=qw:=rfl
def B80:=ai @e80 (ai (wu av1.eq_1) (wu av2.eq_1))
def zj(sh:Sh)(M:Mem)(c:Nat)(m k v:V):RC:=aR3 sh (.c m) (.c k) (.c v) [] M c .e
theorem Y6{Φ:Nat→Option CF}{rd:Option Nat}{fn:Nat}{F:RO}(sh:Sh)(m k v:X)(M:Mem)(c:Nat)(t:T):eU (.mu sh m k v) (K Φ rd fn F) M c t=zj sh M c (m.ev t) (k.ev t) (v.ev t):=Eq.trans rfl (Eq.refl _)
def lkQ(sh:Sh)(zero:V)(ok:Bool)(F:RO)(M:Mem)(m k:V):QR:=lq (.lk sh zero ok (.c m) (.c k)) F M .e
theorem Fd{F:RO}(sh:Sh)(zero:V)(ok:Bool)(x k:X)(M:Mem)(t:T):lq (.lk sh zero ok x k) F M t=lkQ sh zero ok F M (x.ev t) (k.ev t):=Eq.trans rfl (Eq.refl _)
def zi(l:List (List UInt8×V))(n:Nat):List (V×V×Nat):=l.zipIdx n|>.map fun e=>(sV e.1.1,e.1.2,e.2)
theorem X3(a b:List UInt8):jB .str (sV a) (sV b)=some (decide (a=b)):=by
 show some (kW a.length (ce a) b.length (ce b))=_
 rw[su]
theorem xW(s:List UInt8):∀(l:List (List UInt8×V)) (n i:Nat),∃j,iJ .str (sV s) (zi l n) i=some ((l.find? fun e=>decide (s=e.1)).map fun e=>(j,e.2))
 |[],n,i=>⟨0,rfl⟩
 |e::r,n,i=>by
  obtain⟨j,hj⟩:=xW s r (n+1) (i+1);have hk:=X3 s e.1;have hu:iJ .str (sV s) (zi (e::r) n) i=(match jB .str (sV s) (sV e.1)with|some true=>some (some (i,e.2))|some false=>iJ .str (sV s) (zi r (n+1)) (i+1)|none=>none):=rfl;rw[hu,hk,List.find?_cons];cases decide (s=e.1)with
  |true=>exact⟨i,rfl⟩
  |false=>exact⟨j,hj⟩
theorem Ae(e:List UInt8×V)(r:List (List UInt8×V))(n:Nat):zi (e::r) n=(sV e.1,e.2,n)::zi r (n+1):=rfl
theorem Af{s:List UInt8}{v:V}:∀(l:List (List UInt8×V)) (m n:Nat),n=m+l.length→ug (sV s,v,n) (zi l m)=zi (l++[(s,v)]) m
 |[],m,n,h=>by rw[h];rfl
 |e::r,m,n,h=>by
  have:=Af (s:=s) (v:=v) r (m+1) n (by rw[h,av];omega);rw[List.cons_append,Ae,Ae,←this];rfl
theorem X5{M:Mem}{c b:Nat}{l:List (List UInt8×V)}{n:Nat}{s:List UInt8}{v:V}(hM:M.get b=some (.map (zi l 0) n))(hn:n=l.length)(hf:(l.find? fun e=>decide (s=e.1))=none)(hn1:n<1000):
 zj .str M c (.m b) (sV s) v= .k undef (M.set b (.map (zi (l++[(s,v)]) 0) (n+1))) c:=by
 obtain⟨j,hj⟩:=xW s l 0 0
 rw[hf]at hj
 show qL (M.get b) .f (fun es clock=>vU M c b es clock (sV s) v (iJ .str (sV s) es 0))=_
 rw[hM]
 show vU M c b (zi l 0) n (sV s) v (iJ .str (sV s) (zi l 0) 0)=_
 rw[hj]
 show fN (Nat.succ n) (fun ck=>T0 M c b (.map (ug (sV s,v,n) (zi l 0)) ck) undef)=_
 rw[bA,sq,Af l 0 n (by omega)]
theorem aB5{F:RO}{M:Mem}{b n:Nat}{zero:V}{ok:Bool}{l:List (List UInt8×V)}(s:List UInt8)(hM:look F M b=some (.map (zi l 0) n)):
 lkQ .str zero ok F M (.m b) (sV s)= .r (match (l.find? fun e=>decide (s=e.1))with|some e=>(bif ok then .t [e.2,.b true]else e.2)|none=>(bif ok then .t [zero,.b false]else zero)) b:=by
 obtain⟨j,hj⟩:=xW s l 0 0
 have key:∀(F:RO) (M:Mem),look F M b=some (.map (zi l 0) n)→cS (.lk .str zero ok (.c (.m b)) (.c (sV s))) F M .e= .r (match (l.find? fun e=>decide (s=e.1))with|some e=>(bif ok then .t [e.2,.b true]else e.2)|none=>(bif ok then .t [zero,.b false]else zero)) b:=by
  intro F M hM;show qL (look F M b) .f (fun es _=>FL zero ok b (iJ .str (sV s) es 0))=_;rw[hM];show FL zero ok b (iJ .str (sV s) (zi l 0) 0)=_;rw[hj];cases(l.find? fun e=>decide (s=e.1))<;>rfl
 unfold lkQ lq
 rw[key F M hM]
 show R9 _ .e b (look F M b)=_
 rw[hM]
 show Av b (cS _ [(b,.map (zi l 0) n)] .e .e)=_
 rw[key [(b,.map (zi l 0) n)] .e (by unfold look;rw[Tr.get_e];simp[bv])]
 rfl
def aT0:List (List UInt8×Int×Int×Bool):=[([116,114,117,101],0,0,false),([102,97,108,115,101],0,0,false),([99,111,117,110,116],0,0,false),([117,112,112,101,114],0,0,false),([101,99,104,111],0,-1,false),([99,97,116],0,-1,false),([102,105,114,115,116],1,1,false),([104,97,115],1,1,false),([108,105,115,116],0,1,false),([109,97,107,101],2,2,true),([97,119,97,121],1,1,true),([99,108,101,97,114],1,1,true),([109,111,118,101],2,2,true),([108,105,110,107],2,2,true),([114,105,103,104,116,115],2,2,true)]
def nvV(x:Int×Int×Bool):V:= .g [.i .i64 x.1,.i .i64 x.2.1,.b x.2.2]
def tP:List (List UInt8×V):=aT0.map fun e=>(e.1,nvV e.2)
def kn(s:List UInt8):Option (Int×Int×Bool):=(aT0.find? fun e=>decide (s=e.1)).map (·.2)
theorem aS9(s:List UInt8):((tP.find? fun e=>decide (s=e.1)).map (·.2))=(kn s).map nvV:=by
 unfold kn tP
 rw[List.find?_map,Option.map_map,Option.map_map]
 rfl
def me(k:Nat):bJ:= .map (zi (tP.take k) 0) k
abbrev Xa:bJ:=me 15
theorem iM{M:Mem}{c:Nat}(k:Nat){s:List UInt8}{v:V}(hk:k<15)(hf:((tP.take k).find? fun e=>decide (s=e.1))=none)(ht:tP.take k++[(s,v)]=tP.take (k+1))(hl:(tP.take k).length=k):
 zj .str (M.set c (me k)) (c+1) (.m c) (sV s) v= .k undef (M.set c (me (k+1))) (c+1):=by
 unfold me
 rw[X5 (am _ _ _) hl.symm hf (by omega),pj,ht]
theorem w80(Φ:Nat→Option CF)(h:Φ 80=some IV){F:RO}{M:Mem}{c:Nat}(ok:cK F M c):Calls Φ F 80 [] M c fun r M' c'=>r= .m c∧M'=M.set c Xa∧c'=c+1:=by
 refine aN h ?_
 have f0:zj .str (M.set c (me 0)) (c+1) (.m c) (V.s 4 1702195828) (V.g [.i .i64 (0),.i .i64 (0),.b false])= .k undef (M.set c (me 1)) (c+1):=iM 0 (s:=[116,114,117,101]) (by decide) rfl rfl rfl
 have f1:zj .str (M.set c (me 1)) (c+1) (.m c) (V.s 5 435728179558) (V.g [.i .i64 (0),.i .i64 (0),.b false])= .k undef (M.set c (me 2)) (c+1):=iM 1 (s:=[102,97,108,115,101]) (by decide) rfl rfl rfl
 have f2:zj .str (M.set c (me 2)) (c+1) (.m c) (V.s 5 500069396323) (V.g [.i .i64 (0),.i .i64 (0),.b false])= .k undef (M.set c (me 3)) (c+1):=iM 2 (s:=[99,111,117,110,116]) (by decide) rfl rfl rfl
 have f3:zj .str (M.set c (me 3)) (c+1) (.m c) (V.s 5 491328139381) (V.g [.i .i64 (0),.i .i64 (0),.b false])= .k undef (M.set c (me 4)) (c+1):=iM 3 (s:=[117,112,112,101,114]) (by decide) rfl rfl rfl
 have f4:zj .str (M.set c (me 4)) (c+1) (.m c) (V.s 4 1869112165) (V.g [.i .i64 (0),.i .i64 (-1),.b false])= .k undef (M.set c (me 5)) (c+1):=iM 4 (s:=[101,99,104,111]) (by decide) rfl rfl rfl
 have f5:zj .str (M.set c (me 5)) (c+1) (.m c) (V.s 3 7627107) (V.g [.i .i64 (0),.i .i64 (-1),.b false])= .k undef (M.set c (me 6)) (c+1):=iM 5 (s:=[99,97,116]) (by decide) rfl rfl rfl
 have f6:zj .str (M.set c (me 6)) (c+1) (.m c) (V.s 5 500153084262) (V.g [.i .i64 (1),.i .i64 (1),.b false])= .k undef (M.set c (me 7)) (c+1):=iM 6 (s:=[102,105,114,115,116]) (by decide) rfl rfl rfl
 have f7:zj .str (M.set c (me 7)) (c+1) (.m c) (V.s 3 7561576) (V.g [.i .i64 (1),.i .i64 (1),.b false])= .k undef (M.set c (me 8)) (c+1):=iM 7 (s:=[104,97,115]) (by decide) rfl rfl rfl
 have f8:zj .str (M.set c (me 8)) (c+1) (.m c) (V.s 4 1953720684) (V.g [.i .i64 (0),.i .i64 (1),.b false])= .k undef (M.set c (me 9)) (c+1):=iM 8 (s:=[108,105,115,116]) (by decide) rfl rfl rfl
 have f9:zj .str (M.set c (me 9)) (c+1) (.m c) (V.s 4 1701536109) (V.g [.i .i64 (2),.i .i64 (2),.b true])= .k undef (M.set c (me 10)) (c+1):=iM 9 (s:=[109,97,107,101]) (by decide) rfl rfl rfl
 have f10:zj .str (M.set c (me 10)) (c+1) (.m c) (V.s 4 2036430689) (V.g [.i .i64 (1),.i .i64 (1),.b true])= .k undef (M.set c (me 11)) (c+1):=iM 10 (s:=[97,119,97,121]) (by decide) rfl rfl rfl
 have f11:zj .str (M.set c (me 11)) (c+1) (.m c) (V.s 5 491260308579) (V.g [.i .i64 (1),.i .i64 (1),.b true])= .k undef (M.set c (me 12)) (c+1):=iM 11 (s:=[99,108,101,97,114]) (by decide) rfl rfl rfl
 have f12:zj .str (M.set c (me 12)) (c+1) (.m c) (V.s 4 1702260589) (V.g [.i .i64 (2),.i .i64 (2),.b true])= .k undef (M.set c (me 13)) (c+1):=iM 12 (s:=[109,111,118,101]) (by decide) rfl rfl rfl
 have f13:zj .str (M.set c (me 13)) (c+1) (.m c) (V.s 4 1802398060) (V.g [.i .i64 (2),.i .i64 (2),.b true])= .k undef (M.set c (me 14)) (c+1):=iM 13 (s:=[108,105,110,107]) (by decide) rfl rfl rfl
 have f14:zj .str (M.set c (me 14)) (c+1) (.m c) (V.s 6 126943805008242) (V.g [.i .i64 (2),.i .i64 (2),.b true])= .k undef (M.set c (me 15)) (c+1):=iM 14 (s:=[114,105,103,104,116,115]) (by decide) rfl rfl rfl
 have hm:∀t,ju .mkm c t=some (.m c,me 0):=fun _=>rfl
 simp only[WX,Nat.reduceAdd,Nat.reduceLeDiff,B80,Y6,hm,f0,f1,f2,f3,f4,f5,f6,f7,f8,f9,f10,f11,f12,f13,f14]
def av3:CC:=(.reg [(aa a1 (.bx 42 1 z0)),(qq a2 (.mv (.c (.s 0 0))))])
def av4:CC:=(.reg [(qq a3 (.fa 0 z1)),(qq a4 (.ld1 z3)),(qq a5 (.ln .slice z4)),(qq a6 (.bi .eql z5 (x6 0))),(qq a7 (.mv z6)),(aA a8 (.fa 0 z1) a7),(aA a9 (.ld1 z8) a7),(aA dT (.iaS 1 z9 (x6 0)) a7),(aA eP (.fa 0 ft) a7),(aA fg (.ld1 dL) a7),(aA eQ (.ln .slice eN) a7),(aA fh (.bi .neq ed (x6 1)) a7),(qq dM (.pk z7 xT gb))])
def av5:CC:=(.seq (.reg [(qq a2 (.mv (.c (.s 0 0))))]) .ret)
def av6:CC:=(.seq av4 (.cond gK av5 .skip))
def av7:CC:=(.reg [(qq fu (.fa 0 z1)),(qq gL (.ld1 iA)),(qq fy (.iaS 1 iB (x6 0))),(qq jr (.fa 0 iC)),(qq gH (.ld1 l8)),(qq fY (.iaS 2 la (x6 0))),(qq jt (.fa 0 kL)),(qq gU (.ld1 lA)),(qq a2 (.mv lg))])
def IW:CF:= .mk 5 [.t a2] (.seq av3 (.seq av6 (.seq av7 .ret)))
theorem e81(v0:V):bz 5 [v0]=(.n ow (some v0) ow):=rfl
def B81:=ai @e81 (ai (wu av3.eq_1) (ai (wu av4.eq_1) (ai (wu av5.eq_1) (ai (wu av6.eq_1) (wu av7.eq_1)))))
def ap9:CC:=(.reg [(aa a1 (.bx 42 1 z0)),(qq a2 (.mv (.c (.s 0 0))))])
def aq0:CC:=(.reg [(qq a3 (.fa 0 z1)),(qq a4 (.ld1 z3)),(qq a5 (.ln .slice z4)),(qq a6 (.bi .eql z5 (x6 0))),(qq a7 (.mv z6)),(aA a8 (.fa 0 z1) a7),(aA a9 (.ld1 z8) a7),(aA dT (.iaS 1 z9 (x6 0)) a7),(aA eP (.fa 0 ft) a7),(aA fg (.ld1 dL) a7),(aA eQ (.ln .slice eN) a7),(aA fh (.bi .neq ed (x6 1)) a7),(qq dM (.pk z7 xT gb)),(qq fu (.mv gK)),(aA gL (.fa 0 z1) fu),(aA fy (.ld1 iB) fu),(aA jr (.iaS 1 iC (x6 0)) fu),(aA gH (.fa 0 l8) fu),(aA fY (.ld1 la) fu),(aA jt (.iaS 2 kL (x6 0)) fu),(aA gU (.fa 1 lA) fu),(aA jX (.ld1 lg) fu),(qq gv (.pk iA xT kM))])
def aq1:CC:=(.seq (.reg [(qq a2 (.mv (.c (.s 0 0))))]) .ret)
def aq2:CC:=(.seq aq0 (.cond lB aq1 .skip))
def aq3:CC:=(.reg [(qq kd (.fa 0 z1)),(qq gV (.ld1 nl)),(qq lE (.iaS 1 nn (x6 0))),(qq ip (.fa 0 nK)),(qq ke (.ld1 ot)),(qq lj (.iaS 2 oz (x6 0))),(qq np (.fa 0 pq)),(qq nM (.ld1 pz)),(qq a2 (.mv ru))])
def c66:CF:= .mk 6 [.t a2] (.seq ap9 (.seq aq2 (.seq aq3 .ret)))
theorem e66(v0:V):bz 6 [v0]=(.n qw (some v0) qw):=rfl
def B66:=ai @e66 (ai (wu ap9.eq_1) (ai (wu aq0.eq_1) (ai (wu aq1.eq_1) (ai (wu aq2.eq_1) (wu aq3.eq_1)))))
def ao0:CC:=(.reg [(aa a1 (.bx 42 1 z0)),(qq a2 (.mv xF))])
def ao1:CC:=(.dreg 17 [(1,0,(qq a4 (.ldn 1 z1))),(0,0,(ee a3 (.call 80 []))),(2,3,(ee a5 (.call 81 [z4]))),(3,7,(qq a6 (.lk .str (.g [(.i .i64 0),(.i .i64 0),(.b false)]) false z3 z5))),(4,15,(qq a7 (.fl1 2 z6))),(5,31,(qq a8 (.mv z7))),(6,63,(aF a9 (.fa 0 z1) a8)),(7,127,(aF dT (.ld1 z9) a8)),(8,255,(aF eP (.iaS 1 ft (x6 0)) a8)),(9,511,(aF fg (.fa 0 dL) a8)),(10,1023,(aF eQ (.ld1 eN) a8)),(11,2047,(aF fh (.iaS 2 ed (x6 0)) a8)),(12,4095,(aF dM (.fa 1 gb) a8)),(13,8191,(aF fu (.ld1 gK) a8)),(14,16383,(aF gL (.un .not iA) a8)),(15,32767,(qq fy (.pk z8 iB xF))),(16,65535,(qq a2 (.mv iC)))])
def Vn:CF:= .mk 5 [.t a2] (.seq ao0 (.seq ao1 .ret))
theorem e63(v0:V):bz 5 [v0]=(.n ow (some v0) ow):=rfl
def B63:=ai @e63 (ai (wu ao0.eq_1) (wu ao1.eq_1))
def aw2:CC:=(.reg [(qq a5 (.bi .eql z3 (.c (.s 4 1701536109)))),(qq a4 (.mv z5))])
def aw3:CC:=(.reg [(qq a6 (.bi .eql z3 (.c (.s 4 2036430689)))),(qq a4 (.mv z6))])
def aw4:CC:=(.reg [(qq a7 (.bi .eql z3 (.c (.s 5 491260308579)))),(qq a4 (.mv z7))])
def aw5:CC:=(.reg [(qq a8 (.bi .eql z3 (.c (.s 4 1702260589)))),(qq a4 (.mv z8))])
def aw6:CC:=(.reg [(qq a9 (.bi .eql z3 (.c (.s 4 1802398060)))),(qq a4 (.mv z9))])
def aw7:CC:=(.reg [(qq dT (.bi .eql z3 (.c (.s 6 126943805008242)))),(qq a4 (.mv ft))])
def aw8:CC:=(.cond z4 .skip (.seq aw6 (.cond z4 .skip aw7)))
def aw9:CC:=(.seq aw4 (.cond z4 .skip (.seq aw5 aw8)))
def ax0:CC:=(.cond z4 .skip (.seq aw3 (.cond z4 .skip aw9)))
def Qy:CC:=(.seq (.reg [(qq a2 (.mv xT))]) .ret)
def Qz:CC:=(.seq (.seq aw2 ax0) (.cond z4 Qy .skip))
def QA:CC:=(.seq (.reg [(qq a3 (.mv z0))]) (.block 0 Qz))
def QB:CC:=(.seq (.reg [(qq a2 (.mv xF))]) .ret)
def QC:CC:=(.seq (.reg [(qq a2 (.mv xF))]) (.seq QA QB))
def c84:CF:= .mk 4 [.t a2] QC
theorem e84(v0:V):bz 4 [v0]=(.n jp (some v0) jp):=rfl
def B84:=ai @e84 (ai (wu aw2.eq_1) (ai (wu aw3.eq_1) (ai (wu aw4.eq_1) (ai (wu aw5.eq_1) (ai (wu aw6.eq_1) (ai (wu aw7.eq_1) (ai (wu aw8.eq_1) (ai (wu aw9.eq_1) (ai (wu ax0.eq_1) (ai (wu Qy.eq_1) (ai (wu Qz.eq_1) (ai (wu QA.eq_1) (ai (wu QB.eq_1) (wu QC.eq_1))))))))))))))
def aq4:CC:=(.reg [(aa a1 (.bx 42 1 z0)),(qq a2 (.mv xF))])
def aq5:CC:=(.reg [(qq a3 (.ldn 1 z1)),(ee a4 (.call 66 [z3])),(ee a5 (.call 84 [z4])),(qq a2 (.mv z5))])
def c67:CF:= .mk 3 [.t a2] (.seq aq4 (.seq aq5 .ret))
theorem e67(v0:V):bz 3 [v0]=(.n re (some v0) re):=rfl
def B67:=ai @e67 (ai (wu aq4.eq_1) (wu aq5.eq_1))
def ap0:CC:=(.reg [(qq a2 (.mv (x6 0))),(qq a3 (.mv (x6 0))),(qq a4 (.mv xF))])
def ap1:CC:=(.reg [(qq a7 (.bi .eql z5 (.c (.s 4 1702195828)))),(qq a6 (.mv z7))])
def ap2:CC:=(.reg [(qq a8 (.bi .eql z5 (.c (.s 5 435728179558)))),(qq a6 (.mv z8))])
def ap3:CC:=(.reg [(qq a9 (.bi .eql z5 (.c (.s 5 500069396323)))),(qq a6 (.mv z9))])
def ap4:CC:=(.reg [(qq dT (.bi .eql z5 (.c (.s 5 491328139381)))),(qq a6 (.mv ft))])
def ap5:CC:=(.cond z6 .skip (.seq ap3 (.cond z6 .skip ap4)))
def ap6:CC:=(.seq ap1 (.cond z6 .skip (.seq ap2 ap5)))
def ap7:CC:=(.reg [(qq a2 (.mv (x6 0))),(qq a3 (.mv (x6 0))),(qq a4 (.mv xT))])
def ap8:CC:=(.reg [(qq fg (.bi .eql z5 (.c (.s 4 1869112165)))),(qq eP (.mv eN))])
def PX:CC:=(.reg [(qq eQ (.bi .eql z5 (.c (.s 3 7627107)))),(qq eP (.mv ed))])
def PY:CC:=(.reg [(qq a2 (.mv (x6 0))),(qq a3 (.mv (x6 (-1)))),(qq a4 (.mv xT))])
def PZ:CC:=(.reg [(qq dM (.bi .eql z5 (.c (.s 5 500153084262)))),(qq fh (.mv gK))])
def Q0:CC:=(.reg [(qq fu (.bi .eql z5 (.c (.s 3 7561576)))),(qq fh (.mv iA))])
def Q1:CC:=(.reg [(qq gL (.bi .eql z5 (.c (.s 4 2036430689)))),(qq fh (.mv iB))])
def Q2:CC:=(.reg [(qq fy (.bi .eql z5 (.c (.s 5 491260308579)))),(qq fh (.mv iC))])
def Q3:CC:=(.cond gb .skip (.seq Q1 (.cond gb .skip Q2)))
def Q4:CC:=(.seq PZ (.cond gb .skip (.seq Q0 Q3)))
def Q5:CC:=(.reg [(qq a2 (.mv (x6 1))),(qq a3 (.mv (x6 1))),(qq a4 (.mv xT))])
def Q6:CC:=(.reg [(qq gH (.bi .eql z5 (.c (.s 4 1953720684)))),(qq jr (.mv la))])
def Q7:CC:=(.reg [(qq a2 (.mv (x6 0))),(qq a3 (.mv (x6 1))),(qq a4 (.mv xT))])
def Q8:CC:=(.reg [(qq jt (.bi .eql z5 (.c (.s 4 1701536109)))),(qq fY (.mv lA))])
def Q9:CC:=(.reg [(qq gU (.bi .eql z5 (.c (.s 4 1702260589)))),(qq fY (.mv lg))])
def Qa:CC:=(.reg [(qq jX (.bi .eql z5 (.c (.s 4 1802398060)))),(qq fY (.mv kM))])
def Qb:CC:=(.reg [(qq gv (.bi .eql z5 (.c (.s 6 126943805008242)))),(qq fY (.mv lB))])
def Qc:CC:=(.seq Qa (.cond kL .skip Qb))
def Qd:CC:=(.seq Q9 (.cond kL .skip Qc))
def Qe:CC:=(.seq Q8 (.cond kL .skip Qd))
def Qf:CC:=(.reg [(qq a2 (.mv (x6 2))),(qq a3 (.mv (x6 2))),(qq a4 (.mv xT))])
def Qg:CC:=(.cond kL (.seq Qf .ret) .skip)
def Qh:CC:=(.cond l8 (.seq Q7 .ret) (.seq Qe Qg))
def Qi:CC:=(.cond gb (.seq Q5 .ret) (.seq Q6 Qh))
def Qj:CC:=(.cond dL (.seq PY .ret) (.seq Q4 Qi))
def Qk:CC:=(.seq (.seq ap8 (.cond dL .skip PX)) Qj)
def Ql:CC:=(.seq ap6 (.cond z6 (.seq ap7 .ret) Qk))
def Qm:CC:=(.seq (.reg [(qq a5 (.mv z0))]) (.block 0 Ql))
def Qn:CC:=(.reg [(qq a2 (.mv (x6 0))),(qq a3 (.mv (x6 0))),(qq a4 (.mv xF))])
def c65:CF:= .mk 5 [.t a2,.t a3,.t a4] (.seq ap0 (.seq Qm (.seq Qn .ret)))
theorem e65(v0:V):bz 5 [v0]=(.n ow (some v0) ow):=rfl
def Bm:=ai @e65 (ai (wu ap0.eq_1) (ai (wu ap1.eq_1) (ai (wu ap2.eq_1) (ai (wu ap3.eq_1) (ai (wu ap4.eq_1) (ai (wu ap5.eq_1) (ai (wu ap6.eq_1) (ai (wu ap7.eq_1) (ai (wu ap8.eq_1) (ai (wu PX.eq_1) (ai (wu PY.eq_1) (ai (wu PZ.eq_1) (ai (wu Q0.eq_1) (ai (wu Q1.eq_1) (ai (wu Q2.eq_1) (ai (wu Q3.eq_1) (ai (wu Q4.eq_1) (ai (wu Q5.eq_1) (ai (wu Q6.eq_1) (ai (wu Q7.eq_1) (ai (wu Q8.eq_1) (ai (wu Q9.eq_1) (ai (wu Qa.eq_1) (ai (wu Qb.eq_1) (ai (wu Qc.eq_1) (ai (wu Qd.eq_1) (ai (wu Qe.eq_1) (ai (wu Qf.eq_1) (ai (wu Qg.eq_1) (ai (wu Qh.eq_1) (ai (wu Qi.eq_1) (ai (wu Qj.eq_1) (ai (wu Qk.eq_1) (ai (wu Ql.eq_1) (ai (wu Qm.eq_1) (wu Qn.eq_1))))))))))))))))))))))))))))))))))))
def Hg(s:List UInt8):Bool:=decide (s=[109,97,107,101])||decide (s=[97,119,97,121])||decide (s=[99,108,101,97,114])||decide (s=[109,111,118,101])||decide (s=[108,105,110,107])||decide (s=[114,105,103,104,116,115])
def Dn(s:List UInt8):Int×Int×Bool:=if(decide (s=[116,114,117,101])||decide (s=[102,97,108,115,101])||decide (s=[99,111,117,110,116])||decide (s=[117,112,112,101,114]))=true then(0,0,true)else if(decide (s=[101,99,104,111])||decide (s=[99,97,116]))=true then(0,-1,true)else if(decide (s=[102,105,114,115,116])||decide (s=[104,97,115])||decide (s=[97,119,97,121])||decide (s=[99,108,101,97,114]))=true then(1,1,true)else if(decide (s=[108,105,115,116]))=true then(0,1,true)else if(decide (s=[109,97,107,101])||decide (s=[109,111,118,101])||decide (s=[108,105,110,107])||decide (s=[114,105,103,104,116,115]))=true then(2,2,true)else(0,0,false)
def RX(x:Int×Int×Bool):V:= .t [.i .i64 x.1,.i .i64 x.2.1,.b x.2.2]
theorem t84(Φ:Nat→Option CF)(h:Φ 84=some c84)(s:List UInt8)(ct:Nat):To Φ 84 [sV s] ct (.b (Hg s)):=by
 refine eL h ?_
 have q0:cz .eql (sV s) (V.s 4 1701536109)=some (.b (decide (s=[109,97,107,101]))):=cG s [109,97,107,101]
 have q1:cz .eql (sV s) (V.s 4 2036430689)=some (.b (decide (s=[97,119,97,121]))):=cG s [97,119,97,121]
 have q2:cz .eql (sV s) (V.s 5 491260308579)=some (.b (decide (s=[99,108,101,97,114]))):=cG s [99,108,101,97,114]
 have q3:cz .eql (sV s) (V.s 4 1702260589)=some (.b (decide (s=[109,111,118,101]))):=cG s [109,111,118,101]
 have q4:cz .eql (sV s) (V.s 4 1802398060)=some (.b (decide (s=[108,105,110,107]))):=cG s [108,105,110,107]
 have q5:cz .eql (sV s) (V.s 6 126943805008242)=some (.b (decide (s=[114,105,103,104,116,115]))):=cG s [114,105,103,104,116,115]
 unfold Hg
 generalize decide (s=[109,97,107,101])=y0 at q0⊢
 generalize decide (s=[97,119,97,121])=y1 at q1⊢
 generalize decide (s=[99,108,101,97,114])=y2 at q2⊢
 generalize decide (s=[109,111,118,101])=y3 at q3⊢
 generalize decide (s=[108,105,110,107])=y4 at q4⊢
 generalize decide (s=[114,105,103,104,116,115])=y5 at q5⊢
 cases y0 with
 |true=>
  simp only[WX,B84,q0]
  try rfl
 |false=>
  cases y1 with
  |true=>
   simp only[WX,B84,q0,q1]
   try rfl
  |false=>
   cases y2 with
   |true=>
    simp only[WX,B84,q0,q1,q2]
    try rfl
   |false=>
    cases y3 with
    |true=>
     simp only[WX,B84,q0,q1,q2,q3]
     try rfl
    |false=>
     cases y4 with
     |true=>
      simp only[WX,B84,q0,q1,q2,q3,q4]
      try rfl
     |false=>
      cases y5 with
      |true=>
       simp only[WX,B84,q0,q1,q2,q3,q4,q5]
       try rfl
      |false=>
       simp only[WX,B84,q0,q1,q2,q3,q4,q5]
       try rfl
theorem t65(Φ:Nat→Option CF)(h:Φ 65=some c65)(s:List UInt8)(ct:Nat):To Φ 65 [sV s] ct (RX (Dn s)):=by
 refine eL h ?_
 have q0:cz .eql (sV s) (V.s 4 1702195828)=some (.b (decide (s=[116,114,117,101]))):=cG s [116,114,117,101]
 have q1:cz .eql (sV s) (V.s 5 435728179558)=some (.b (decide (s=[102,97,108,115,101]))):=cG s [102,97,108,115,101]
 have q2:cz .eql (sV s) (V.s 5 500069396323)=some (.b (decide (s=[99,111,117,110,116]))):=cG s [99,111,117,110,116]
 have q3:cz .eql (sV s) (V.s 5 491328139381)=some (.b (decide (s=[117,112,112,101,114]))):=cG s [117,112,112,101,114]
 have q4:cz .eql (sV s) (V.s 4 1869112165)=some (.b (decide (s=[101,99,104,111]))):=cG s [101,99,104,111]
 have q5:cz .eql (sV s) (V.s 3 7627107)=some (.b (decide (s=[99,97,116]))):=cG s [99,97,116]
 have q6:cz .eql (sV s) (V.s 5 500153084262)=some (.b (decide (s=[102,105,114,115,116]))):=cG s [102,105,114,115,116]
 have q7:cz .eql (sV s) (V.s 3 7561576)=some (.b (decide (s=[104,97,115]))):=cG s [104,97,115]
 have q8:cz .eql (sV s) (V.s 4 2036430689)=some (.b (decide (s=[97,119,97,121]))):=cG s [97,119,97,121]
 have q9:cz .eql (sV s) (V.s 5 491260308579)=some (.b (decide (s=[99,108,101,97,114]))):=cG s [99,108,101,97,114]
 have q10:cz .eql (sV s) (V.s 4 1953720684)=some (.b (decide (s=[108,105,115,116]))):=cG s [108,105,115,116]
 have q11:cz .eql (sV s) (V.s 4 1701536109)=some (.b (decide (s=[109,97,107,101]))):=cG s [109,97,107,101]
 have q12:cz .eql (sV s) (V.s 4 1702260589)=some (.b (decide (s=[109,111,118,101]))):=cG s [109,111,118,101]
 have q13:cz .eql (sV s) (V.s 4 1802398060)=some (.b (decide (s=[108,105,110,107]))):=cG s [108,105,110,107]
 have q14:cz .eql (sV s) (V.s 6 126943805008242)=some (.b (decide (s=[114,105,103,104,116,115]))):=cG s [114,105,103,104,116,115]
 unfold Dn
 generalize decide (s=[116,114,117,101])=y0 at q0⊢
 generalize decide (s=[102,97,108,115,101])=y1 at q1⊢
 generalize decide (s=[99,111,117,110,116])=y2 at q2⊢
 generalize decide (s=[117,112,112,101,114])=y3 at q3⊢
 generalize decide (s=[101,99,104,111])=y4 at q4⊢
 generalize decide (s=[99,97,116])=y5 at q5⊢
 generalize decide (s=[102,105,114,115,116])=y6 at q6⊢
 generalize decide (s=[104,97,115])=y7 at q7⊢
 generalize decide (s=[97,119,97,121])=y8 at q8⊢
 generalize decide (s=[99,108,101,97,114])=y9 at q9⊢
 generalize decide (s=[108,105,115,116])=y10 at q10⊢
 generalize decide (s=[109,97,107,101])=y11 at q11⊢
 generalize decide (s=[109,111,118,101])=y12 at q12⊢
 generalize decide (s=[108,105,110,107])=y13 at q13⊢
 generalize decide (s=[114,105,103,104,116,115])=y14 at q14⊢
 cases y0 with
 |true=>
  simp only[WX,Bm,q0]
  try rfl
 |false=>
  cases y1 with
  |true=>
   simp only[WX,Bm,q0,q1]
   try rfl
  |false=>
   cases y2 with
   |true=>
    simp only[WX,Bm,q0,q1,q2]
    try rfl
   |false=>
    cases y3 with
    |true=>
     simp only[WX,Bm,q0,q1,q2,q3]
     try rfl
    |false=>
     cases y4 with
     |true=>
      simp only[WX,Bm,q0,q1,q2,q3,q4]
      try rfl
     |false=>
      cases y5 with
      |true=>
       simp only[WX,Bm,q0,q1,q2,q3,q4,q5]
       try rfl
      |false=>
       cases y6 with
       |true=>
        simp only[WX,Bm,q0,q1,q2,q3,q4,q5,q6]
        try rfl
       |false=>
        cases y7 with
        |true=>
         simp only[WX,Bm,q0,q1,q2,q3,q4,q5,q6,q7]
         try rfl
        |false=>
         cases y8 with
         |true=>
          simp only[WX,Bm,q0,q1,q2,q3,q4,q5,q6,q7,q8]
          try rfl
         |false=>
          cases y9 with
          |true=>
           simp only[WX,Bm,q0,q1,q2,q3,q4,q5,q6,q7,q8,q9]
           try rfl
          |false=>
           cases y10 with
           |true=>
            simp only[WX,Bm,q0,q1,q2,q3,q4,q5,q6,q7,q8,q9,q10]
            try rfl
           |false=>
            cases y11 with
            |true=>
             simp only[WX,Bm,q0,q1,q2,q3,q4,q5,q6,q7,q8,q9,q10,q11]
             try rfl
            |false=>
             cases y12 with
             |true=>
              simp only[WX,Bm,q0,q1,q2,q3,q4,q5,q6,q7,q8,q9,q10,q11,q12]
              try rfl
             |false=>
              cases y13 with
              |true=>
               simp only[WX,Bm,q0,q1,q2,q3,q4,q5,q6,q7,q8,q9,q10,q11,q12,q13]
               try rfl
              |false=>
               cases y14 with
               |true=>
                simp only[WX,Bm,q0,q1,q2,q3,q4,q5,q6,q7,q8,q9,q10,q11,q12,q13,q14]
                try rfl
               |false=>
                simp only[WX,Bm,q0,q1,q2,q3,q4,q5,q6,q7,q8,q9,q10,q11,q12,q13,q14]
                try rfl
theorem RY(s:List UInt8):s=[116,114,117,101]∨s=[102,97,108,115,101]∨s=[99,111,117,110,116]∨s=[117,112,112,101,114]∨s=[101,99,104,111]∨s=[99,97,116]∨s=[102,105,114,115,116]∨s=[104,97,115]∨s=[108,105,115,116]∨s=[109,97,107,101]∨s=[97,119,97,121]∨s=[99,108,101,97,114]∨s=[109,111,118,101]∨s=[108,105,110,107]∨s=[114,105,103,104,116,115]∨(kn s=none∧Hg s=false∧Dn s=(0,0,false)):=by
 by_cases e0:s=[116,114,117,101]
 ·exact Or.inl e0
 by_cases e1:s=[102,97,108,115,101]
 ·exact .inr (.inl e1)
 by_cases e2:s=[99,111,117,110,116]
 ·exact .inr (.inr (.inl e2))
 by_cases e3:s=[117,112,112,101,114]
 ·exact .inr (.inr (.inr (.inl e3)))
 by_cases e4:s=[101,99,104,111]
 ·exact .inr (.inr (.inr (.inr (.inl e4))))
 by_cases e5:s=[99,97,116]
 ·exact .inr (.inr (.inr (.inr (.inr (.inl e5)))))
 by_cases e6:s=[102,105,114,115,116]
 ·exact .inr (.inr (.inr (.inr (.inr (.inr (.inl e6))))))
 by_cases e7:s=[104,97,115]
 ·exact .inr (.inr (.inr (.inr (.inr (.inr (.inr (.inl e7)))))))
 by_cases e8:s=[108,105,115,116]
 ·exact .inr (.inr (.inr (.inr (.inr (.inr (.inr (.inr (.inl e8))))))))
 by_cases e9:s=[109,97,107,101]
 ·exact .inr (.inr (.inr (.inr (.inr (.inr (.inr (.inr (.inr (.inl e9)))))))))
 by_cases e10:s=[97,119,97,121]
 ·exact .inr (.inr (.inr (.inr (.inr (.inr (.inr (.inr (.inr (.inr (.inl e10))))))))))
 by_cases e11:s=[99,108,101,97,114]
 ·exact .inr (.inr (.inr (.inr (.inr (.inr (.inr (.inr (.inr (.inr (.inr (.inl e11)))))))))))
 by_cases e12:s=[109,111,118,101]
 ·exact .inr (.inr (.inr (.inr (.inr (.inr (.inr (.inr (.inr (.inr (.inr (.inr (.inl e12))))))))))))
 by_cases e13:s=[108,105,110,107]
 ·exact .inr (.inr (.inr (.inr (.inr (.inr (.inr (.inr (.inr (.inr (.inr (.inr (.inr (.inl e13)))))))))))))
 by_cases e14:s=[114,105,103,104,116,115]
 ·exact .inr (.inr (.inr (.inr (.inr (.inr (.inr (.inr (.inr (.inr (.inr (.inr (.inr (.inr (.inl e14))))))))))))))
 refine .inr (.inr (.inr (.inr (.inr (.inr (.inr (.inr (.inr (.inr (.inr (.inr (.inr (.inr (.inr (⟨?_,?_,?_⟩)))))))))))))))
 ·unfold kn aT0;simp only[List.find?_cons,List.find?_nil,ag e0,ag e1,ag e2,ag e3,ag e4,ag e5,ag e6,ag e7,ag e8,ag e9,ag e10,ag e11,ag e12,ag e13,ag e14,Option.map_none]
 ·unfold Hg;simp only[ag e9,ag e10,ag e11,ag e12,ag e13,ag e14,Bool.or_self]
 ·unfold Dn;simp only[ag e0,ag e1,ag e2,ag e3,ag e4,ag e5,ag e6,ag e7,ag e8,ag e9,ag e10,ag e11,ag e12,ag e13,ag e14,Bool.or_self,bu,if_false]
abbrev eF:=List (List Pc)
def zO:eF→List UInt8
 |[p]::_=>p.1
 |_=>[]
def stS:eF→Bool
 |[p]::_=>p.2
 |_=>false
def HT(l:eF):List UInt8:=if stS l=true then[]else zO l
theorem DE{F:RO}{M:Mem}{c:Nat}{v:V}{ps:List Pc}(h:cA F M c 2 v (jm ps))(i:Nat)(hi:i<ps.length):∃b o,b<c∧(∀k,fF 2 v (.i k (i:Int))=some (.p b o))∧load1 F M b o=some (sV ps[i].1)∧load1 F M b (o+1)=some (.b ps[i].2):=by
 obtain⟨b,o,h1,h2,h3⟩:=h.at i (by rw[dv];exact hi)
 have e:(jm ps)[i]'(by rw[dv];exact hi)=ve ps[i]:=by simp[jm]
 rw[e]at h3
 have a0:=h3 0 (by simp[ve])
 have a1:=h3 1 (by simp[ve])
 exact⟨b,o,h1,h2,a0,a1⟩
theorem w81(Φ:Nat→Option CF)(h:Φ 81=some IW){F:RO}{M:Mem}{c:Nat}(ok:cK F M c){v:V}{l:eF}(hl:ff F M c v l):
 Calls Φ F 81 [.g [v]] M c fun r M' c'=>r=sV (zO l)∧Gr c M c' M':=by
 refine aN h ?_
 obtain⟨y1,y2,y3⟩:=hl.one
 have hG:∀v,flatten (V.g [v])=[v]:=fun _=>rfl
 have gX:=(Gr.refl ok).set c (af 42 [v]) (aj _) (ay _) (aH _)
 have m0:(M.set c (af 42 [v])).get c=some (af 42 [v]):=am _ _ _
 have n1:=hl.len
 have hX:=hl.grow gX
 have k0:load1 F (M.set c (af 42 [v])) c 0=some v:=au m0 0
 have hfr:=(gX.ok ok).free
 cases l with
 |nil=>
  simp only[WX,B81,hG,y3,k0,n1,Int.natCast_zero];exact⟨rfl,gX⟩
 |cons w r=>
  obtain⟨b,o,x,hbx,ia,ld,_,hw⟩:=cg.at1 hX 0 (by simp);have ia0:fF 1 v (.i .i64 0)=some (.p b o):=ia .i64;have hw:dw F (M.set c (af 42 [v])) (c+1) x w:=hw;have n2:=hw.len;generalize hN:(w::r).length=N at n1;have d1:decide ((N:Int)=0)=false:=ag (by rw[←hN,av];omega)
  match w,n2,hw with
  |[],n2,hw=>
   have d2:decide (¬((0:Int)=1))=true:=rfl;simp only[WX,B81,d2,hG,y3,k0,n1,d1,ia0,ld,n2,Int.natCast_zero,aB];exact⟨rfl,gX⟩
  |p::q::t,n2,hw=>
   generalize hN2:(p::q::t).length=N2 at n2;have d2:decide (¬((N2:Int)=1))=true:=ah (by rw[←hN2,av,av];omega);simp only[WX,B81,hG,y3,k0,n1,d1,ia0,ld,n2,d2,aB];exact⟨rfl,gX⟩
  |[p],n2,hw=>
   obtain⟨b1,o1,hb1,ia1,ld1⟩:=Sm hw.1 0 (by simp);have ia1:fF 2 x (.i .i64 0)=some (.p b1 o1):=ia1 .i64;have ld1:load1 F (M.set c (af 42 [v])) b1 o1=some (sV p.1):=ld1;generalize hN2:([p]:List Pc).length=N2 at n2;have d2:decide (¬((N2:Int)=1))=false:=ag (fun e=>e (by rw[←hN2];rfl));simp only[WX,B81,hG,y3,k0,n1,d1,ia0,ld,n2,d2,ia1,ld1,aB];exact⟨rfl,gX⟩
theorem w66(Φ:Nat→Option CF)(h:Φ 66=some c66){F:RO}{M:Mem}{c:Nat}(ok:cK F M c){v:V}{l:eF}(hl:ff F M c v l):
 Calls Φ F 66 [.g [v]] M c fun r M' c'=>r=sV (HT l)∧Gr c M c' M':=by
 refine aN h ?_
 obtain⟨y1,y2,y3⟩:=hl.one
 have hG:∀v,flatten (V.g [v])=[v]:=fun _=>rfl
 have gX:=(Gr.refl ok).set c (af 42 [v]) (aj _) (ay _) (aH _)
 have m0:(M.set c (af 42 [v])).get c=some (af 42 [v]):=am _ _ _
 have n1:=hl.len
 have hX:=hl.grow gX
 have k0:load1 F (M.set c (af 42 [v])) c 0=some v:=au m0 0
 have hfr:=(gX.ok ok).free
 cases l with
 |nil=>
  simp only[WX,B66,hG,y3,k0,n1,Int.natCast_zero];exact⟨rfl,gX⟩
 |cons w r=>
  obtain⟨b,o,x,hbx,ia,ld,_,hw⟩:=cg.at1 hX 0 (by simp);have ia0:fF 1 v (.i .i64 0)=some (.p b o):=ia .i64;have hw:dw F (M.set c (af 42 [v])) (c+1) x w:=hw;have n2:=hw.len;generalize hN:(w::r).length=N at n1;have d1:decide ((N:Int)=0)=false:=ag (by rw[←hN,av];omega)
  match w,n2,hw with
  |[],n2,hw=>
   have d2:decide (¬((0:Int)=1))=true:=rfl;simp only[WX,B66,d2,hG,y3,k0,n1,d1,ia0,ld,n2,Int.natCast_zero,aB];exact⟨rfl,gX⟩
  |p::q::t,n2,hw=>
   generalize hN2:(p::q::t).length=N2 at n2;have d2:decide (¬((N2:Int)=1))=true:=ah (by rw[←hN2,av,av];omega);simp only[WX,B66,hG,y3,k0,n1,d1,ia0,ld,n2,d2,aB];exact⟨rfl,gX⟩
  |[p],n2,hw=>
   obtain⟨b1,o1,hb1,ia1,ld1,ld2⟩:=DE hw.1 0 (by simp);have ia1:fF 2 x (.i .i64 0)=some (.p b1 o1):=ia1 .i64;have ld1:load1 F (M.set c (af 42 [v])) b1 o1=some (sV p.1):=ld1;have ld2:load1 F (M.set c (af 42 [v])) b1 (o1+1)=some (.b p.2):=ld2;generalize hN2:([p]:List Pc).length=N2 at n2;have d2:decide (¬((N2:Int)=1))=false:=ag (fun e=>e (by rw[←hN2];rfl));obtain⟨s,st⟩:=p;cases st with
   |true=>
    simp only[WX,B66,hG,y3,k0,n1,d1,ia0,ld,n2,d2,ia1,ld2,aB];exact⟨rfl,gX⟩
   |false=>
    simp only[WX,B66,hG,y3,k0,n1,d1,ia0,ld,n2,d2,ia1,ld1,ld2,aB];exact⟨rfl,gX⟩
def h84:List V→Option V
 |[v]=>(qM v).bind fun l=>some (.b (Hg l))
 |_=>none
theorem aS5(l:List UInt8):h84 [sV l]=some (.b (Hg l)):=by
 show(qM (sV l)).bind (fun l=>some (V.b (Hg l)))=_
 rw[lJ,Option.bind_some]
def h65:List V→Option V
 |[v]=>(qM v).bind fun l=>some (RX (Dn l))
 |_=>none
theorem aS3(l:List UInt8):h65 [sV l]=some (RX (Dn l)):=by
 show(qM (sV l)).bind (fun l=>some (RX (Dn l)))=_
 rw[lJ,Option.bind_some]
theorem w67(Φ:Nat→Option CF)(h:Φ 67=some c67)(h66:Φ 66=some c66)(h84:Φ 84=some (.orc (aO h84))){F:RO}{M:Mem}{c:Nat}(ok:cK F M c){v:V}{l:eF}(hl:ff F M c v l):
 Calls Φ F 67 [.g [v]] M c fun r M' c'=>r= .b (Hg (HT l))∧Gr c M c' M':=by
 refine aN h ?_
 obtain⟨y1,y2,y3⟩:=hl.one
 have hG:∀v,flatten (V.g [v])=[v]:=fun _=>rfl
 have gX:=(Gr.refl ok).set c (af 42 [v]) (aj _) (ay _) (aH _)
 have m0:(M.set c (af 42 [v])).get c=some (af 42 [v]):=am _ _ _
 have hX:=hl.grow gX
 have k0:loadN F (M.set c (af 42 [v])) c 0 1=some [v]:=aY m0 1 rfl
 simp only[WX,B67,hG,y3,k0]
 refine aD ((w66 Φ h66 (gX.ok ok) hX).mono ?_)
 rintro r M2 c2 ⟨rfl,g2⟩
 have hh:=aS5 (HT l)
 simp only[WX,h84,hh]
 exact gX.trans g2
theorem aB6(s:List UInt8)(f:V→V)(z:V):(match (tP.find? fun e=>decide (s=e.1))with|some e=>f e.2|none=>z)=match kn s with|some x=>f (nvV x)|none=>z:=by
 have:=aS9 s
 cases h1:(tP.find? fun e=>decide (s=e.1))with
 |none=>rw[h1]at this;cases h2:kn s with
  |none=>rfl
  |some x=>rw[h2]at this;cases this
 |some e=>rw[h1]at this;cases h2:kn s with
  |none=>rw[h2]at this;cases this
  |some x=>rw[h2]at this;have h3:e.2=nvV x:=ae this;show f e.2=f (nvV x);rw[h3]
theorem bY0{F:RO}{M:Mem}{b:Nat}(s:List UInt8)(zero:V)(hM:M.get b=some Xa):
 lkQ .str zero false F M (.m b) (sV s)= .r (match kn s with|some x=>nvV x|none=>zero) b:=by
 have:=aB5 (F:=F) (M:=M) (b:=b) (n:=15) (zero:=zero) (ok:=false) (l:=tP) s (az hM)
 rw[this]
 exact congrArg (fun v=>QR.r v b) (aB6 s id zero)
theorem bB7{F:RO}{M:Mem}{b:Nat}(s:List UInt8)(zero:V)(hM:M.get b=some Xa):
 lkQ .str zero true F M (.m b) (sV s)= .r (match kn s with|some x=> .t [nvV x,.b true]|none=> .t [zero,.b false]) b:=by
 have:=aB5 (F:=F) (M:=M) (b:=b) (n:=15) (zero:=zero) (ok:=true) (l:=tP) s (az hM)
 rw[this]
 exact congrArg (fun v=>QR.r v b) (aB6 s (fun v=> .t [v,.b true]) (.t [zero,.b false]))
theorem F7{l:eF}{x:Int×Int×Bool}(h:kn (zO l)=some x):∃p r,l=[p]::r:=by
 match l,h with
 |[p]::r,_=>exact⟨p,r,rfl⟩
 |[],h=>exact absurd h (by have:kn (zO [])=none:=rfl;rw[this];simp)
 |[]::_,h=>exact absurd h (by have:kn (zO ([]::[]))=none:=rfl;exact fun e=>by cases this.symm.trans e)
 |(_::_::_)::_,h=>exact absurd h (by have:kn []=none:=rfl;exact fun e=>by cases this.symm.trans e)
theorem D0{F:RO}(off:Nat)(x:X)(M:Mem)(t:T):lq (.fl1 off x) F M t=oV (match x.ev t with| .g cs=>cs[off]?|_=>none):=by
 refine(fE ?_).trans (congrArg oV (aF7 (F:=F) off x M t))
 intro F' M'
 show(DB (x.ev t) .f fun cs=>qr (oT cs off))=oV (DB (x.ev t) .f fun cs=>qr (oT cs off)).val
 cases x.ev t with
 |g cs=>
  show qr (oT cs off)=oV (qr (oT cs off)).val;cases oT cs off<;>rfl
 |_=>rfl
def Wg(l:eF):Bool:=match kn (zO l)with
 |some x=>x.2.2&& !stS l
 |none=>false
theorem w63(Φ:Nat→Option CF)(h:Φ 63=some Vn)(h80:Φ 80=some IV)(h81:Φ 81=some IW){F:RO}{M:Mem}{c:Nat}(ok:cK F M c){v:V}{l:eF}(hl:ff F M c v l):
 Calls Φ F 63 [.g [v]] M c fun r M' c'=>r= .b (Wg l)∧Gr c M c' M':=by
 refine aN h ?_
 obtain⟨y1,y2,y3⟩:=hl.one
 have hG:∀v,flatten (V.g [v])=[v]:=fun _=>rfl
 have gX:=(Gr.refl ok).set c (af 42 [v]) (aj _) (ay _) (aH _)
 have m0:(M.set c (af 42 [v])).get c=some (af 42 [v]):=am _ _ _
 have hX:=hl.grow gX
 have k0:loadN F (M.set c (af 42 [v])) c 0 1=some [v]:=aY m0 1 rfl
 have hfr:=(gX.ok ok).free
 simp only[WX,Nat.reduceAdd,B63,hG,y3,k0]
 generalize M.set c (af 42 [v])=X at gX m0 hX k0 hfr⊢
 have okX:=gX.ok ok
 have g4:Gr (c+1) X (c+18) X:=(Gr.refl okX).up (by omega)
 refine nJ _ _ _ _ _ _ _ _ _ _ _ (g4.ok okX) ?_
 intro F1 N1 okn hlk
 refine(show lw (cT (iu Φ) F1 80 [] N1 (c+18) (Φ 80)) _ from(w80 Φ h80 okn).mono ?_)
 rintro v1 M5 c5 ⟨rfl,hM5,rfl⟩
 refine⟨by rw[hM5];exact(Gr.refl okn).set (c+18) Xa (aj _) (ay _) (aH _),fun M3 g3 hM3=>?_⟩
 have hnm:M3.get (c+18)=some Xa:=by rw[hM3 _ (aj _),hM5];exact am _ _ _
 have g5:=g4.trans g3
 have ok3:=g5.ok okX
 clear hM3 hM5 hlk okn g3
 simp only[WX,Nat.reducePow,Nat.reduceDiv,Nat.reduceMod,Nat.reduceBEq,Nat.reduceAdd,fW]
 refine du ((w81 Φ h81 ok3 (hX.grow g5)).mono ?_)
 rintro v2 M6 c6 ⟨rfl,g6⟩
 have g7:=g5.trans g6
 have ok6:=g7.ok okX
 have hfr6:=ok6.free
 refine⟨hfr6,?_⟩
 have hnm:M6.get (c+18)=some Xa:=(g6.old _ (by omega)).trans hnm
 have hlk:=bY0 (F:=F) (zO l) (V.g [V.i IntKind.i64 0,V.i IntKind.i64 0,V.b false]) hnm
 have hX6:=hX.grow g7
 have k0:load1 F M6 c 0=some v:=(g7.load1 (by omega) _).trans (au m0 0)
 cases hk:kn (zO l)with
 |none=>
  rw[hk]at hlk;simp only[WX,Fd,hlk,D0];exact⟨by unfold Wg;rw[hk],gX.trans g7⟩
 |some x=>
  rw[hk]at hlk;obtain⟨y,yb,yc⟩:=x;have hlk:lkQ Sh.str (V.g [V.i IntKind.i64 0,V.i IntKind.i64 0,V.b false]) false F M6 (V.m (c+18)) (sV (zO l))=QR.r (.g [.i .i64 y,.i .i64 yb,.b yc]) (c+18):=hlk;have hre:Wg l=(yc&& !stS l):=by unfold Wg;rw[hk]
  rw[hre];clear hre;cases yc with
  |false=>
   simp only[WX,Fd,hlk,D0];exact⟨rfl,gX.trans g7⟩
  |true=>
   obtain⟨p,r,rfl⟩:=F7 hk;obtain⟨b,o,x,hbx,ia,ld,_,hw⟩:=cg.at1 hX6 0 (by simp);have ia0:fF 1 v (.i .i64 0)=some (.p b o):=ia .i64;have hw:dw F M6 c6 x [p]:=hw;obtain⟨b1,o1,hb1,ia1,ld1,ld2⟩:=DE hw.1 0 (by simp);have ia1:fF 2 x (.i .i64 0)=some (.p b1 o1):=ia1 .i64;have ld2:load1 F M6 b1 (o1+1)=some (.b p.2):=ld2;simp only[WX,Fd,hlk,D0,k0,ia0,ld,ia1,ld2,aB];exact⟨rfl,gX.trans g7⟩
abbrev bH1(u:List (Option V))(x0 x1 x6 x7 x8:V):T:=(.n (.n (.n (.n (gq u 15) (some x7) (gq u 23)) (uO u 3) (fq u 19 11 27)) (some x1) (aq u 17 9 25 5 21 13 29)) (some x0) (.n (.n (.n (gq u 16) (some x8) (gq u 24)) (uO u 4) (fq u 20 12 28)) (uO u 2) (.n (fq u 18 10 26) (some x6) (fq u 22 14 30))))
def aw0:CC:=(.reg [(aa a1 (.bx 36 1 z0)),(qq a2 (.mv xF))])
def aw1:CC:=(.reg [(qq a3 (.ldn 1 z1)),(ee a4 (.call 61 [z3])),(qq a5 (.un .not z4)),(qq a2 (.mv z5))])
def Hd:CF:= .mk 3 [.t a2] (.seq aw0 (.seq aw1 .ret))
theorem e83(v0:V):bz 3 [v0]=(.n re (some v0) re):=rfl
def B83:=ai @e83 (ai (wu aw0.eq_1) (wu aw1.eq_1))
def ax8:CC:=(.reg [(qq a4 (.mv (x6 0)))])
def ax9:CC:=(.reg [(qq a6 (.mv z0)),(qq a7 (.ln .slice z6)),(qq a8 (.mv (x6 0)))])
def ay0:CC:=(.reg [(qq a9 (.bi .lss z8 z7))])
def ay1:CC:=(.reg [(qq dT (.mv z8)),(qq a5 (.mv ft))])
def ay2:CC:=(.reg [(qq eP (.mv z1)),(qq fg (.mv z0)),(qq eQ (.mv z5)),(qq fh (.iaS 1 eN ed)),(qq dM (.ldn 1 gb)),(ee fu (.cv dL [gK]))])
def ay3:CC:=(.reg [(qq gL (.mv z5)),(qq a4 (.mv iB))])
def ay4:CC:=(.seq ay2 (.cond iA (.seq ay3 .ret) .skip))
def ay5:CC:=(.reg [(qq fy (.bi .add z8 (x6 1))),(qq a8 (.mv iC))])
def ay6:CC:=(.seq (.cond z9 .skip (.exit 0)) (.seq (.block 1 (.seq ay1 ay4)) ay5))
def QD:CC:=(.reg [(qq a4 (.mv (x6 (-1))))])
def QE:CC:=(.seq (.seq ax9 (.block 0 (.loop (.seq ay0 ay6)))) (.seq QD .ret))
def IX:CF:= .mk 5 [.t a4] (.seq ax8 QE)
theorem e90(v0 v1:V):bz 5 [v0,v1]=(.n (.n jp (some v1) jp) (some v0) ow):=rfl
def B90:=ai @e90 (ai (wu ax8.eq_1) (ai (wu ax9.eq_1) (ai (wu ay0.eq_1) (ai (wu ay1.eq_1) (ai (wu ay2.eq_1) (ai (wu ay3.eq_1) (ai (wu ay4.eq_1) (ai (wu ay5.eq_1) (ai (wu ay6.eq_1) (ai (wu QD.eq_1) (wu QE.eq_1)))))))))))
def av8:CC:=(.reg [(qq a4 (.mv xF))])
def av9:CC:=(.reg [(qq a5 (.mv z0)),(qq a6 (.mv z1)),(ee a7 (.call 90 [z5,z6])),(qq a8 (.bi .geq z7 (x6 0))),(qq a4 (.mv z8))])
def QT:CF:= .mk 4 [.t a4] (.seq av8 (.seq av9 .ret))
theorem e82(v0 v1:V):bz 4 [v0,v1]=(.n (.n re (some v1) re) (some v0) jp):=rfl
def B82:=ai @e82 (ai (wu av8.eq_1) (wu av9.eq_1))
def an6:CC:=(.reg [(aa a1 (.bx 42 1 z0)),(qq a2 (.mv xF))])
def an7:CC:=(.dreg 10 [(1,0,(qq a8 (.ldn 1 z1))),(7,0,(aa a3 (.al 121 [(.i .i64 0),(.i .i64 0),(.b false)]))),(0,0,(ee a7 (.call 80 []))),(2,3,(ee a9 (.call 81 [z8]))),(3,7,(qq dT (.lk .str (.g [(.i .i64 0),(.i .i64 0),(.b false)]) true z7 z9))),(4,15,(qq a6 (.mv ft))),(5,31,(qq eP (.ex 0 z6))),(6,31,(qq fg (.ex 1 z6))),(8,191,(ez (.st 3 z3 dL))),(9,511,(qq a4 (.mv eN)))])
def an8:CC:=(.reg [(qq eQ (.fa 0 z1)),(qq fh (.ld1 ed)),(qq dM (.ln .slice gb)),(qq fu (.bi .sub gK (x6 1))),(qq a5 (.mv iA))])
def an9:CC:=(.reg [(qq gL (.mv z4)),(qq fy (.mv iB)),(aF jr (.fa 0 z1) fy),(aF gH (.ld1 l8) fy),(aF fY (.iaS 1 la (x6 0)) fy),(aF jt (.fa 0 kL) fy),(aF gU (.ld1 lA) fy),(aF jX (.iaS 2 lg (x6 0)) fy),(aF gv (.fa 1 kM) fy),(aF kd (.ld1 lB) fy),(aF gV (.un .not nl) fy),(qq lE (.pk iC nn xF)),(qq ip (.mv nK)),(aF ke (.mv z5) ip),(aF lj (.fa 0 z3) ip),(aF np (.ld1 pq) ip),(aF nM (.bi .geq oz pz) ip),(qq jY (.pk ot ru xF)),(qq jZ (.mv rv)),(aF nN (.fa 1 z3) jZ),(aF k8 (.ld1 sC) jZ),(aF nq (.bi .lss qF (x6 0)) jZ),(aF mN (.mv rU) jZ),(aA pC (.mv z5) mN),(aA js (.fa 1 z3) mN),(aA lF (.ld1 ry) mN),(aA pD (.bi .leq sD sE) mN),(aF ng (.pk rV xT sF) jZ),(qq pE (.pk rx rW xF)),(qq lG (.mv rX)),(aF pF (.fa 0 z1) lG),(aF kQ (.ld1 sG) lG),(lW nh (.call 82 [uE,(.c (.f 83 [] []))]) lG),(aF px (.un .not vn) lG),(qq rA (.pk vm vp xF)),(qq a2 (.mv uM))])
def IU:CF:= .mk 6 [.t a2] (.seq an6 (.seq an7 (.seq an8 (.seq an9 .ret))))
theorem e62(v0:V):bz 6 [v0]=(.n qw (some v0) qw):=rfl
def B62:=ai @e62 (ai (wu an6.eq_1) (ai (wu an7.eq_1) (ai (wu an8.eq_1) (wu an9.eq_1))))
def J9(l:eF):Prop:=∀w∈l,∀p∈w,p.1.length≤1000000
theorem w83(Φ:Nat→Option CF)(h:Φ 83=some Hd)(h61:Φ 61=some F5)(h77:Φ 77=some (.orc (aO h77))){F:RO}{M:Mem}{c:Nat}(ok:cK F M c){v:V}{w:List Pc}(hw:dw F M c v w)(hp:∀p∈w,p.1.length≤1000000):
 Calls Φ F 83 [.g [v]] M c fun r M' c'=>r= .b (!cP w)∧Gr c M c' M':=by
 refine aN h ?_
 obtain⟨y1,y2,y3⟩:=hw.one
 have hG:∀v,flatten (V.g [v])=[v]:=fun _=>rfl
 have gX:=(Gr.refl ok).set c (af 36 [v]) (aj _) (ay _) (aH _)
 have m0:(M.set c (af 36 [v])).get c=some (af 36 [v]):=am _ _ _
 have hX:=hw.grow gX
 have k0:loadN F (M.set c (af 36 [v])) c 0 1=some [v]:=aY m0 1 rfl
 simp only[WX,B83,hG,y3,k0]
 refine aD ((w61 Φ h61 h77 (gX.ok ok) hX hp).mono ?_)
 rintro r M2 c2 ⟨rfl,g2⟩
 simp only[WX]
 exact gX.trans g2
theorem w90(Φ:Nat→Option CF)(h:Φ 90=some IX)(h83:Φ 83=some Hd)(h61:Φ 61=some F5)(h77:Φ 77=some (.orc (aO h77))){F:RO}{M:Mem}{c:Nat}(ok:cK F M c){v:V}{l:eF}(hl:ff F M c v l)(hs:J9 l):
 Calls Φ F 90 [v,.f 83 [] []] M c fun r M' c'=>(∃z:Int,r= .i .i64 z∧decide (0≤z)= !(l.all cP))∧Gr c M c' M':=by
 refine aN h ?_
 have n1:=hl.len
 have mx:=hl.max
 simp only[WX,B90,n1]
 obtain⟨I,hI⟩:∃I:Nat→St→Prop,∀n s',I n s'↔(∃(i c1:Nat) (M1:Mem) (u:List (Option V)),n=l.length-i∧i≤l.length∧s'= .mk ((bH1 u v (.f 83 [] []) v (.i .i64 (l.length:Int)) (.i .i64 (i:Int)))) [] M1 c1∧Gr c M c1 M1∧l.all cP=(l.drop i).all cP):=⟨fun n s'=>_,fun _ _=>Iff.rfl⟩
 refine bw I ?_ l.length _ ((hI _ _).2 ⟨0,_,_,(G2 (X4 (G2 (G1 (bB (X4 (X2 []))))))),rfl,ax _,rfl,Gr.refl ok,rfl⟩)
 intro n s' hIs
 obtain⟨i,c1,M1,u,rfl,hi,rfl,gr1,hb⟩:=(hI _ _).1 hIs
 clear hIs
 by_cases hlt:i<l.length
 ·have q8:cz .add (.i .i64 (i:Int)) (.i .i64 1)=some (.i .i64 ((i+1:Nat):Int)):=by rw[aX _ _ (by omega) (by omega)];simp
  have d1:decide ((i:Int)<(l.length:Int))=true:=ah (by omega);obtain⟨b,o,x,hbx,ia,_,ld,hw⟩:=cg.at1 (hl.grow gr1) i hlt;have ia:=ia .i64;have hd:l.drop i=l[i]::l.drop (i+1):=bX hlt;rw[hd,List.all_cons]at hb;have hsi:=hs l[i] (List.getElem_mem _);generalize l[i]=w at hb hw hsi;simp only[WX,B90,d1,ia,ld];refine aD ((w83 Φ h83 h61 h77 (gr1.ok ok) hw hsi).mono ?_);rintro r M2 c2 ⟨rfl,g2⟩;cases hf:cP w with
  |true=>
   rw[hf]at hb;simp only[WX,B90,q8];exact⟨l.length-(i+1),by omega,(hI _ _).2 ⟨i+1,_,_,(G2 (X4 (G2 (G1 (bB (X4 (X2 []))))))),rfl,hlt,rfl,gr1.trans g2,hb⟩⟩
  |false=>
   rw[hf]at hb;simp only[WX,B90];exact⟨⟨_,rfl,by rw[hb];exact ah (by omega)⟩,gr1.trans g2⟩
 ·obtain rfl:i=l.length:=by omega
  have d1:decide ((l.length:Int)<(l.length:Int))=false:=ag (by omega);rw[cm]at hb;simp only[WX,B90,d1];exact⟨⟨_,rfl,by rw[hb];rfl⟩,gr1⟩
theorem w82(Φ:Nat→Option CF)(h:Φ 82=some QT)(h90:Φ 90=some IX)(h83:Φ 83=some Hd)(h61:Φ 61=some F5)(h77:Φ 77=some (.orc (aO h77))){F:RO}{M:Mem}{c:Nat}(ok:cK F M c){v:V}{l:eF}(hl:ff F M c v l)(hs:J9 l):
 Calls Φ F 82 [v,.f 83 [] []] M c fun r M' c'=>r= .b (!(l.all cP))∧Gr c M c' M':=by
 refine aN h ?_
 simp only[WX,B82]
 refine aD ((w90 Φ h90 h83 h61 h77 ok hl hs).mono ?_)
 rintro r M2 c2 ⟨⟨z,rfl,hz⟩,g2⟩
 simp only[WX,hz]
 exact g2
def nv(l:eF):Bool:=match kn (zO l)with
 |some x=> !stS l&&(decide (x.1≤(l.length:Int)-1)&&((decide (x.2.1<0)||decide ((l.length:Int)-1≤x.2.1))&&l.all cP))
 |none=>false
theorem w62(Φ:Nat→Option CF)(h:Φ 62=some IU)(h80:Φ 80=some IV)(h81:Φ 81=some IW)(h82:Φ 82=some QT)(h90:Φ 90=some IX)(h83:Φ 83=some Hd)(h61:Φ 61=some F5)(h77:Φ 77=some (.orc (aO h77))){F:RO}{M:Mem}{c:Nat}(ok:cK F M c){v:V}{l:eF}(hl:ff F M c v l)(hs:J9 l):
 Calls Φ F 62 [.g [v]] M c fun r M' c'=>r= .b (nv l)∧Gr c M c' M':=by
 refine aN h ?_
 obtain⟨y1,y2,y3⟩:=hl.one
 have hG:∀v,flatten (V.g [v])=[v]:=fun _=>rfl
 have gX:=(Gr.refl ok).set c (af 42 [v]) (aj _) (ay _) (aH _)
 have m0:(M.set c (af 42 [v])).get c=some (af 42 [v]):=am _ _ _
 have hX:=hl.grow gX
 have k0:loadN F (M.set c (af 42 [v])) c 0 1=some [v]:=aY m0 1 rfl
 have hfr:=(gX.ok ok).free
 simp only[WX,Nat.reduceAdd,B62,hG,y3,k0]
 generalize M.set c (af 42 [v])=X at gX m0 hX k0 hfr⊢
 have okX:=gX.ok ok
 have lk1:(look F X (c+8)).isNone=true:=by rw[okX.look (by omega)];rfl
 have rf1:bU (c+8) [(1,c)]=true:=by rw[aU _ _ _ _ (by omega),cF]
 simp only[WX,Nat.reduceAdd,uw,mj,lk1,rf1]
 have TB0:testBit 0 7=false:=by decide+kernel
 have TB3:testBit 3 7=false:=by decide+kernel
 have g4:Gr (c+1) X (c+11) X:=(Gr.refl okX).up (by omega)
 obtain⟨Z,hZ⟩:∃Z:List V,Z=[.i .i64 0,.i .i64 0,.b false]:=⟨_,rfl⟩
 refine UU _ _ _ _ _ _ _ _ _ _ _ _ (g4.ok okX) (by rw[List.all_cons,List.all_nil,TB0];rfl) (by intro e he;rw[List.mem_singleton]at he;subst he;exact⟨by show c+8<c+11;omega,okX.look (show c+1≤c+8 by omega)⟩) ?_
 intro F1 N1 okn hlk
 refine(show lw (cT (iu Φ) F1 80 [] N1 (c+11) (Φ 80)) _ from(w80 Φ h80 okn).mono ?_)
 rintro v1 M5 c5 ⟨rfl,hM5,rfl⟩
 refine⟨by rw[hM5];exact(Gr.refl okn).set (c+11) Xa (aj _) (ay _) (aH _),fun M3 g3 hM3=>?_⟩
 have hnm:M3.get (c+11)=some Xa:=by rw[hM3 _ (aj _),hM5];exact am _ _ _
 have g5:=g4.trans g3
 have ok3:=g5.ok okX
 have lk2:look F M3 (c+8)=none:=by
  obtain⟨e1,e2⟩:=gj (okX.look (show c+1≤c+8 by omega));exact ig ((g3.old _ (by omega)).trans e1) e2
 clear hM3 hM5 hlk okn
 simp only[WX,Nat.reduceAdd]
 refine UU _ _ _ _ _ _ _ _ _ _ _ _ ok3 (by rw[List.all_cons,List.all_nil,TB3];rfl) (by intro e he;rw[List.mem_singleton]at he;subst he;exact⟨by show c+8<c+11+1;omega,lk2⟩) ?_
 intro F1 N1 okn hlk
 refine(show lw (cT (iu Φ) F1 81 [.g [v]] N1 (c+11+1) (Φ 81)) _ from(w81 Φ h81 okn ((hX.grow g5).lk hlk)).mono ?_)
 rintro v1 M5 c5 ⟨rfl,g6'⟩
 refine⟨g6',fun M6 g6 _=>?_⟩
 have g7:=g5.trans g6
 have ok6:=g7.ok okX
 have hle6:=g6.le
 have hnm:M6.get (c+11)=some Xa:=(g6.old _ (by omega)).trans hnm
 have lk3:look F M6 (c+8)=none:=by
  obtain⟨e1,e2⟩:=gj lk2;exact ig ((g6.old _ (by omega)).trans e1) e2
 clear hlk okn g6'
 have hlk:=bB7 (F:=F) (zO l) (V.g [V.i IntKind.i64 0,V.i IntKind.i64 0,V.b false]) hnm
 obtain⟨E1,E2,E3,fl,hE,hkn⟩:∃E1 E2 E3 fl,lkQ Sh.str (V.g [V.i IntKind.i64 0,V.i IntKind.i64 0,V.b false]) true F M6 (V.m (c+11)) (sV (zO l))=QR.r (.t [.g [.i .i64 E1,.i .i64 E2,.b E3],.b fl]) (c+11)∧(kn (zO l)=some (E1,E2,E3)∧fl=true∨kn (zO l)=none∧fl=false):=by
  cases hk:kn (zO l)with
  |none=>rw[hk]at hlk;exact⟨0,0,false,false,hlk,.inr ⟨rfl,rfl⟩⟩
  |some x=>rw[hk]at hlk;exact⟨x.1,x.2.1,x.2.2,true,hlk,.inl ⟨rfl,rfl⟩⟩
 have hfr6:=ok6.free
 simp only[WX,Fd,hE]
 have gB:Gr (c+1) X c5 (M6.set (c+8) (af 121 [.i .i64 0,.i .i64 0,.b false])):=g7.set (c+8) _ (by omega) (by omega) (aj _)
 have TB191:testBit 191 7=true:=by decide+kernel
 refine UV (M1:=M6.set (c+8) (af 121 [.i .i64 0,.i .i64 0,.b false])) (b:=c+8) (ty:=121) (z:=[.i .i64 0,.i .i64 0,.b false]) (e:=[.i .i64 E1,.i .i64 E2,.b E3]) _ _ _ _ _ _ _ _ _ _ _ _ _ (by rw[List.all_cons,List.all_nil,TB191];rfl) (by rw[eW,ii]) (am _ _ _) rfl rfl rfl rfl rfl (by rw[aU _ _ _ _ (by omega),aU _ _ _ _ (by omega),cF]) (gB.ok okX).free ?_
 intro N1 hN1
 rw[pj]at hN1
 have hb8:N1.get (c+8)=some (af 121 [.i .i64 E1,.i .i64 E2,.b E3]):=by rw[hN1];exact am _ _ _
 have gN:Gr (c+1) X c5 N1:=⟨gB.le,fun b hb=>by rw[hN1,ak _ _ (by omega)];exact g7.old b hb,fun b hb=>by rw[hN1,ak _ _ (by omega)];exact g7.new b hb⟩
 have k0:load1 F N1 c 0=some v:=(gN.load1 (by omega) _).trans (au m0 0)
 have okN:=gN.ok okX
 have hXN:=hX.grow gN
 have n1:=hl.len
 have mx:=hl.max
 have e1:load1 F N1 (c+8) 0=some (.i .i64 E1):=au hb8 0
 have e2:load1 F N1 (c+8) 1=some (.i .i64 E2):=au hb8 1
 have sb:cz .sub (.i .i64 (l.length:Int)) (.i .i64 1)=some (.i .i64 ((l.length:Int)-1)):=se _ _ (by omega) (by omega)
 clear hN1 hb8 gB hE hlk lk3 lk2 hnm
 rcases hkn with⟨hk,rfl⟩|⟨hk,rfl⟩
 ·obtain⟨p,r,rfl⟩:=F7 hk;obtain⟨b,o,x,hbx,ia,ld,_,hw⟩:=cg.at1 hXN 0 (by simp);have ia0:fF 1 v (.i .i64 0)=some (.p b o):=ia .i64;have hw:dw F N1 c5 x [p]:=hw;obtain⟨b1,o1,hb1,ia1,ld1,ld2⟩:=DE hw.1 0 (by simp);have ia1:fF 2 x (.i .i64 0)=some (.p b1 o1):=ia1 .i64;have ld2:load1 F N1 b1 (o1+1)=some (.b p.2):=ld2;have hre:nv ([p]::r)=(!p.2&&(decide (E1≤((([p]::r).length:Nat):Int)-1)&&((decide (E2<0)||decide (((([p]::r).length:Nat):Int)-1≤E2))&&([p]::r).all cP))):=by unfold nv;rw[hk];rfl
  rw[hre];clear hre;have hL82:=fun(hX:ff F N1 c5 v ([p]::r))=>w82 Φ h82 h90 h83 h61 h77 okN hX hs;obtain⟨L,hL⟩:∃L:Nat,L=([p]::r).length:=⟨_,rfl⟩
  rw[←hL]at n1 sb⊢;obtain⟨s,st⟩:=p;have ld2:load1 F N1 b1 (o1+1)=some (.b st):=ld2;cases st with
  |true=>
   simp only[WX,B62,k0,n1,sb,ia0,ld,ia1,ld2,aB];exact⟨rfl,gX.trans gN⟩
  |false=>
   cases hD1:decide (E1≤(L:Int)-1)with
   |false=>
    simp only[WX,B62,k0,n1,sb,e1,ia0,ld,ia1,ld2,aB,hD1];exact⟨rfl,gX.trans gN⟩
   |true=>
    cases hD2:decide (E2<0)with
    |true=>
     simp only[WX,B62,k0,n1,sb,e1,e2,ia0,ld,ia1,ld2,aB,hD1,hD2];refine aD ((hL82 hXN).mono ?_);rintro r M2 c2 ⟨rfl,g8⟩;simp only[WX];exact⟨by simp,gX.trans (gN.trans g8)⟩
    |false=>
     cases hD3:decide ((L:Int)-1≤E2)with
     |true=>
      simp only[WX,B62,k0,n1,sb,e1,e2,ia0,ld,ia1,ld2,aB,hD1,hD2,hD3];refine aD ((hL82 hXN).mono ?_);rintro r M2 c2 ⟨rfl,g8⟩;simp only[WX];exact⟨by simp,gX.trans (gN.trans g8)⟩
     |false=>
      simp only[WX,B62,k0,n1,sb,e1,e2,ia0,ld,ia1,ld2,aB,hD1,hD2,hD3];exact⟨rfl,gX.trans gN⟩
 ·have hre:nv l=false:=by unfold nv;rw[hk]
  rw[hre];simp only[WX,B62,k0,n1,sb];exact gX.trans gN
abbrev aE1(u:List (Option V))(x1 x3 x4 x54 x55 x56:V):T:=(.n (.n (.n (.n (aq u 63 31 95 15 79 47 111) (uO u 7) (.n (fq u 71 39 103) (uO u 23) (.n (gq u 87) (some x55) (gq u 119)))) (some x3) (.n (aq u 67 35 99 19 83 51 115) (uO u 11) (aq u 75 43 107 27 91 59 123))) (some x1) (.n (.n (aq u 65 33 97 17 81 49 113) (uO u 9) (aq u 73 41 105 25 89 57 121)) (uO u 5) (.n (aq u 69 37 101 21 85 53 117) (uO u 13) (aq u 77 45 109 29 93 61 125)))) (uO u 0) (.n (.n (.n (aq u 64 32 96 16 80 48 112) (uO u 8) (.n (fq u 72 40 104) (uO u 24) (.n (gq u 88) (some x56) (gq u 120)))) (some x4) (.n (aq u 68 36 100 20 84 52 116) (uO u 12) (aq u 76 44 108 28 92 60 124))) (uO u 2) (.n (.n (aq u 66 34 98 18 82 50 114) (uO u 10) (aq u 74 42 106 26 90 58 122)) (uO u 6) (.n (.n (fq u 70 38 102) (uO u 22) (.n (gq u 86) (some x54) (gq u 118))) (uO u 14) (aq u 78 46 110 30 94 62 126)))))
def ad4:CC:=(.reg [(aa a1 (.bx 39 6 z0)),(qq a2 (.mv xF))])
def aI5:=wu ad4.eq_1
def ad5:CC:=(.dreg 12 [(0,0,(qq a7 (.fa 2 z1))),(1,1,(qq a8 (.fa 0 z7))),(2,3,(qq a9 (.ld1 z8))),(3,7,(qq dT (.ln .slice z9))),(4,15,(qq eP (.bi .gtr ft (x6 0)))),(5,0,(qq fg (.fa 3 z1))),(6,32,(qq eQ (.fa 0 eN))),(7,96,(qq fh (.ld1 ed))),(8,224,(qq dM (.ln .slice gb))),(9,480,(qq fu (.bi .gtr gK (x6 0)))),(10,31,(qq a3 (.mv dL))),(11,2047,(qq a4 (.mv iA)))])
def aI6:=wu ad5.eq_1
def ad6:CC:=(.reg [(qq gL (.fa 5 z1)),(qq fy (.ld1 iB)),(qq jr (.ln .slice iC)),(qq gH (.bi .lss l8 (x6 1))),(qq fY (.mv la)),(aA jt (.fa 5 z1) fY),(aA gU (.ld1 lA) fY),(aA jX (.ln .slice lg) fY),(aA gv (.bi .gtr kM (x6 6)) fY),(qq kd (.pk kL xT lB)),(qq gV (.mv nl)),(aA lE (.fa 4 z1) gV),(aA ip (.ld1 nK) gV),(aA ke (.mv ot) gV),(aF lj (.mv z4) ke),(aF np (.un .not pq) ke),(aA nM (.pk oz pz xF) gV),(qq jY (.pk nn xT ru)),(qq jZ (.mv rv)),(aA nN (.mv z3) jZ),(aA k8 (.mv sC) jZ),(aF nq (.fa 2 z1) k8),(aF mN (.ldn 1 rU) k8),(lW pC (.call 61 [rV]) k8),(aF js (.un .not sD) k8),(aA lF (.pk qF ry xF) jZ),(qq pD (.pk rx xT sE)),(qq ng (.mv sF)),(aA pE (.mv z4) ng),(aA lG (.mv rX) ng),(aF pF (.fa 3 z1) lG),(aF kQ (.ldn 1 sG) lG),(lW nh (.call 61 [uE]) lG),(aF px (.un .not vn) lG),(aA rA (.pk vm vp xF) ng),(qq oD (.pk rW xT uM))])
def aI7:=wu ad6.eq_1
def ad7:CC:=(.seq (.reg [(qq a2 (.mv xF))]) .ret)
def rn:=wu ad7.eq_1
def ad8:CC:=(.seq ad6 (.cond vq ad7 .skip))
def aI8:=wu ad8.eq_1
def ad9:CC:=(.reg [(qq sP (.fa 5 z1)),(qq pG (.ld1 wM)),(qq pH (.ln .slice za)),(qq uI (.mv (x6 0)))])
def bM9:=wu ad9.eq_1
def ae0:CC:=(.reg [(qq vw (.bi .lss wN zl))])
def bN0:=wu ae0.eq_1
def ae1:CC:=(.reg [(qq vz (.iaS 1 za wN)),(qq rZ (.ldn 1 Bd)),(aa a6 (.al 42 [.l0])),(ez (.st 1 z6 Be))])
def bN1:=wu ae1.eq_1
def ae2:CC:=(.reg [(qq vA (.ldn 1 z6)),(ee s5 (.call 62 [Bf])),(qq sQ (.un .not Bz)),(qq ou (.mv Bg)),(aA vC (.ldn 1 z6) ou),(lV uT (.call 63 [BA]) ou),(aA oE (.mv zb) ou),(aF qJ (.fa 5 z1) oE),(aF uU (.ld1 wO) oE),(aF uV (.ln .slice zo) oE),(aF vD (.bi .gtr zp (x6 1)) oE),(aF py (.mv BB) oE),(aA vE (.mv z3) py),(aF fA (.pk Bh xT BC) oE),(aF qK (.mv uF) oE),(aA uJ (.mv z4) qK),(aF wW (.pk BD xT BE) oE),(aA zc (.pk zn BF xF) ou),(qq zd (.pk zm xT EK))])
def bN2:=wu ae2.eq_1
def Nf:CC:=(.seq (.reg [(qq a2 (.mv xF))]) .ret)
def bc6:=wu Nf.eq_1
def Ng:CC:=(.seq ae2 (.cond EL Nf .skip))
def bc7:=wu Ng.eq_1
def Nh:CC:=(.reg [(qq ze (.bi .add wN (x6 1))),(qq uI (.mv EM))])
def bc8:=wu Nh.eq_1
def Ni:CC:=(.seq (.cond Bx .skip (.exit 0)) (.seq (.block 1 (.seq ae1 Ng)) Nh))
def bc9:=wu Ni.eq_1
def Nj:CC:=(.seq (.reg [(qq a2 (.mv xT))]) .ret)
def bd0:=wu Nj.eq_1
def xw:CC:=(.seq (.seq ad9 (.block 0 (.loop (.seq ae0 Ni)))) Nj)
def bd1:=wu xw.eq_1
def c40:CF:= .mk 7 [.t a2] (.seq ad4 (.seq ad5 (.seq ad8 xw)))
theorem e40(v0:V):bz 7 [v0]=(.n vg (some v0) vg):=rfl
def Vz:=ai @e40 (ai @aI5 (ai @aI6 (ai @aI7 (ai @rn (ai @aI8 (ai @bM9 (ai @bN0 (ai @bN1 (ai @bN2 (ai @bc6 (ai @bc7 (ai @bc8 (ai @bc9 (ai @bd0 (@bd1)))))))))))))))
def zg(n:Nat)(io:Bool)(c:eF):Bool:=nv c&& !(Wg c&&(decide (1<n)||io))
def hasW(w:List Pc):Bool:=decide (0<w.length)
def jI(p:dD):Bool:= !decide (p.cmds.length<1)&&(!decide (6<p.cmds.length)&&(!(p.beh&& !hasW p.out)&&(!(hasW p.inp&& !cP p.inp)&&(!(hasW p.out&& !cP p.out)&&p.cmds.all (zg p.cmds.length (hasW p.inp||hasW p.out))))))
theorem Rb(n:Nat):decide ((1:Int)<(n:Int))=decide (1<n):=by congr 1;exact propext (by omega)
theorem m40(Φ:Nat→Option CF)(h63:Φ 63=some Vn)(h62:Φ 62=some IU)(h80:Φ 80=some IV)(h81:Φ 81=some IW)(h82:Φ 82=some QT)(h90:Φ 90=some IX)(h83:Φ 83=some Hd)(h61:Φ 61=some F5)(h77:Φ 77=some (.orc (aO h77))){F:RO}{M:Mem}{c c2:Nat}(ok:cK F M c2)(hcc:c<c2){vc:V}{cs:List eF}(hc:jg F M c2 vc cs)(hs:∀x∈cs,J9 x)(A5:load1 F M c 5=some vc)(hi ho:Bool)(u:List (Option V))(Q:Ex→St→Prop)
 (hQ:∀(u:List (Option V)) M' c',Gr c2 M c' M'→Q .ret (.mk ((aD9 u (.b (cs.all (zg cs.length (hi||ho)))))) [] M' c')):
 Wp xw (K Φ none 40 F) (.mk ((Gg u (.p c 0) (.b hi) (.b ho))) [] M c2) Q:=by
 have n1:=hc.len
 have mx:=hc.max
 simp only[WX,Vz,A5,n1]
 obtain⟨I,hI⟩:∃I:Nat→St→Prop,∀n s',I n s'↔(∃(i c1:Nat) (M1:Mem) (u:List (Option V)),n=cs.length-i∧i≤cs.length∧s'= .mk ((aE1 u (.p c 0) (.b hi) (.b ho) vc (.i .i64 (cs.length:Int)) (.i .i64 (i:Int)))) [] M1 c1∧Gr c2 M c1 M1∧cs.all (zg cs.length (hi||ho))=(cs.drop i).all (zg cs.length (hi||ho))):=⟨fun n s'=>_,fun _ _=>Iff.rfl⟩
 refine bw I ?_ cs.length _ ((hI _ _).2 ⟨0,_,_,(X1 (G1 (X1 (G2 (bK (bB (X1 (G2 (G1 (bD (X4 (X2 [])))))))))))),rfl,ax _,rfl,Gr.refl ok,rfl⟩)
 intro n s' hIs
 obtain⟨i,c1,M1,u,rfl,hle,rfl,gr1,hb⟩:=(hI _ _).1 hIs
 clear hIs
 by_cases hlt:i<cs.length
 ·have q8:cz .add (.i .i64 (i:Int)) (.i .i64 1)=some (.i .i64 ((i+1:Nat):Int)):=by rw[aX _ _ (by omega) (by omega)];simp
  have d1:decide ((i:Int)<(cs.length:Int))=true:=ah (by omega);obtain⟨b,o,x,hbx,ia,_,ld,hw⟩:=cg.at1 (hc.grow gr1) i hlt;have ia:=ia .i64;have hw:ff F M1 c1 x cs[i]:=hw;have hd:cs.drop i=cs[i]::cs.drop (i+1):=bX hlt;rw[hd,List.all_cons]at hb;have hsi:=hs cs[i] (List.getElem_mem _);generalize cs[i]=w at hb hw hsi;obtain⟨y1,y2,y3⟩:=hw.one;have hG:∀v,flatten (V.g [v])=[v]:=fun _=>rfl;have ok1:=gr1.ok ok;have hle1:=gr1.le;have sn:bS (M1.set c1 (af 42 [.l0])) c1 0 [x]=some (M1.set c1 (af 42 [x])):=dS rfl y3;have m1:(M1.set c1 (af 42 [x])).get c1=some (af 42 [x]):=am _ _ _;have g1':=(Gr.refl ok1).set c1 (af 42 [x]) (aj _) (ay _) (aH _);have g1:=gr1.trans g1';have kx:loadN F (M1.set c1 (af 42 [x])) c1 0 1=some [x]:=aY m1 1 rfl;generalize M1.set c1 (af 42 [x])=Y at sn m1 g1' g1 kx;have hwY:=hw.grow g1';have okY:=g1.ok ok;simp only[WX,Vz,d1,ia,ld,hG,sn,kx];refine aD ((w62 Φ h62 h80 h81 h82 h90 h83 h61 h77 okY hwY hsi).mono ?_);rintro r M2 c3 ⟨rfl,g2⟩;cases hk:nv w with
  |false=>
   simp only[WX,Vz];rw[show cs.all (zg cs.length (hi||ho))=false by rw[hb];unfold zg;rw[hk];rfl]at hQ;exact hQ (X2 (G1 (bD (bK (bB (X8 (X4 []))))))) _ _ (g1.trans g2)
  |true=>
   have ok2:=g2.ok okY;have hle2:=g2.le;have kx2:loadN F M2 c1 0 1=some [x]:=(g2.loadN (by omega) _ _).trans kx;simp only[WX,kx2];refine aD ((w63 Φ h63 h80 h81 ok2 (hwY.grow g2)).mono ?_);rintro r M3 c4 ⟨rfl,g3⟩;have g4:=g1.trans (g2.trans g3);have A5':load1 F M3 c 5=some vc:=(g4.load1 hcc _).trans A5;have GOOD:(Wg w&&(decide (1<cs.length)||(hi||ho)))=false→ ∀u:List (Option V),I (cs.length-(i+1)) (.mk ((aE1 u (.p c 0) (.b hi) (.b ho) vc (.i .i64 (cs.length:Int)) (.i .i64 ((i+1:Nat):Int)))) [] M3 c4):=fun hg u=>(hI _ _).2 ⟨i+1,_,_,(X1 (G1 (X1 (G2 (bK (bB (X1 (G2 (G1 (bD (X4 (X2 [])))))))))))),rfl,hlt,rfl,g4,by rw[hb];unfold zg;rw[hk,hg];rfl⟩;have BAD:(Wg w&&(decide (1<cs.length)||(hi||ho)))=true→cs.all (zg cs.length (hi||ho))=false:=by
    intro hg;rw[hb,show zg cs.length (hi||ho) w=false by unfold zg;rw[hk,hg];rfl];rfl
   cases hch:Wg w with
   |false=>
    simp only[WX,Vz,q8];exact⟨cs.length-(i+1),by omega,GOOD (by rw[hch];rfl) (X1 (G1 (X1 (G2 (bK (bB (X1 (G2 (G1 (bD (X4 (X2 []))))))))))))⟩
   |true=>
    cases hD:decide (1<cs.length)with
    |true=>
     have d2:=(Rb cs.length).trans hD;rw[BAD (by rw[hch,hD];rfl)]at hQ;simp only[WX,Vz,A5',n1,d2];exact hQ (X2 (G1 (bD (bK (bB (X8 (X4 []))))))) _ _ g4
    |false=>
     have d2:=(Rb cs.length).trans hD;cases hi with
     |true=>
      rw[BAD (by rw[hch];simp)]at hQ;simp only[WX,Vz,A5',n1,d2];exact hQ (X2 (G1 (bD (bK (bB (X8 (X4 []))))))) _ _ g4
     |false=>
      cases ho with
      |true=>
       rw[BAD (by rw[hch];simp)]at hQ;simp only[WX,Vz,A5',n1,d2];exact hQ (X2 (G1 (bD (bK (bB (X8 (X4 []))))))) _ _ g4
      |false=>
       simp only[WX,Vz,A5',n1,d2,q8];exact⟨cs.length-(i+1),by omega,GOOD (by rw[hD];simp) (X1 (G1 (X1 (G2 (bK (bB (X1 (G2 (G1 (bD (X4 (X2 []))))))))))))⟩
 ·obtain rfl:i=cs.length:=by omega
  have d1:decide ((cs.length:Int)<(cs.length:Int))=false:=ag (by omega);rw[cm]at hb;simp only[WX,Vz,d1];rw[hb]at hQ;exact hQ (X2 (G1 (bD (bK (bB (X8 (X4 []))))))) _ _ gr1
end
end Go.Proofs.YtmbpllipombieaaDoor.Ev
