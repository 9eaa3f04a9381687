/- What is proved here: pieces of the evaluator's soundness: if the evaluator comes to a value, the model's run comes to it, for every world and tape; no conditions beyond the hypotheses of each theorem. -/
import Derived.Test.YtmbpllipombieaaDoorEv6
set_option linter.unusedSimpArgs false
set_option linter.unusedVariables false
set_option linter.defProp false
set_option maxRecDepth 10000
set_option maxHeartbeats 16000000
namespace Go.Proofs.YtmbpllipombieaaDoor.Ev
open Go
noncomputable section
abbrev aH3(u:List (Option V))(x2 x3 x5 x6 x7 x8:V):T:=(.n (.n (.n (.n (aq u 63 31 95 15 79 47 111) (some x7) (aq u 71 39 103 23 87 55 119)) (some x3) (.n (aq u 67 35 99 19 83 51 115) (uO u 11) (aq u 75 43 107 27 91 59 123))) (uO u 1) (.n (.n (aq u 65 33 97 17 81 49 113) (uO u 9) (aq u 73 41 105 25 89 57 121)) (some x5) (.n (aq u 69 37 101 21 85 53 117) (uO u 13) (aq u 77 45 109 29 93 61 125)))) (uO u 0) (.n (.n (.n (aq u 64 32 96 16 80 48 112) (some x8) (aq u 72 40 104 24 88 56 120)) (uO u 4) (.n (aq u 68 36 100 20 84 52 116) (uO u 12) (aq u 76 44 108 28 92 60 124))) (some x2) (.n (.n (aq u 66 34 98 18 82 50 114) (uO u 10) (aq u 74 42 106 26 90 58 122)) (some x6) (.n (aq u 70 38 102 22 86 54 118) (uO u 14) (aq u 78 46 110 30 94 62 126)))))
abbrev aH4(u:List (Option V))(x4:V):T:=(.n (.n (.n (.n (aq u 63 31 95 15 79 47 111) (uO u 7) (aq u 71 39 103 23 87 55 119)) (uO u 3) (.n (aq u 67 35 99 19 83 51 115) (uO u 11) (aq u 75 43 107 27 91 59 123))) (uO u 1) (.n (.n (aq u 65 33 97 17 81 49 113) (uO u 9) (aq u 73 41 105 25 89 57 121)) (uO u 5) (.n (aq u 69 37 101 21 85 53 117) (uO u 13) (aq u 77 45 109 29 93 61 125)))) (uO u 0) (.n (.n (.n (aq u 64 32 96 16 80 48 112) (uO u 8) (aq u 72 40 104 24 88 56 120)) (some x4) (.n (aq u 68 36 100 20 84 52 116) (uO u 12) (aq u 76 44 108 28 92 60 124))) (uO u 2) (.n (.n (aq u 66 34 98 18 82 50 114) (uO u 10) (aq u 74 42 106 26 90 58 122)) (uO u 6) (.n (aq u 70 38 102 22 86 54 118) (uO u 14) (aq u 78 46 110 30 94 62 126)))))
abbrev bP1(u:List (Option V))(x2 x3 x5 x6 x7 x8 x9 x10:V):T:=(.n (.n (.n (.n (aq u 63 31 95 15 79 47 111) (some x7) (aq u 71 39 103 23 87 55 119)) (some x3) (.n (aq u 67 35 99 19 83 51 115) (uO u 11) (aq u 75 43 107 27 91 59 123))) (uO u 1) (.n (.n (aq u 65 33 97 17 81 49 113) (some x9) (aq u 73 41 105 25 89 57 121)) (some x5) (.n (aq u 69 37 101 21 85 53 117) (uO u 13) (aq u 77 45 109 29 93 61 125)))) (uO u 0) (.n (.n (.n (aq u 64 32 96 16 80 48 112) (some x8) (aq u 72 40 104 24 88 56 120)) (uO u 4) (.n (aq u 68 36 100 20 84 52 116) (uO u 12) (aq u 76 44 108 28 92 60 124))) (some x2) (.n (.n (aq u 66 34 98 18 82 50 114) (some x10) (aq u 74 42 106 26 90 58 122)) (some x6) (.n (aq u 70 38 102 22 86 54 118) (uO u 14) (aq u 78 46 110 30 94 62 126)))))
abbrev bP2(u:List (Option V))(x2 x3 x5 x6 x7 x8 x9 x10 x11:V):T:=(.n (.n (.n (.n (aq u 63 31 95 15 79 47 111) (some x7) (aq u 71 39 103 23 87 55 119)) (some x3) (.n (aq u 67 35 99 19 83 51 115) (some x11) (aq u 75 43 107 27 91 59 123))) (uO u 1) (.n (.n (aq u 65 33 97 17 81 49 113) (some x9) (aq u 73 41 105 25 89 57 121)) (some x5) (.n (aq u 69 37 101 21 85 53 117) (uO u 13) (aq u 77 45 109 29 93 61 125)))) (uO u 0) (.n (.n (.n (aq u 64 32 96 16 80 48 112) (some x8) (aq u 72 40 104 24 88 56 120)) (uO u 4) (.n (aq u 68 36 100 20 84 52 116) (uO u 12) (aq u 76 44 108 28 92 60 124))) (some x2) (.n (.n (aq u 66 34 98 18 82 50 114) (some x10) (aq u 74 42 106 26 90 58 122)) (some x6) (.n (aq u 70 38 102 22 86 54 118) (uO u 14) (aq u 78 46 110 30 94 62 126)))))
abbrev aH5(u:List (Option V))(x2 x3 x5:V):T:=(.n (.n (.n (.n (aq u 63 31 95 15 79 47 111) (uO u 7) (aq u 71 39 103 23 87 55 119)) (some x3) (.n (aq u 67 35 99 19 83 51 115) (uO u 11) (aq u 75 43 107 27 91 59 123))) (uO u 1) (.n (.n (aq u 65 33 97 17 81 49 113) (uO u 9) (aq u 73 41 105 25 89 57 121)) (some x5) (.n (aq u 69 37 101 21 85 53 117) (uO u 13) (aq u 77 45 109 29 93 61 125)))) (uO u 0) (.n (.n (.n (aq u 64 32 96 16 80 48 112) (uO u 8) (aq u 72 40 104 24 88 56 120)) (uO u 4) (.n (aq u 68 36 100 20 84 52 116) (uO u 12) (aq u 76 44 108 28 92 60 124))) (some x2) (.n (.n (aq u 66 34 98 18 82 50 114) (uO u 10) (aq u 74 42 106 26 90 58 122)) (uO u 6) (.n (aq u 70 38 102 22 86 54 118) (uO u 14) (aq u 78 46 110 30 94 62 126)))))
abbrev bP3(u:List (Option V))(x2 x3 x5 x6 x7:V):T:=(.n (.n (.n (.n (aq u 63 31 95 15 79 47 111) (some x7) (aq u 71 39 103 23 87 55 119)) (some x3) (.n (aq u 67 35 99 19 83 51 115) (uO u 11) (aq u 75 43 107 27 91 59 123))) (uO u 1) (.n (.n (aq u 65 33 97 17 81 49 113) (uO u 9) (aq u 73 41 105 25 89 57 121)) (some x5) (.n (aq u 69 37 101 21 85 53 117) (uO u 13) (aq u 77 45 109 29 93 61 125)))) (uO u 0) (.n (.n (.n (aq u 64 32 96 16 80 48 112) (uO u 8) (aq u 72 40 104 24 88 56 120)) (uO u 4) (.n (aq u 68 36 100 20 84 52 116) (uO u 12) (aq u 76 44 108 28 92 60 124))) (some x2) (.n (.n (aq u 66 34 98 18 82 50 114) (uO u 10) (aq u 74 42 106 26 90 58 122)) (some x6) (.n (aq u 70 38 102 22 86 54 118) (uO u 14) (aq u 78 46 110 30 94 62 126)))))
def Z9:CC:=(.reg [(aa a2 (.bx 25 1 z0)),(aa a3 (.bx 25 1 z1)),(qq a4 (.mv xF))])
def Up:=wu Z9.eq_1
def Za:CC:=(.reg [(qq eU (.fa 0 z2)),(qq eC (.ld1 ei)),(qq dR (.ln .slice eb)),(qq dA (.fa 0 z3)),(qq eX (.ld1 gf)),(qq gC (.ln .slice gM)),(qq fK (.bi .neq fG gS))])
def Ux:=wu Za.eq_1
def Zb:CC:=(.reg [(qq a4 (.mv xF))])
def aJ4:=wu Zb.eq_1
def Zc:CC:=(.seq Za (.cond hU (.seq Zb .ret) .skip))
def UB:=wu Zc.eq_1
def Zd:CC:=(.reg [(qq a5 (.mv (x6 0)))])
def aJ5:=wu Zd.eq_1
def Ze:CC:=(.reg [(qq i5 (.mv z5)),(qq gh (.fa 0 z2)),(qq fE (.ld1 k7)),(qq j9 (.ln .slice ju)),(qq gO (.bi .lss jz kL))])
def aJ6:=wu Ze.eq_1
def Zf:CC:=(.seq Ze (.cond k8 .skip (.exit 0)))
def aJ7:=wu Zf.eq_1
def Zg:CC:=(.dreg 14 [(0,0,(qq ja (.fa 0 z2))),(1,1,(qq gQ (.ld1 lw))),(2,0,(qq kQ (.mv z5))),(3,7,(qq gU (.iaS 6 lB mH))),(4,15,(qq jv (.ldn 6 mI))),(5,0,(qq jC (.fa 0 z3))),(6,32,(qq lz (.ld1 ny))),(7,0,(qq lE (.mv z5))),(8,224,(qq jx (.iaS 6 oC pQ))),(9,480,(qq iK (.ldn 6 pR))),(10,0,(aa a6 (.al 39 [(.i .i64 0),(.b false),.l0,.l0,(.b false),.l0]))),(11,0,(aa a7 (.al 39 [(.i .i64 0),(.b false),.l0,.l0,(.b false),.l0]))),(12,3103,(ez (.st 6 z6 nv))),(13,8191,(ez (.st 6 z7 pM)))])
def aJ8:=wu Zg.eq_1
def Zh:CC:=(.reg [(qq mK (.fa 0 z6)),(qq ka (.ld1 pS)),(qq mL (.fa 0 z7)),(qq lA (.ld1 qS)),(qq nj (.bi .neq oF qT)),(qq jb (.mv rJ)),(aw kR (.fa 1 z6) jb),(aw oK (.ld1 rK) jb),(aw lF (.fa 1 z7) jb),(aw oL (.ld1 qU) jb),(aw ll (.eq true .bool false rL rM) jb),(qq oM (.pk pT xT sO)),(qq kb (.mv rN)),(aw lG (.fa 4 z6) kb),(aw qZ (.ld1 uN) kb),(aw r0 (.fa 4 z7) kb),(aw mM (.ld1 uP) kb),(aw sv (.eq true .bool false uZ v7) kb),(qq uS (.pk sq xT vD)),(qq pO (.mv wW)),(aw sZ (.fa 2 z6) pO),(aw vN (.ldn 1 vE) pO),(aw vO (.fa 2 z7) pO),(aw sw (.ldn 1 Bg) pO),(jJ vP (.call 22 [BH,Bh]) pO),(aw sy (.un .not Bi) pO),(qq vQ (.pk za xT BI)),(qq nA (.mv Bj)),(aw vR (.fa 3 z6) nA),(aw ve (.ldn 1 BJ) nA),(aw oN (.fa 3 z7) nA),(aw rS (.ldn 1 zl) nA),(jJ vf (.call 22 [zb,vF]) nA),(aw uT (.un .not zd) nA),(qq uU (.pk zk xT ze)),(qq oD (.mv zm)),(aw uV (.fa 5 z6) oD),(aw fF (.ld1 zn) oD),(aw pP (.ln .slice ss) oD),(aw vg (.fa 5 z7) oD),(aw r4 (.ld1 zq) oD),(aw vT (.ln .slice zr) oD),(aw vU (.bi .neq zo Bm) oD),(qq vV (.pk zf xT Bn))])
def B7:=wu Zh.eq_1
def L7:CC:=(.reg [(qq a4 (.mv xF))])
def oz:=wu L7.eq_1
def L8:CC:=(.cond Bo (.seq L7 .ret) .skip)
def mD:=wu L8.eq_1
def L9:CC:=(.reg [(qq a8 (.mv (x6 0)))])
def Uq:=wu L9.eq_1
def La:CC:=(.reg [(qq uW (.mv z8)),(qq xe (.fa 5 z6)),(qq oO (.ld1 BL)),(qq t0 (.ln .slice BM)),(qq zB (.bi .lss BK BN))])
def Ur:=wu La.eq_1
def Lb:CC:=(.cond BO .skip (.exit 2))
def Us:=wu Lb.eq_1
def Lc:CC:=(.dreg 14 [(0,0,(qq Bw (.fa 5 z6))),(1,1,(qq rT (.ld1 ET))),(2,0,(qq Bx (.mv z8))),(3,7,(qq BU (.iaS 1 EU EV))),(4,15,(qq BV (.fa 0 GI))),(5,31,(qq BW (.ld1 EW))),(6,0,(qq BX (.fa 5 z7))),(7,64,(qq BZ (.ld1 GK))),(8,0,(qq Bz (.mv z8))),(9,448,(qq xf (.iaS 1 GL Ja))),(10,960,(qq H5 (.fa 0 Jb))),(11,1984,(qq H6 (.ld1 Jc))),(12,63,(qq a9 (.mv GJ))),(13,8191,(qq dJ (.mv Jd)))])
def Ut:=wu Lc.eq_1
def Ld:CC:=(.reg [(qq H7 (.mv z9)),(qq oJ (.ln .slice Je)),(qq ie (.mv eK)),(qq sU (.ln .slice yZ)),(qq sW (.bi .neq qR vz))])
def Uu:=wu Ld.eq_1
def Le:CC:=(.reg [(qq a4 (.mv xF))])
def ba0:=wu Le.eq_1
def Lf:CC:=(.cond vA (.seq Le .ret) .skip)
def Uv:=wu Lf.eq_1
def Lg:CC:=(.reg [(qq ey (.mv (x6 0)))])
def Uw:=wu Lg.eq_1
def Lh:CC:=(.reg [(qq rQ (.mv dE)),(qq BS (.mv z9)),(qq v9 (.ln .slice IW)),(qq GT (.bi .lss vC IX))])
def ba1:=wu Lh.eq_1
def Li:CC:=(.cond Vt .skip (.exit 4))
def ba2:=wu Li.eq_1
def Lj:CC:=(.dreg 10 [(0,0,(qq GW (.mv z9))),(1,0,(qq sX (.mv dE))),(2,3,(qq H0 (.iaS 1 Vw Vx))),(3,7,(qq H1 (.ldn 1 Vy))),(4,0,(qq H2 (.mv eK))),(5,0,(qq va (.mv dE))),(6,48,(qq BT (.iaS 1 IY IZ))),(7,112,(qq vd (.ldn 1 J0))),(8,255,(ee rR (.call 22 [Vz,VA]))),(9,511,(qq H3 (.un .not VB)))])
def ba3:=wu Lj.eq_1
def Lk:CC:=(.reg [(qq a4 (.mv xF))])
def ba4:=wu Lk.eq_1
def Ll:CC:=(.cond VD (.seq Lk .ret) .skip)
def ba5:=wu Ll.eq_1
def Lm:CC:=(.reg [(qq GU (.mv dE)),(qq GV (.bi .add Vu (x6 1))),(qq ey (.mv Vv))])
def ba6:=wu Lm.eq_1
def Ln:CC:=(.seq (.seq Lh Li) (.seq (.block 5 (.seq Lj Ll)) Lm))
def ba7:=wu Ln.eq_1
def Cl:CC:=(.seq (.seq Ld Lf) (.seq Lg (.block 4 (.loop Ln))))
def Uy:=wu Cl.eq_1
def Lo:CC:=(.reg [(qq vW (.mv z8)),(qq Bv (.bi .add ES (x6 1))),(qq a8 (.mv GH))])
def ba8:=wu Lo.eq_1
def Lq:CC:=(.seq (.seq La Lb) (.seq (.block 3 (.seq Lc Cl)) Lo))
def Uz:=wu Lq.eq_1
def Cm:CC:=(.seq (.seq Zh L8) (.seq L9 (.block 2 (.loop Lq))))
def uD:=wu Cm.eq_1
def Lr:CC:=(.reg [(qq jn (.mv z5)),(qq gP (.bi .add jA (x6 1))),(qq a5 (.mv kM))])
def ba9:=wu Lr.eq_1
def Ls:CC:=(.loop (.seq Zf (.seq (.block 1 (.seq Zg Cm)) Lr)))
def UA:=wu Ls.eq_1
def Lt:CC:=(.reg [(qq a4 (.mv xT))])
def bb0:=wu Lt.eq_1
def Lu:CC:=(.seq Zc (.seq (.seq Zd (.block 0 Ls)) (.seq Lt .ret)))
def Ew:=wu Lu.eq_1
def c12:CF:= .mk 7 [.t a4] (.seq Z9 Lu)
theorem e12(v0 v1:V):bz 7 [v0,v1]=(.n (.n nu (some v1) nu) (some v0) uY):=rfl
def VZ:=ai @e12 (ai @Up (ai @Ux (ai @aJ4 (ai @UB (ai @aJ5 (ai @aJ6 (ai @aJ7 (ai @aJ8 (ai @B7 (ai @oz (ai @mD (ai @Uq (ai @Ur (ai @Us (ai @Ut (ai @Uu (ai @ba0 (ai @Uv (ai @Uw (ai @ba1 (ai @ba2 (ai @ba3 (ai @ba4 (ai @ba5 (ai @ba6 (ai @ba7 (ai @Uy (ai @ba8 (ai @Uz (ai @uD (ai @ba9 (ai @UA (ai @bb0 (@Ew))))))))))))))))))))))))))))))))))
theorem cQ.at1{α:Type}{F:RO}{R:Mem→Nat→V→α→Prop}{M:Mem}{c:Nat}{v:V}{l:List α}(h:cQ F (fun M c e a=>∃x,e=[x]∧R M c x a) 1 M c v l)(i:Nat)(hi:i<l.length):
 ∃b o x,b<c∧(∀k,eV 1 v (.i k (i:Int))=some (.p b o))∧load1 F M b o=some x∧loadN F M b o 1=some [x]∧R M c x l[i]:=by
 obtain⟨es,h1,h2,h3,h4⟩:=h
 obtain⟨b,o,a1,a2,a3⟩:=h1.at i (by omega)
 obtain⟨x,hx,hr⟩:=h4 i (by omega) hi
 rw[hx]at a3
 have a0:=a3 0 (by simp)
 exact⟨b,o,x,a1,a2,a0,a3.load (by simp),hr⟩
theorem cg5(Φ:Nat→Option CF)(h22:Φ 22=some c22){F:RO}{M:Mem}{c1 pc pd pa pb:Nat}{iv kv:V}(ok:cR F M c1){v1 v2:V}{l1 l2:List (List Pc)}(h1:fo F M c1 v1 l1)(h2:fo F M c1 v2 l2)(u:List (Option V))(Q:Ex→St→Prop)
 (hT:l1=l2→ ∀(u:List (Option V)) M' c',Gr c1 M c' M'→Q .nrm (.mk ((aH3 u (.p pc 0) (.p pd 0) iv (.p pa 0) (.p pb 0) kv)) [] M' c'))
 (hF:l1≠l2→ ∀(u:List (Option V)) M' c',Gr c1 M c' M'→Q .ret (.mk ((aH4 u (.b false))) [] M' c')):
 Wp Cl (K Φ none 12 F) (.mk ((bP1 u (.p pc 0) (.p pd 0) iv (.p pa 0) (.p pb 0) kv v1 v2)) [] M c1) Q:=by
 have n1:=h1.len
 have n2:=h2.len
 have mx1:=h1.max
 by_cases hlen:l1.length=l2.length
 ·have d0:decide (¬((l1.length:Int)=(l2.length:Int)))=false:=af (by omega);simp only[WX,Uu,Uv,Uw,Uy,n1,n2,d0];obtain⟨I,hI⟩:∃I:Nat→St→Prop,∀n s',I n s'↔(∃(i c2:Nat) (M1:Mem) (u:List (Option V)),n=l1.length-i∧i≤l1.length∧s'= .mk ((bP2 u (.p pc 0) (.p pd 0) iv (.p pa 0) (.p pb 0) kv v1 v2 (.i .i64 (i:Int)))) [] M1 c2∧Gr c1 M c2 M1∧l1.take i=l2.take i):=⟨fun n s'=>_,fun _ _=>Iff.rfl⟩
  refine bw I ?_ l1.length _ ((hI _ _).2 ⟨0,_,_,(X2 (G2 (X1 (G4 (G2 (G1 (bf (bA (br (X2 (X1 []))))))))))),rfl,aD _,rfl,Gr.refl ok,rfl⟩);intro n s' hIs;obtain⟨i,c2,M1,u,rfl,hi,rfl,gr1,hpre⟩:=(hI _ _).1 hIs;clear hIs;by_cases hlt:i<l1.length
  ·have q8:cB .add (.i .i64 (i:Int)) (.i .i64 1)=some (.i .i64 ((i+1:Nat):Int)):=by rw[be _ _ (by omega) (by omega)];simp
   have hlt2:i<l2.length:=by omega
   have d1:decide ((i:Int)<(l1.length:Int))=true:=ah (by omega);have ok1:=gr1.ok ok;obtain⟨b1,o1,x1,hb1,ia1,_,ld1,w1⟩:=cQ.at1 (h1.grow gr1) i hlt;obtain⟨b2,o2,x2,hb2,ia2,_,ld2,w2⟩:=cQ.at1 (h2.grow gr1) i hlt2;have ia1:=ia1 .i64;have ia2:=ia2 .i64;have hfr:=ok1.free;have gX:Gr c2 M1 (c2+10) M1:=(Gr.refl ok1).up (by omega);simp only[WX,Nat.reducePow,Nat.reduceDiv,Nat.reduceMod,Nat.reduceBEq,j0,VZ,n1,d1,ia1,ia2,ld1,ld2,j0];refine eH ((w22 Φ h22 (gX.ok ok1) (w1.grow gX) (w2.grow gX)).mono ?_);rintro r M2 c3 ⟨rfl,g2⟩;have gT:=gX.trans g2;refine⟨(gT.ok ok1).free,?_⟩;by_cases he:l1[i]=l2[i]
   ·have dd:decide (l1[i]=l2[i])=true:=ah he;simp only[WX,VZ,dd,q8];exact⟨l1.length-(i+1),by omega,(hI _ _).2 ⟨i+1,_,_,(X2 (G2 (X1 (G4 (G2 (G1 (bf (bA (br (X2 (X1 []))))))))))),rfl,hlt,rfl,gr1.trans gT,sL hlt hlt2 hpre he⟩⟩
   ·have dd:decide (l1[i]=l2[i])=false:=af he;simp only[WX,VZ,dd];exact hF (Gt hlt hlt2 he) (X4 (G1 (bf (bA (br (X8 (X2 []))))))) _ _ (gr1.trans gT)
  ·obtain rfl:i=l1.length:=by omega
   have d1:decide ((l1.length:Int)<(l1.length:Int))=false:=af (by omega);simp only[WX,VZ,n1,d1];exact hT (yO hlen hpre) (X2 (G2 (X1 (G4 (bf (bA (br (X4 (X2 []))))))))) _ _ gr1
 ·have d0:decide (¬((l1.length:Int)=(l2.length:Int)))=true:=ah (by omega);simp only[WX,VZ,n1,n2,d0];exact hF (fun e=>hlen (by rw[e])) (X4 (G1 (bf (bA (br (X8 (X2 []))))))) _ _ (Gr.refl ok)
theorem cg4(Φ:Nat→Option CF)(h22:Φ 22=some c22){F:RO}{M:Mem}{c1 pc pd pa pb:Nat}{iv:V}(ok:cR F M c1){r1 r2:List V}{p q:fD}(h1:P1 F M c1 r1 p)(h2:P1 F M c1 r2 q)(ma:M.get pa=some (ae 39 r1))(mb:M.get pb=some (ae 39 r2))(ha:pa<c1)(hb:pb<c1)(u:List (Option V))(Q:Ex→St→Prop)
 (hT:p=q→ ∀(u:List (Option V)) M' c',Gr c1 M c' M'→Q .nrm (.mk ((aH5 u (.p pc 0) (.p pd 0) iv)) [] M' c'))
 (hF:p≠q→ ∀(u:List (Option V)) M' c',Gr c1 M c' M'→Q .ret (.mk ((aH4 u (.b false))) [] M' c')):
 Wp Cm (K Φ none 12 F) (.mk ((bP3 u (.p pc 0) (.p pd 0) iv (.p pa 0) (.p pb 0))) [] M c1) Q:=by
 obtain⟨i1,o1,k1,hr1,a1,a2,a3⟩:=h1
 obtain⟨i2,o2,k2,hr2,b1,b2,b3⟩:=h2
 have L1:r1.length=6:=by rw[hr1];rfl
 have L2:r2.length=6:=by rw[hr2];rfl
 have A0:load1 F M pa 0=some (.i .i64 p.join):=(au ma 0).trans (by rw[hr1];rfl)
 have A1:load1 F M pa 1=some (.b p.nt):=(au ma 1).trans (by rw[hr1];rfl)
 have A4:load1 F M pa 4=some (.b p.beh):=(au ma 4).trans (by rw[hr1];rfl)
 have A5:load1 F M pa 5=some k1:=(au ma 5).trans (by rw[hr1];rfl)
 have A2:loadN F M pa 2 1=some [i1]:=by rw[cq ma,cN _ _ _ _ _ _ (by omega),hr1];rfl
 have A3:loadN F M pa 3 1=some [o1]:=by rw[cq ma,cN _ _ _ _ _ _ (by omega),hr1];rfl
 have B0:load1 F M pb 0=some (.i .i64 q.join):=(au mb 0).trans (by rw[hr2];rfl)
 have B1:load1 F M pb 1=some (.b q.nt):=(au mb 1).trans (by rw[hr2];rfl)
 have B4:load1 F M pb 4=some (.b q.beh):=(au mb 4).trans (by rw[hr2];rfl)
 have B5:load1 F M pb 5=some k2:=(au mb 5).trans (by rw[hr2];rfl)
 have B2:loadN F M pb 2 1=some [i2]:=by rw[cq mb,cN _ _ _ _ _ _ (by omega),hr2];rfl
 have B3:loadN F M pb 3 1=some [o2]:=by rw[cq mb,cN _ _ _ _ _ _ (by omega),hr2];rfl
 clear ma mb hr1 hr2 L1 L2
 by_cases dj:p.join=q.join
 rotate_left
 ·have dj':decide (¬(p.join=q.join))=true:=ah dj;simp only[WX,B7,oz,mD,uD,A0,B0,dj'];exact hF (fun e=>dj (by rw[e])) (X4 (G1 (bf (bA (br (X8 (X2 []))))))) _ _ (Gr.refl ok)
 have dj':decide (¬(p.join=q.join))=false:=af (fun h=>h dj)
 by_cases dn:p.nt=q.nt
 rotate_left
 ·have dn':decide (p.nt=q.nt)=false:=af dn;simp only[WX,B7,oz,mD,uD,A0,B0,A1,B1,dj',dn'];exact hF (fun e=>dn (by rw[e])) (X4 (G1 (bf (bA (br (X8 (X2 []))))))) _ _ (Gr.refl ok)
 have dn':decide (p.nt=q.nt)=true:=ah dn
 by_cases db:p.beh=q.beh
 rotate_left
 ·have db':decide (p.beh=q.beh)=false:=af db;simp only[WX,B7,oz,mD,uD,A0,B0,A1,B1,A4,B4,dj',dn',db'];exact hF (fun e=>db (by rw[e])) (X4 (G1 (bf (bA (br (X8 (X2 []))))))) _ _ (Gr.refl ok)
 have db':decide (p.beh=q.beh)=true:=ah db
 simp only[WX,B7,uD,A0,B0,A1,B1,A4,B4,A2,B2,dj',dn',db']
 refine az ((w22 Φ h22 ok a1 b1).mono ?_)
 rintro r M2 c2 ⟨rfl,g2⟩
 have hle2:=g2.le
 have A3:loadN F M2 pa 3 1=some [o1]:=(g2.loadN (by omega) _ _).trans A3
 have B3:loadN F M2 pb 3 1=some [o2]:=(g2.loadN (by omega) _ _).trans B3
 have A5:load1 F M2 pa 5=some k1:=(g2.load1 (by omega) _).trans A5
 have B5:load1 F M2 pb 5=some k2:=(g2.load1 (by omega) _).trans B5
 by_cases di:p.inp=q.inp
 rotate_left
 ·have di':decide (p.inp=q.inp)=false:=af di;simp only[WX,oz,mD,di'];exact hF (fun e=>di (by rw[e])) (X4 (G1 (bf (bA (br (X8 (X2 []))))))) _ _ g2
 have di':decide (p.inp=q.inp)=true:=ah di
 simp only[WX,A3,B3,di']
 have ok2:=g2.ok ok
 refine az ((w22 Φ h22 ok2 (a2.grow g2) (b2.grow g2)).mono ?_)
 rintro r M3 c3 ⟨rfl,g3⟩
 have hle3:=g3.le
 have A5:load1 F M3 pa 5=some k1:=(g3.load1 (by omega) _).trans A5
 have B5:load1 F M3 pb 5=some k2:=(g3.load1 (by omega) _).trans B5
 have g23:=g2.trans g3
 have qo:=g3.ok ok2
 by_cases d5:p.out=q.out
 rotate_left
 ·have d5':decide (p.out=q.out)=false:=af d5;simp only[WX,oz,mD,d5'];exact hF (fun e=>d5 (by rw[e])) (X4 (G1 (bf (bA (br (X8 (X2 []))))))) _ _ g23
 have d5':decide (p.out=q.out)=true:=ah d5
 have a3:=a3.grow g23
 have b3:=b3.grow g23
 have n1:=a3.len
 have n2:=b3.len
 have mx1:=a3.max
 by_cases hlen:p.cmds.length=q.cmds.length
 rotate_left
 ·have d0:decide (¬((p.cmds.length:Int)=(q.cmds.length:Int)))=true:=ah (by omega);simp only[WX,oz,mD,A5,B5,n1,n2,d0,d5'];exact hF (fun e=>hlen (by rw[e])) (X4 (G1 (bf (bA (br (X8 (X2 []))))))) _ _ g23
 have d0:decide (¬((p.cmds.length:Int)=(q.cmds.length:Int)))=false:=af (by omega)
 have hnx:∀{l:List (List (List Pc))},p.cmds=q.cmds→p=q:=fun hc=>Tb.2 ⟨dj,dn,db,di,d5,hc⟩
 simp only[WX,mD,Uq,A5,B5,n1,n2,d0,d5']
 obtain⟨I,hI⟩:∃I:Nat→St→Prop,∀n s',I n s'↔(∃(i c4:Nat) (M1:Mem) (u:List (Option V)),n=p.cmds.length-i∧i≤p.cmds.length∧s'= .mk ((aH3 u (.p pc 0) (.p pd 0) iv (.p pa 0) (.p pb 0) (.i .i64 (i:Int)))) [] M1 c4∧Gr c3 M3 c4 M1∧p.cmds.take i=q.cmds.take i):=⟨fun n s'=>_,fun _ _=>Iff.rfl⟩
 refine bw I ?_ p.cmds.length _ ((hI _ _).2 ⟨0,_,_,(X2 (G2 (X1 (G4 (bf (bA (br (X4 (X2 []))))))))),rfl,aD _,rfl,Gr.refl qo,rfl⟩)
 intro n s' hIs
 obtain⟨i,c4,M1,u,rfl,hi,rfl,gr1,hpre⟩:=(hI _ _).1 hIs
 clear hIs
 have A5:load1 F M1 pa 5=some k1:=(gr1.load1 (by omega) _).trans A5
 have B5:load1 F M1 pb 5=some k2:=(gr1.load1 (by omega) _).trans B5
 by_cases hlt:i<p.cmds.length
 ·have q8:cB .add (.i .i64 (i:Int)) (.i .i64 1)=some (.i .i64 ((i+1:Nat):Int)):=by rw[be _ _ (by omega) (by omega)];simp
  have hlt2:i<q.cmds.length:=by omega
  have d1:decide ((i:Int)<(p.cmds.length:Int))=true:=ah (by omega);have ok4:=gr1.ok qo;obtain⟨x1,y1,z1,hb1,ia1,ld1,_,w1⟩:=cQ.at1 (a3.grow gr1) i hlt;obtain⟨x2,y2,z2,hb2,ia2,ld2,_,w2⟩:=cQ.at1 (b3.grow gr1) i hlt2;have ia1:=ia1 .i64;have ia2:=ia2 .i64;have hfr:=ok4.free;have gX:Gr c4 M1 (c4+14) M1:=(Gr.refl ok4).up (by omega);simp only[WX,Ur,Us,Ut,Uz,A5,B5,n1,d1,ia1,ia2,ld1,ld2,aB];refine cg5 Φ h22 (gX.ok ok4) (w1.grow gX) (w2.grow gX) (X2 (G2 (X1 (G4 (G2 (bf (bA (br (X4 []))))))))) _ ?_ ?_
  ·intro he u M' c' g;simp only[WX,VZ,q8];exact⟨p.cmds.length-(i+1),by omega,(hI _ _).2 ⟨i+1,_,_,(X2 (G2 (X1 (G4 (bf (bA (br (X4 (X2 []))))))))),rfl,hlt,rfl,gr1.trans (gX.trans g),sL hlt hlt2 hpre he⟩⟩
  ·intro he u M' c' g;simp only[WX];exact hF (fun e=>Gt hlt hlt2 he (by rw[e])) (X4 (G1 (bf (bA (br (X8 (X2 []))))))) _ _ (g23.trans (gr1.trans (gX.trans g)))
 ·obtain rfl:i=p.cmds.length:=by omega
  have d1:decide ((p.cmds.length:Int)<(p.cmds.length:Int))=false:=af (by omega);simp only[WX,VZ,A5,n1,d1];exact hT (Tb.2 ⟨dj,dn,db,di,d5,yO hlen hpre⟩) (X2 (G2 (X1 (G1 (bf (bA (br (X8 (X1 []))))))))) _ _ (g23.trans gr1)
theorem w12(Φ:Nat→Option CF)(h:Φ 12=some c12)(h22:Φ 22=some c22){F:RO}{M:Mem}{c:Nat}(ok:cR F M c){v1 v2:V}{l1 l2:List fD}(h1:nh F M c v1 l1)(h2:nh F M c v2 l2):
 Calls Φ F 12 [.g [v1],.g [v2]] M c fun r M' c'=>r= .b (decide (l1=l2))∧Gr c M c' M':=by
 refine aN h ?_
 obtain⟨y1,y2,y3⟩:=h1.one
 obtain⟨z1,z2,z3⟩:=h2.one
 have hG:∀v,flatten (V.g [v])=[v]:=fun _=>rfl
 have gX:=((Gr.refl ok).set c (ae 25 [v1]) (aj _) (ay _) (aJ _)).set (c+1) (ae 25 [v2]) (by omega) (show c+1<c+2 by omega) (by omega)
 have m0:((M.set c (ae 25 [v1])).set (c+1) (ae 25 [v2])).get c=some (ae 25 [v1]):=by rw[ak _ _ (by omega)];exact am _ _ _
 have m1:((M.set c (ae 25 [v1])).set (c+1) (ae 25 [v2])).get (c+1)=some (ae 25 [v2]):=am _ _ _
 have k0:load1 F ((M.set c (ae 25 [v1])).set (c+1) (ae 25 [v2])) c 0=some v1:=au m0 0
 have k1:load1 F ((M.set c (ae 25 [v1])).set (c+1) (ae 25 [v2])) (c+1) 0=some v2:=au m1 0
 have n1:=h1.len
 have n2:=h2.len
 have mx1:=h1.max
 have h1:=h1.grow gX
 have h2:=h2.grow gX
 have okX:=gX.ok ok
 by_cases hlen:l1.length=l2.length
 rotate_left
 ·have d0:decide (¬((l1.length:Int)=(l2.length:Int)))=true:=ah (by omega);simp only[WX,Nat.reduceAdd,e12,Up,Ux,aJ4,UB,Ew,hG,y3,z3,k0,k1,n1,n2,d0];exact⟨by rw[af (fun e=>hlen (by rw[e]))],gX⟩
 have d0:decide (¬((l1.length:Int)=(l2.length:Int)))=false:=af (by omega)
 simp only[WX,Nat.reduceAdd,e12,Up,Ux,UB,aJ5,UA,Ew,hG,y3,z3,k0,k1,n1,n2,d0]
 generalize(M.set c (ae 25 [v1])).set (c+1) (ae 25 [v2])=X at gX h1 h2 okX k0 k1⊢
 clear m0 m1
 obtain⟨I,hI⟩:∃I:Nat→St→Prop,∀n s',I n s'↔(∃(i c1:Nat) (M1:Mem) (u:List (Option V)),n=l1.length-i∧i≤l1.length∧s'= .mk ((aH5 u (.p c 0) (.p (c+1) 0) (.i .i64 (i:Int)))) [] M1 c1∧Gr (c+2) X c1 M1∧l1.take i=l2.take i):=⟨fun n s'=>_,fun _ _=>Iff.rfl⟩
 refine bw I ?_ l1.length _ ((hI _ _).2 ⟨0,_,_,(X2 (G2 (X1 (G1 (bf (bA (br (X8 (X1 []))))))))),rfl,aD _,rfl,Gr.refl okX,rfl⟩)
 intro n s' hIs
 obtain⟨i,c1,M1,u,rfl,hi,rfl,gr1,hpre⟩:=(hI _ _).1 hIs
 clear hIs
 have hle1:=gr1.le
 have k0:load1 F M1 c 0=some v1:=(gr1.load1 (by omega) _).trans k0
 have k1:load1 F M1 (c+1) 0=some v2:=(gr1.load1 (by omega) _).trans k1
 by_cases hlt:i<l1.length
 ·have q8:cB .add (.i .i64 (i:Int)) (.i .i64 1)=some (.i .i64 ((i+1:Nat):Int)):=by rw[be _ _ (by omega) (by omega)];simp
  have hlt2:i<l2.length:=by omega
  have d1:decide ((i:Int)<(l1.length:Int))=true:=ah (by omega);have ok1:=gr1.ok okX;obtain⟨b1,o1,e1,hb1,ia1,ld1,el1,r1⟩:=cQ.at (h1.grow gr1) (by decide) i hlt;obtain⟨b2,o2,e2,hb2,ia2,ld2,el2,r2⟩:=cQ.at (h2.grow gr1) (by decide) i hlt2;have ia1:=ia1 .i64;have ia2:=ia2 .i64;have hfr:=ok1.free;have lk1:(look F M1 (c1+10)).isNone=true:=by rw[ok1.look (by omega)];rfl
  have lk2:(look F M1 (c1+11)).isNone=true:=by rw[ok1.look (by omega)];rfl
  have rf:∀x,c1≤x→bY x [(9,b2),(6,c+1),(4,b1),(1,c)]=true:=fun x hx=>by rw[bo _ _ _ _ (by omega),bo _ _ _ _ (by omega),bo _ _ _ _ (by omega),bo _ _ _ _ (by omega),cK]
  have rf1:=rf (c1+10) (by omega);have rf2:=rf (c1+11) (by omega);simp only[WX,aJ6,aJ7,aJ8,k0,k1,n1,d1,ia1,ia2,ld1,ld2,uH,mh,lk1,lk2,rf1,rf2];have T1:testBit 3103 11=true:=by decide
  have T2:testBit 3103 10=true:=by decide
  obtain⟨Z,hZ⟩:∃Z:List V,Z=[V.i IntKind.i64 0,V.b false,V.l0,V.l0,V.b false,V.l0]:=⟨_,rfl⟩
  have lZ:Z.length=6:=by rw[hZ];rfl
  rw[←hZ];have gA:Gr c1 M1 (c1+14) ((M1.set (c1+11) (ae 39 Z)).set (c1+10) (ae 39 Z)):=((Gr.refl ok1).set (c1+11) _ (by omega) (show c1+11<c1+14 by omega) (by omega)).set (c1+10) _ (by omega) (by omega) (aj _);refine Vh (M1:=(M1.set (c1+11) (ae 39 Z)).set (c1+10) (ae 39 Z)) (b:=c1+10) (ty:=39) (z:=Z) (e:=e1) _ _ _ _ _ _ _ _ _ _ _ _ _ (by simp only[List.all_cons,List.all_nil,T1,T2,Bool.and_self]) (by rw[fg,fg,ix]) (am _ _ _) rfl rfl r1.all el1 lZ rf1 (gA.ok ok1).free ?_;intro N1 hN1;have gN1:Gr c1 M1 (c1+14) N1:=⟨by omega,fun x hx=>by rw[hN1,ak _ _ (by omega)];exact gA.old x hx,fun x hx=>by rw[hN1,ak _ _ (by omega)];exact gA.new x hx⟩
  refine Vh (M1:=N1) (b:=c1+11) (ty:=39) (z:=Z) (e:=e2) _ _ _ _ _ _ _ _ _ _ _ _ _ rfl (ix _) (by rw[hN1,ak _ _ (by omega),ak _ _ (by omega)];exact am _ _ _) rfl rfl r2.all el2 lZ rf2 (gN1.ok ok1).free ?_;intro N2 hN2;have gN2:Gr c1 M1 (c1+14) N2:=⟨by omega,fun x hx=>by rw[hN2,ak _ _ (by omega)];exact gN1.old x hx,fun x hx=>by rw[hN2,ak _ _ (by omega)];exact gN1.new x hx⟩
  have ma:N2.get (c1+10)=some (ae 39 e1):=by rw[hN2,ak _ _ (by omega),hN1];exact am _ _ _
  have mb:N2.get (c1+11)=some (ae 39 e2):=by rw[hN2];exact am _ _ _
  have okN:=gN2.ok ok1;simp only[WX];refine cg4 Φ h22 okN (P1.grow gN2 _ _ r1) (P1.grow gN2 _ _ r2) ma mb (by omega) (by omega) (X2 (G2 (X1 (G2 (G1 (bf (bA (br (X4 (X2 (X1 []))))))))))) _ ?_ ?_
  ·intro he u M' c' g;simp only[WX,VZ,q8];exact⟨l1.length-(i+1),by omega,(hI _ _).2 ⟨i+1,_,_,(X2 (G2 (X1 (G1 (bf (bA (br (X8 (X1 []))))))))),rfl,hlt,rfl,gr1.trans (gN2.trans g),sL hlt hlt2 hpre he⟩⟩
  ·intro he u M' c' g;simp only[WX];exact⟨by rw[af (Gt hlt hlt2 he)],gX.trans (gr1.trans (gN2.trans g))⟩
 ·obtain rfl:i=l1.length:=by omega
  have d1:decide ((l1.length:Int)<(l1.length:Int))=false:=af (by omega);simp only[WX,VZ,k0,n1,d1];exact⟨by rw[ah (yO hlen hpre)],gX.trans gr1⟩
theorem aW7{F:RO}{M:Mem}{c:Nat}{v:V}{ps:List Pc}(h:cE F M c 2 v (jy ps))(i:Nat)(hi:i<ps.length):∃b o,b<c∧(∀k,eV 2 v (.i k (i:Int))=some (.p b o))∧load1 F M b o=some (sV ps[i].1):=by
 obtain⟨b,o,h1,h2,h3⟩:=h.at i (by rw[ep];exact hi)
 have e:(jy ps)[i]'(by rw[ep];exact hi)=Ar ps[i]:=by simp[jy]
 rw[e]at h3
 have a0:=h3 0 (by simp[Ar])
 exact⟨b,o,h1,h2,a0⟩
theorem cQ.lk{α:Type}{F F':RO}{R R':Mem→Nat→List V→α→Prop}{sz:Nat}{M M':Mem}{c:Nat}{v:V}{l:List α}(hlk:∀b,look F' M' b=look F M b)(hR:∀e x,R M c e x→R' M' c e x)(h:cQ F R sz M c v l):cQ F' R' sz M' c v l:=by
 obtain⟨es,h1,h2,h3,h4⟩:=h
 exact⟨es,h1.lk hlk,h2,h3,fun i h h'=>hR _ _ (h4 i h h')⟩
theorem dQ.lk{F F':RO}{M M':Mem}{c:Nat}{v:V}{w:List Pc}(hlk:∀b,look F' M' b=look F M b)(h:dQ F M c v w):dQ F' M' c v w:=⟨h.1.lk hlk,h.2⟩
theorem fo.lk{F F':RO}{M M':Mem}{c:Nat}{v:V}{l:List (List Pc)}(hlk:∀b,look F' M' b=look F M b)(h:fo F M c v l):fo F' M' c v l:=cQ.lk hlk (fun e w ⟨x,h1,h2⟩=>⟨x,h1,h2.lk hlk⟩) h
theorem lh.lk{F F':RO}{M M':Mem}{c:Nat}{v:V}{l:List (List (List Pc))}(hlk:∀b,look F' M' b=look F M b)(h:lh F M c v l):lh F' M' c v l:=cQ.lk hlk (fun e w ⟨x,h1,h2⟩=>⟨x,h1,h2.lk hlk⟩) h
abbrev U1(u:List (Option V))(x1 x3 x7 x8 x9:V):T:=(.n (.n (.n (.n (fm u 31 15 47) (some x7) (fm u 39 23 55)) (some x3) (aq u 35 19 51 11 43 27 59)) (some x1) (.n (.n (fm u 33 17 49) (some x9) (fm u 41 25 57)) (uO u 5) (aq u 37 21 53 13 45 29 61))) (uO u 0) (.n (.n (.n (fm u 32 16 48) (some x8) (fm u 40 24 56)) (uO u 4) (aq u 36 20 52 12 44 28 60)) (uO u 2) (.n (aq u 34 18 50 10 42 26 58) (uO u 6) (aq u 38 22 54 14 46 30 62))))
def ar4:CC:=(.reg [(aa a1 (.bx 36 1 z0)),(qq a2 (.mv xF))])
def ar5:CC:=(.reg [(qq a3 (.mv xF))])
def ar6:CC:=(.reg [(qq a6 (.fa 0 z1)),(qq a7 (.ld1 z6)),(qq a8 (.ln .slice z7)),(qq a9 (.mv (x6 0)))])
def ar7:CC:=(.reg [(qq dJ (.bi .lss z9 z8))])
def ar8:CC:=(.reg [(qq ey (.iaS 2 z7 z9)),(qq eU (.ldn 2 dE)),(aa a5 (.al 64 [(.s 0 0),(.b false)])),(ez (.st 2 z5 ei))])
def ar9:CC:=(.reg [(qq dR (.fa 1 z5)),(qq dA (.ld1 fG)),(qq eX (.mv gf)),(aE gC (.fa 0 z5) eX),(aE fK (.ld1 gS) eX),(aE i5 (.bi .neq hU (.c (.s 0 0))) eX),(qq gh (.pk gM jz xF)),(qq eC (.mv k7))])
def as0:CC:=(.reg [(qq fE (.fa 1 z5)),(qq j9 (.ld1 ju)),(qq gO (.un .not kL)),(qq jn (.mv k8)),(aE gP (.mv z3) jn),(qq ja (.pk jA kM xF)),(qq eC (.mv lw))])
def as1:CC:=(.reg [(qq gQ (.fa 1 z5)),(qq kQ (.ld1 lB)),(qq gU (.un .not mH)),(qq jv (.mv mI)),(aE jC (.fa 0 z5) jv),(aE lz (.ld1 ny) jv),(aE lE (.bi .eql oC (.c (.s 0 0))) jv),(qq jx (.pk nv pQ xF)),(qq iK (.mv pR)),(aE mK (.fa 0 z1) iK),(aE ka (.ld1 pS) iK),(aE mL (.ln .slice oF) iK),(aE lA (.bi .gtr qS (x6 1)) iK),(qq nj (.pk pM qT xF)),(qq eC (.mv rJ))])
def as2:CC:=(.reg [(qq jb (.fa 0 z5)),(qq kR (.ld1 pT)),(ee oK (.call 77 [rK,(.c (.f 78 [] []))])),(qq lF (.un .not rL)),(qq eC (.mv qU))])
def Qw:CC:=(.cond eb .skip (.seq as1 (.cond eb .skip as2)))
def Qx:CC:=(.seq ar9 (.cond eb .skip (.seq as0 Qw)))
def Qy:CC:=(.seq (.reg [(qq a2 (.mv xF))]) .ret)
def Qz:CC:=(.block 2 (.seq Qx (.cond eb Qy .skip)))
def QA:CC:=(.reg [(qq oL (.fa 1 z5)),(qq ll (.ld1 rM)),(qq oM (.un .not sO)),(qq a3 (.mv rN))])
def QB:CC:=(.reg [(qq kb (.bi .add z9 (x6 1))),(qq a9 (.mv sq))])
def QC:CC:=(.seq (.cond eK .skip (.exit 0)) (.seq (.block 1 (.seq ar8 (.seq Qz QA))) QB))
def QD:CC:=(.reg [(qq lG (.fa 0 z1)),(qq qZ (.ld1 uN)),(qq r0 (.ln .slice uZ)),(qq mM (.bi .gtr uP (x6 0))),(qq a2 (.mv v7))])
def QE:CC:=(.seq (.seq ar6 (.block 0 (.loop (.seq ar7 QC)))) (.seq QD .ret))
def Hn:CF:= .mk 6 [.t a2] (.seq ar4 (.seq ar5 QE))
theorem e61(v0:V):bz 6 [v0]=(.n nu (some v0) nu):=rfl
def VI:=ai @e61 (ai (wu ar4.eq_1) (ai (wu ar5.eq_1) (ai (wu ar6.eq_1) (ai (wu ar7.eq_1) (ai (wu ar8.eq_1) (ai (wu ar9.eq_1) (ai (wu as0.eq_1) (ai (wu as1.eq_1) (ai (wu as2.eq_1) (ai (wu Qw.eq_1) (ai (wu Qx.eq_1) (ai (wu Qy.eq_1) (ai (wu Qz.eq_1) (ai (wu QA.eq_1) (ai (wu QB.eq_1) (ai (wu QC.eq_1) (ai (wu QD.eq_1) (wu QE.eq_1))))))))))))))))))
def xW(n:Nat)(tx:Bool)(p:Pc):Bool:=(p.2&& !decide (p.1=[]))||((!p.2&&tx)||((!p.2&&(decide (p.1=[])&&decide (1<n)))|| !(p.1.all l8)))
def lu(n:Nat):Bool→List Pc→Bool
 |_,[]=>true
 |tx,p::r=> !xW n tx p&&lu n (!p.2) r
def du(w:List Pc):Bool:=lu w.length false w&&decide (0<w.length)
theorem dI{M:Mem}{c ty:Nat}{d vs:List V}(hl:vs.length=d.length)(h1:aK vs=true):bR (M.set c (ae ty d)) c 0 vs=some (M.set c (ae ty vs)):=by
 rw[aC (am M c (ae ty d)) 0 vs (by omega) h1,pF,Ap hl.symm]
theorem bI7(s:List UInt8):h77 [sV s,.f 78 [] []]=if s.length≤1000000 then some (.b (s.all l8))else none:=by
 show(pW (sV s)).bind _=_
 rw[kS,Option.bind_some]
theorem w61(Φ:Nat→Option CF)(h:Φ 61=some Hn)(h77:Φ 77=some (.orc (aG h77))){F:RO}{M:Mem}{c:Nat}(ok:cR F M c){v:V}{w:List Pc}(hw:dQ F M c v w)(hp:∀p∈w,p.1.length≤1000000):
 Calls Φ F 61 [.g [v]] M c fun r M' c'=>r= .b (du w)∧Gr c M c' M':=by
 refine aN h ?_
 obtain⟨y1,y2,y3⟩:=hw.one
 have hG:∀v,flatten (V.g [v])=[v]:=fun _=>rfl
 have gX:=(Gr.refl ok).set c (ae 36 [v]) (aj _) (ay _) (aJ _)
 have m0:(M.set c (ae 36 [v])).get c=some (ae 36 [v]):=am _ _ _
 have n1:=hw.len
 have mx1:w.length≤9223372036854775807:=hw.2
 have hX:=hw.grow gX
 have k0:load1 F (M.set c (ae 36 [v])) c 0=some v:=au m0 0
 simp only[WX,VI,hG,y3,k0,n1]
 generalize M.set c (ae 36 [v])=X at gX m0 hX⊢
 clear k0
 obtain⟨I,hI⟩:∃I:Nat→St→Prop,∀n s',I n s'↔(∃(i c1:Nat) (tx:Bool) (M1:Mem) (u:List (Option V)),n=w.length-i∧i≤w.length∧s'= .mk ((U1 u (.p c 0) (.b tx) v (.i .i64 (w.length:Int)) (.i .i64 (i:Int)))) [] M1 c1∧Gr (c+1) X c1 M1∧lu w.length false w=lu w.length tx (w.drop i)):=⟨fun n s'=>_,fun _ _=>Iff.rfl⟩
 refine bw I ?_ w.length _ ((hI _ _).2 ⟨0,_,_,_,(X1 (G1 (X1 (G1 (X2 (X1 (G2 (G1 (bA (br (X4 (X1 [])))))))))))),rfl,aD _,rfl,Gr.refl (gX.ok ok),rfl⟩)
 intro n s' hIs
 obtain⟨i,c1,tx,M1,u,rfl,hi,rfl,gr1,hf⟩:=(hI _ _).1 hIs
 clear hIs
 have k0:load1 F M1 c 0=some v:=(gr1.load1 (by omega) _).trans (au m0 0)
 by_cases hlt:i<w.length
 ·have q8:cB .add (.i .i64 (i:Int)) (.i .i64 1)=some (.i .i64 ((i+1:Nat):Int)):=by rw[be _ _ (by omega) (by omega)];simp
  have d1:decide ((i:Int)<(w.length:Int))=true:=ah (by omega);obtain⟨b,o,hb,ia,ld1⟩:=wD (hX.grow gr1).1 i hlt;have ia:=ia .i64;have hd:w.drop i=w[i]::w.drop (i+1):=bS hlt;rw[hd,lu]at hf;have hl1:=hp w[i] (List.getElem_mem _);generalize w[i]=p at ld1 hf hl1;obtain⟨tx1,st⟩:=p;unfold Ar at ld1;have sn:bR (M1.set c1 (ae 64 [V.s 0 0,V.b false])) c1 0 [sV tx1,.b st]=some (M1.set c1 (ae 64 [sV tx1,.b st])):=dI rfl rfl;have m1:(M1.set c1 (ae 64 [sV tx1,.b st])).get c1=some (ae 64 [sV tx1,.b st]):=am _ _ _;have g1:=gr1.set c1 (ae 64 [sV tx1,.b st]) gr1.le (ay _) (aJ _);have p0:load1 F (M1.set c1 (ae 64 [sV tx1,.b st])) c1 0=some (sV tx1):=au m1 0;have p1:load1 F (M1.set c1 (ae 64 [sV tx1,.b st])) c1 1=some (.b st):=au m1 1;have k1:load1 F (M1.set c1 (ae 64 [sV tx1,.b st])) c 0=some v:=(g1.load1 (by omega) _).trans (au m0 0);have qn:=iL tx1 [];have qe:=cM tx1 [];have e0:V.s 0 0=sV []:=rfl;rw[←e0]at qn qe;have hh:=bI7 tx1;rw[ac hl1]at hh;have STEP:lu w.length false w=(!xW w.length tx (tx1,st)&&lu w.length (!st) (w.drop (i+1))):=hf;have BAD:xW w.length tx (tx1,st)=true→du w=false:=by
   intro hb;unfold du;rw[STEP,hb];rfl
  have GOOD:xW w.length tx (tx1,st)=false→lu w.length false w=lu w.length (!st) (w.drop (i+1)):=by
   intro hb;rw[STEP,hb];rfl
  unfold xW at BAD GOOD;generalize M1.set c1 (ae 64 [sV tx1,.b st])=Y at sn p0 p1 k1 g1;have FIN:∀(M2:Mem) (c2:Nat),Gr (c+1) X c2 M2→Gr c M c2 M2:=fun _ _ g=>gX.trans g;cases st with
  |true=>
   by_cases ht:tx1=[]
   ·rw[ah ht]at qe qn;cases ha:tx1.all l8 with
    |true=>
     rw[ha]at hh;simp only[WX,Nat.reduceAdd,VI,d1,ia,ld1,sn,p0,p1,qn,h77,hh,q8];exact⟨w.length-(i+1),by omega,(hI _ _).2 ⟨i+1,_,_,_,(X1 (G1 (X1 (G1 (X2 (X1 (G2 (G1 (bA (br (X4 (X1 [])))))))))))),rfl,hlt,rfl,g1,GOOD (by rw[ha,ah ht];rfl)⟩⟩
    |false=>
     rw[ha]at hh;simp only[WX,Nat.reduceAdd,VI,d1,ia,ld1,sn,p0,p1,qn,h77,hh];exact⟨by rw[BAD (by rw[ha];simp)],FIN _ _ g1⟩
   ·rw[af ht]at qe qn;simp only[WX,Nat.reduceAdd,VI,d1,ia,ld1,sn,p0,p1,qn];exact⟨by rw[BAD (by rw[af ht];rfl)],FIN _ _ g1⟩
  |false=>
   cases tx with
   |true=>
    simp only[WX,Nat.reduceAdd,VI,d1,ia,ld1,sn,p1];exact⟨by rw[BAD rfl],FIN _ _ g1⟩
   |false=>
    by_cases ht:tx1=[]
    ·rw[ah ht]at qe qn;by_cases h1:1<w.length
     ·have d2:decide ((1:Int)<(w.length:Int))=true:=ah (by omega);simp only[WX,Nat.reduceAdd,VI,d1,d2,ia,ld1,sn,p0,p1,qe,k1,n1];exact⟨by rw[BAD (by rw[ah ht,ah h1];simp)],FIN _ _ g1⟩
     ·have d2:decide ((1:Int)<(w.length:Int))=false:=af (by omega);have ha:tx1.all l8=true:=by rw[ht];rfl
      rw[ha]at hh;simp only[WX,Nat.reduceAdd,VI,d1,d2,ia,ld1,sn,p0,p1,qe,k1,h77,hh,n1,q8];exact⟨w.length-(i+1),by omega,(hI _ _).2 ⟨i+1,_,_,_,(X1 (G1 (X1 (G1 (X2 (X1 (G2 (G1 (bA (br (X4 (X1 [])))))))))))),rfl,hlt,rfl,g1,GOOD (by rw[ha,af h1];simp)⟩⟩
    ·rw[af ht]at qe qn;cases ha:tx1.all l8 with
     |true=>
      rw[ha]at hh;simp only[WX,Nat.reduceAdd,VI,d1,ia,ld1,sn,p0,p1,qe,h77,hh,q8];exact⟨w.length-(i+1),by omega,(hI _ _).2 ⟨i+1,_,_,_,(X1 (G1 (X1 (G1 (X2 (X1 (G2 (G1 (bA (br (X4 (X1 [])))))))))))),rfl,hlt,rfl,g1,GOOD (by rw[ha,af ht];simp)⟩⟩
     |false=>
      rw[ha]at hh;simp only[WX,Nat.reduceAdd,VI,d1,ia,ld1,sn,p0,p1,qe,h77,hh];exact⟨by rw[BAD (by rw[ha];simp)],FIN _ _ g1⟩
 ·obtain rfl:i=w.length:=by omega
  have d1:decide ((w.length:Int)<(w.length:Int))=false:=af (by omega);rw[cj]at hf;have hff:du w=decide ((0:Int)<(w.length:Int)):=by
   unfold du;rw[hf];simp[lu]
  simp only[WX,VI,d1,k0,n1];exact⟨by rw[hff],gX.trans gr1⟩
abbrev Gk(u:List (Option V))(x1 x3 x4:V):T:=(.n (.n (.n (.n (aq u 63 31 95 15 79 47 111) (uO u 7) (aq u 71 39 103 23 87 55 119)) (some x3) (.n (aq u 67 35 99 19 83 51 115) (uO u 11) (aq u 75 43 107 27 91 59 123))) (some x1) (.n (.n (aq u 65 33 97 17 81 49 113) (uO u 9) (aq u 73 41 105 25 89 57 121)) (uO u 5) (.n (aq u 69 37 101 21 85 53 117) (uO u 13) (aq u 77 45 109 29 93 61 125)))) (uO u 0) (.n (.n (.n (aq u 64 32 96 16 80 48 112) (uO u 8) (aq u 72 40 104 24 88 56 120)) (some x4) (.n (aq u 68 36 100 20 84 52 116) (uO u 12) (aq u 76 44 108 28 92 60 124))) (uO u 2) (.n (.n (aq u 66 34 98 18 82 50 114) (uO u 10) (aq u 74 42 106 26 90 58 122)) (uO u 6) (.n (aq u 70 38 102 22 86 54 118) (uO u 14) (aq u 78 46 110 30 94 62 126)))))
abbrev aH6(u:List (Option V))(x2:V):T:=(.n (.n (.n (.n (aq u 63 31 95 15 79 47 111) (uO u 7) (aq u 71 39 103 23 87 55 119)) (uO u 3) (.n (aq u 67 35 99 19 83 51 115) (uO u 11) (aq u 75 43 107 27 91 59 123))) (uO u 1) (.n (.n (aq u 65 33 97 17 81 49 113) (uO u 9) (aq u 73 41 105 25 89 57 121)) (uO u 5) (.n (aq u 69 37 101 21 85 53 117) (uO u 13) (aq u 77 45 109 29 93 61 125)))) (uO u 0) (.n (.n (.n (aq u 64 32 96 16 80 48 112) (uO u 8) (aq u 72 40 104 24 88 56 120)) (uO u 4) (.n (aq u 68 36 100 20 84 52 116) (uO u 12) (aq u 76 44 108 28 92 60 124))) (some x2) (.n (.n (aq u 66 34 98 18 82 50 114) (uO u 10) (aq u 74 42 106 26 90 58 122)) (uO u 6) (.n (aq u 70 38 102 22 86 54 118) (uO u 14) (aq u 78 46 110 30 94 62 126)))))
abbrev nN(u:List (Option V))(x1 x3 x4 x5:V):T:=(.n (.n (.n (.n (aq u 63 31 95 15 79 47 111) (uO u 7) (aq u 71 39 103 23 87 55 119)) (some x3) (.n (aq u 67 35 99 19 83 51 115) (uO u 11) (aq u 75 43 107 27 91 59 123))) (some x1) (.n (.n (aq u 65 33 97 17 81 49 113) (uO u 9) (aq u 73 41 105 25 89 57 121)) (some x5) (.n (aq u 69 37 101 21 85 53 117) (uO u 13) (aq u 77 45 109 29 93 61 125)))) (uO u 0) (.n (.n (.n (aq u 64 32 96 16 80 48 112) (uO u 8) (aq u 72 40 104 24 88 56 120)) (some x4) (.n (aq u 68 36 100 20 84 52 116) (uO u 12) (aq u 76 44 108 28 92 60 124))) (uO u 2) (.n (.n (aq u 66 34 98 18 82 50 114) (uO u 10) (aq u 74 42 106 26 90 58 122)) (uO u 6) (.n (aq u 70 38 102 22 86 54 118) (uO u 14) (aq u 78 46 110 30 94 62 126)))))
abbrev bP4(u:List (Option V))(x1 x3:V):T:=(.n (.n (.n (.n (aq u 63 31 95 15 79 47 111) (uO u 7) (aq u 71 39 103 23 87 55 119)) (some x3) (.n (aq u 67 35 99 19 83 51 115) (uO u 11) (aq u 75 43 107 27 91 59 123))) (some x1) (.n (.n (aq u 65 33 97 17 81 49 113) (uO u 9) (aq u 73 41 105 25 89 57 121)) (uO u 5) (.n (aq u 69 37 101 21 85 53 117) (uO u 13) (aq u 77 45 109 29 93 61 125)))) (uO u 0) (.n (.n (.n (aq u 64 32 96 16 80 48 112) (uO u 8) (aq u 72 40 104 24 88 56 120)) (uO u 4) (.n (aq u 68 36 100 20 84 52 116) (uO u 12) (aq u 76 44 108 28 92 60 124))) (uO u 2) (.n (.n (aq u 66 34 98 18 82 50 114) (uO u 10) (aq u 74 42 106 26 90 58 122)) (uO u 6) (.n (aq u 70 38 102 22 86 54 118) (uO u 14) (aq u 78 46 110 30 94 62 126)))))
def as9:CC:=(.reg [(aa a1 (.bx 36 1 z0)),(qq a2 (.mv xF))])
def bZ5:=wu as9.eq_1
def at2:CC:=(.reg [(qq a3 (.mv (x6 0)))])
def bZ6:=wu at2.eq_1
def at3:CC:=(.reg [(qq a6 (.mv z3)),(qq a7 (.fa 0 z1)),(qq a8 (.ld1 z7)),(qq a9 (.ln .slice z8)),(qq dJ (.bi .lss z6 z9))])
def jl:=wu at3.eq_1
def at4:CC:=(.reg [(qq eC (.fa 0 z1)),(qq dR (.ld1 eb)),(qq dA (.mv z3)),(qq eX (.iaS 2 fG gf)),(qq gC (.ldn 2 gM)),(aa a4 (.al 64 [(.s 0 0),(.b false)])),(ez (.st 2 z4 gS))])
def jW:=wu at4.eq_1
def at5:CC:=(.reg [(qq fK (.fa 1 z4)),(qq i5 (.ld1 hU)),(qq gh (.mv jz)),(aE fE (.fa 0 z4) gh),(aE j9 (.ld1 ju) gh),(aE gO (.bi .neq kL (.c (.s 0 0))) gh),(qq jn (.pk k7 k8 xF)),(qq gP (.mv jA)),(aw ja (.fa 1 z4) gP),(aw gQ (.ld1 lw) gP),(aw kQ (.un .not lB) gP),(aw gU (.mv mH) gP),(aE jv (.fa 0 z4) gU),(aE jC (.ld1 nv) gU),(aE lz (.bi .eql ny (.c (.s 0 0))) gU),(aw lE (.pk mI oC xF) gP),(aw jx (.mv pQ) gP),(aE iK (.fa 0 z1) jx),(aE mK (.ld1 pM) jx),(aE ka (.ln .slice pS) jx),(aE mL (.bi .gtr oF (x6 1)) jx),(aw lA (.pk pR qS xF) gP),(qq nj (.pk kM xT qT)),(qq jb (.mv rJ)),(aw kR (.mv z3) jb),(aw oK (.bi .gtr rK (x6 0)) jb),(aw lF (.mv rL) jb),(aE oL (.fa 1 z4) lF),(aE ll (.ld1 rM) lF),(aE oM (.un .not sO) lF),(aw kb (.pk qU rN xF) jb),(aw lG (.mv sq) jb),(aE qZ (.fa 0 z1) lG),(aE r0 (.ld1 uZ) lG),(aE mM (.mv z3) lG),(aE sv (.bi .sub v7 (x6 1)) lG),(aE uS (.iaS 2 uP vD) lG),(aE pO (.fa 1 wW) lG),(aE sZ (.ld1 za) lG),(aE vN (.un .not vE) lG),(aw vO (.pk uN BH xF) jb),(qq sw (.pk pT xT Bg))])
def jX:=wu at5.eq_1
def at6:CC:=(.seq (.reg [(qq a2 (.mv xF))]) .ret)
def uF:=wu at6.eq_1
def at7:CC:=(.seq at5 (.cond Bh at6 .skip))
def jY:=wu at7.eq_1
def at8:CC:=(.reg [(qq a5 (.mv (x6 0)))])
def uG:=wu at8.eq_1
def QK:CC:=(.reg [(qq vP (.mv z5)),(qq sy (.fa 0 z4)),(qq vQ (.ld1 BI)),(qq nA (.ln .str Bj)),(qq vR (.bi .lss Bi zk))])
def bZ7:=wu QK.eq_1
def CN:CC:=(.cond BJ .skip (.exit 2))
def bq3:=wu CN.eq_1
def QF:CC:=(.reg [(qq rS (.fa 0 z4)),(qq vf (.ld1 vF)),(qq uT (.mv z5)),(qq uU (.ixS zd ze)),(ee oD (.call 69 [zm])),(qq uV (.un .not zf))])
def bq4:=wu QF.eq_1
def QG:CC:=(.seq (.reg [(qq a2 (.mv xF))]) .ret)
def bq5:=wu QG.eq_1
def CP:CC:=(.seq QF (.cond zn QG .skip))
def bq6:=wu CP.eq_1
def CQ:CC:=(.reg [(qq ve (.mv z5)),(qq oN (.bi .add zb (x6 1))),(qq a5 (.mv zl))])
def bq7:=wu CQ.eq_1
def xU:CC:=(.loop (.seq (.seq QK CN) (.seq (.block 3 CP) CQ)))
def bq8:=wu xU.eq_1
def QH:CC:=(.block 1 (.seq at4 (.seq at7 (.seq at8 (.block 2 xU)))))
def gz:=wu QH.eq_1
def CR:CC:=(.reg [(qq ey (.mv z3)),(qq eU (.bi .add dE (x6 1))),(qq a3 (.mv ei))])
def bq9:=wu CR.eq_1
def QI:CC:=(.seq (.seq at3 (.cond eK .skip (.exit 0))) (.seq QH CR))
def ga:=wu QI.eq_1
def CS:CC:=(.reg [(qq fF (.fa 0 z1)),(qq pP (.ld1 ss)),(qq vg (.ln .slice zo)),(qq r4 (.bi .gtr zq (x6 0))),(qq a2 (.mv zr))])
def Ve:=wu CS.eq_1
def QJ:CC:=(.seq (.seq at2 (.block 0 (.loop QI))) (.seq CS .ret))
def br0:=wu QJ.eq_1
def VQ:CF:= .mk 7 [.t a2] (.seq as9 QJ)
theorem e64(v0:V):bz 7 [v0]=(.n uY (some v0) uY):=rfl
def B64:=ai @e64 (ai @bZ5 (ai @bZ6 (ai @jl (ai @jW (ai @jX (ai @uF (ai @jY (ai @uG (ai @bZ7 (ai @bq3 (ai @bq4 (ai @bq5 (ai @bq6 (ai @bq7 (ai @bq8 (ai @gz (ai @bq9 (ai @ga (ai @Ve (@br0))))))))))))))))))))
def od(w:List Pc):Nat→Bool
 |0=>false
 |i+1=> !((w[i]?).getD ([],true)).2
theorem Tc{w:List Pc}{i:Nat}(h0:0<i)(h1:i-1<w.length):od w i= !(w[i-1]).2:=by
 cases i with
 |zero=>cases h0
 |succ k=>have h2:k<w.length:=h1;show(!((w[k]?).getD ([],true)).2)=_;rw[List.getElem?_eq_getElem h2];rfl
theorem aW8{F:RO}{M:Mem}{c:Nat}{v:V}{ps:List Pc}(h:cE F M c 2 v (jy ps))(i:Nat)(hi:i<ps.length):∃b o,b<c∧(∀k,eV 2 v (.i k (i:Int))=some (.p b o))∧load1 F M b (o+1)=some (.b ps[i].2):=by
 obtain⟨b,o,h1,h2,h3⟩:=h.at i (by rw[ep];exact hi)
 have e:(jy ps)[i]'(by rw[ep];exact hi)=Ar ps[i]:=by simp[jy]
 rw[e]at h3
 have a0:=h3 1 (by simp[Ar])
 exact⟨b,o,h1,h2,a0⟩
theorem l64(Φ:Nat→Option CF)(h69:Φ 69=some (.orc (aG h78))){F:RO}{M:Mem}{c b i c1:Nat}{s:List UInt8}(hs:s.length≤1000000)(p0:load1 F M b 0=some (sV s))(u:List (Option V))(Q:Ex→St→Prop)
 (hQ:s.all l8=true→ ∀u:List (Option V),Q (.ext 2) (.mk ((Gk u (.p c 0) (.i .i64 (i:Int)) (.p b 0))) [] M c1))
 (hR:s.all l8=false→ ∀u:List (Option V),Q .ret (.mk ((aH6 u (.b false))) [] M c1)):
 Wp xU (K Φ none 64 F) (.mk ((nN u (.p c 0) (.i .i64 (i:Int)) (.p b 0) (.i .i64 0))) [] M c1) Q:=by
 show Wp (.loop (.seq (.seq QK CN) (.seq (.block 3 CP) CQ))) _ _ _
 obtain⟨I,hI⟩:∃I:Nat→St→Prop,∀n s',I n s'↔(∃(j:Nat) (u:List (Option V)),n=s.length-j∧j≤s.length∧s'= .mk ((nN u (.p c 0) (.i .i64 (i:Int)) (.p b 0) (.i .i64 (j:Int)))) [] M c1∧s.all l8=(s.drop j).all l8):=⟨fun n s'=>_,fun _ _=>Iff.rfl⟩
 refine bw I ?_ s.length _ ((hI _ _).2 ⟨0,(X1 (G1 (X1 (G2 (G1 (bf (bA (br (X8 (X1 [])))))))))),rfl,aD _,rfl,rfl⟩)
 intro n s' hIs
 obtain⟨j,u,rfl,hj,rfl,hb⟩:=(hI _ _).1 hIs
 clear hIs
 by_cases hlt:j<s.length
 ·have q8:cB .add (.i .i64 (j:Int)) (.i .i64 1)=some (.i .i64 ((j+1:Nat):Int)):=by rw[be _ _ (by omega) (by omega)];simp
  have d1:decide ((j:Int)<(s.length:Int))=true:=ah (by omega);have hix:nn (sV s) (.i .i64 (j:Int))=some (bV s[j]):=qj s .i64 j hlt;have hd:s.drop j=s[j]::s.drop (j+1):=bS hlt;have hh:=Do s[j];rw[hd,List.all_cons]at hb;cases ho:l8 s[j]with
  |true=>
   rw[ho]at hh hb;simp only[WX,B64,p0,d1,hix,h69,hh,q8];exact⟨s.length-(j+1),by omega,(hI _ _).2 ⟨j+1,(X1 (G1 (X1 (G2 (G1 (bf (bA (br (X8 (X1 [])))))))))),rfl,by omega,rfl,hb⟩⟩
  |false=>
   rw[ho]at hh hb;simp only[WX,B64,p0,d1,hix,h69,hh];exact hR hb (X2 (G1 (bf (bA (br (X8 (X4 [])))))))
 ·obtain rfl:j=s.length:=by omega
  have d1:decide ((s.length:Int)<(s.length:Int))=false:=af (by omega);simp only[WX,B64,p0,d1];exact hQ (by rw[hb,cj];rfl) (X1 (G1 (X1 (G2 (bf (bA (br (X8 (X2 [])))))))))
theorem w64(Φ:Nat→Option CF)(h:Φ 64=some VQ)(h69:Φ 69=some (.orc (aG h78))){F:RO}{M:Mem}{c:Nat}(ok:cR F M c){v:V}{w:List Pc}(hw:dQ F M c v w)(hp:∀p∈w,p.1.length≤1000000):
 Calls Φ F 64 [.g [v]] M c fun r M' c'=>r= .b (du w)∧Gr c M c' M':=by
 refine aN h ?_
 obtain⟨y1,y2,y3⟩:=hw.one
 have hG:∀v,flatten (V.g [v])=[v]:=fun _=>rfl
 have gX:=(Gr.refl ok).set c (ae 36 [v]) (aj _) (ay _) (aJ _)
 have m0:(M.set c (ae 36 [v])).get c=some (ae 36 [v]):=am _ _ _
 have n1:=hw.len
 have mx1:w.length≤9223372036854775807:=hw.2
 have hX:=hw.grow gX
 simp only[WX,B64,hG,y3]
 generalize M.set c (ae 36 [v])=X at gX m0 hX⊢
 obtain⟨I,hI⟩:∃I:Nat→St→Prop,∀n s',I n s'↔(∃(i c1:Nat) (M1:Mem) (u:List (Option V)),n=w.length-i∧i≤w.length∧s'= .mk ((bP4 u (.p c 0) (.i .i64 (i:Int)))) [] M1 c1∧Gr (c+1) X c1 M1∧lu w.length false w=lu w.length (od w i) (w.drop i)):=⟨fun n s'=>_,fun _ _=>Iff.rfl⟩
 refine bw I ?_ w.length _ ((hI _ _).2 ⟨0,_,_,(X1 (G1 (X1 (G1 (bf (bA (br (X8 (X2 (X1 [])))))))))),rfl,aD _,rfl,Gr.refl (gX.ok ok),rfl⟩)
 intro n s' hIs
 obtain⟨i,c1,M1,u,rfl,hi,rfl,gr1,hf⟩:=(hI _ _).1 hIs
 clear hIs
 have k0:load1 F M1 c 0=some v:=(gr1.load1 (by omega) _).trans (au m0 0)
 by_cases hlt:i<w.length
 ·have q8:cB .add (.i .i64 (i:Int)) (.i .i64 1)=some (.i .i64 ((i+1:Nat):Int)):=by rw[be _ _ (by omega) (by omega)];simp
  have d1:decide ((i:Int)<(w.length:Int))=true:=ah (by omega);obtain⟨b,o,hb,ia,ld1⟩:=wD (hX.grow gr1).1 i hlt;have ia:=ia .i64;have hd:w.drop i=w[i]::w.drop (i+1):=bS hlt;rw[hd,lu]at hf;have hl1:=hp w[i] (List.getElem_mem _);have hnx:od w (i+1)= !w[i].2:=by show(!((w[i]?).getD ([],true)).2)=_;rw[List.getElem?_eq_getElem hlt];rfl
  have PRV:0<i→ ∃b' o',cB .sub (.i .i64 (i:Int)) (.i .i64 1)=some (.i .i64 ((i-1:Nat):Int))∧eV 2 v (.i .i64 ((i-1:Nat):Int))=some (.p b' o')∧b'<c1∧load1 F M1 b' (o'+1)=some (.b (!od w i)):=by
   intro h0;obtain⟨b',o',hb',ia',ld'⟩:=aW8 (hX.grow gr1).1 (i-1) (by omega);refine⟨b',o',?_,ia' .i64,hb',?_⟩
   ·rw[xY,mE (by omega) (by omega)];congr 2;omega
   ·rw[ld',Tc h0 (by omega),Bool.not_not]
  generalize w[i]=p at ld1 hf hl1 hnx;obtain⟨tx1,st⟩:=p;unfold Ar at ld1;have sn:bR (M1.set c1 (ae 64 [V.s 0 0,V.b false])) c1 0 [sV tx1,.b st]=some (M1.set c1 (ae 64 [sV tx1,.b st])):=dI rfl rfl;have m1:(M1.set c1 (ae 64 [sV tx1,.b st])).get c1=some (ae 64 [sV tx1,.b st]):=am _ _ _;have g1':=(Gr.refl (gr1.ok (gX.ok ok))).set c1 (ae 64 [sV tx1,.b st]) (aj _) (ay _) (aJ _);have g1:=gr1.trans g1';have p0:load1 F (M1.set c1 (ae 64 [sV tx1,.b st])) c1 0=some (sV tx1):=au m1 0;have p1:load1 F (M1.set c1 (ae 64 [sV tx1,.b st])) c1 1=some (.b st):=au m1 1;have k1:load1 F (M1.set c1 (ae 64 [sV tx1,.b st])) c 0=some v:=(g1.load1 (by omega) _).trans (au m0 0);have qn:=iL tx1 [];have qe:=cM tx1 [];have e0:V.s 0 0=sV []:=rfl;rw[←e0]at qn qe;have STEP:lu w.length false w=(!xW w.length (od w i) (tx1,st)&&lu w.length (od w (i+1)) (w.drop (i+1))):=by rw[hnx];exact hf
  have BAD:xW w.length (od w i) (tx1,st)=true→du w=false:=by
   intro hb;unfold du;rw[STEP,hb];rfl
  have GOOD:xW w.length (od w i) (tx1,st)=false→lu w.length false w=lu w.length (od w (i+1)) (w.drop (i+1)):=by
   intro hb;rw[STEP,hb];rfl
  unfold xW at BAD GOOD;generalize M1.set c1 (ae 64 [sV tx1,.b st])=Y at sn p0 p1 k1 g1 g1';have FIN:∀(M2:Mem) (c2:Nat),Gr (c+1) X c2 M2→Gr c M c2 M2:=fun _ _ g=>gX.trans g;have P2:0<i→ ∃b' o',cB .sub (.i .i64 (i:Int)) (.i .i64 1)=some (.i .i64 ((i-1:Nat):Int))∧eV 2 v (.i .i64 ((i-1:Nat):Int))=some (.p b' o')∧load1 F Y b' (o'+1)=some (.b (!od w i)):=by
   intro h0;obtain⟨b',o',h1,h2,h3,h4⟩:=PRV h0;exact⟨b',o',h1,h2,(g1'.load1 h3 _).trans h4⟩
  clear PRV
  have LOOP:∀u:List (Option V),((st&& !decide (tx1=[]))||((!st&&od w i)||(!st&&(decide (tx1=[])&&decide (1<w.length)))))=false→Wp xU (K Φ none 64 F) (.mk ((nN u (.p c 0) (.i .i64 (i:Int)) (.p c1 0) (.i .i64 0))) [] Y (c1+1)) (d8 2 (d8 1 (eg CR (K Φ none 64 F) (gW I (w.length-i) (d8 0 (eg (CS.seq CC.ret) (K Φ none 64 F) (j6 F [RV.t a2] fun r M' c'=>r=V.b (du w)∧Gr c M c' M'))))))):=by
   intro u hnb;refine l64 Φ h69 hl1 p0 u _ ?_ ?_
   ·intro ha u;simp only[WX,Nat.reduceEqDiff,reduceCtorEq,B64,q8];exact⟨w.length-(i+1),by omega,(hI _ _).2 ⟨i+1,_,_,(X1 (G1 (X1 (G1 (bf (bA (br (X8 (X2 (X1 [])))))))))),rfl,hlt,rfl,g1,GOOD (by rw[ha];revert hnb;cases st<;>cases od w i<;>cases decide (tx1=[])<;>cases decide (1<w.length)<;>intro hnb<;>first|rfl|exact absurd hnb (by simp))⟩⟩
   ·intro ha u;simp only[WX];exact⟨by rw[BAD (by rw[ha];simp)],FIN _ _ g1⟩
  by_cases h0:0<i
  ·obtain⟨b',o',r1,r2,r3⟩:=P2 h0;have d0:decide ((0:Int)<(i:Int))=true:=ah (by omega);cases st with
   |true=>
    by_cases ht:tx1=[]
    ·rw[ah ht]at qe qn;simp only[WX,Nat.reduceAdd,jl,jW,jX,jY,uG,gz,ga,d0,d1,ia,ld1,sn,p0,p1,qn,k0,n1];exact LOOP (X1 (G1 (X1 (G2 (G1 (bf (bA (br (X8 (X1 [])))))))))) (by rw[ah ht];rfl)
    ·rw[af ht]at qe qn;simp only[WX,Nat.reduceAdd,jl,jW,jX,uF,jY,gz,ga,d1,ia,ld1,sn,p0,p1,qn,k0,n1];exact⟨by rw[BAD (by rw[af ht];rfl)],FIN _ _ g1⟩
   |false=>
    by_cases ht:tx1=[]
    ·rw[ah ht]at qe qn;by_cases h1:1<w.length
     ·have d2:decide ((1:Int)<(w.length:Int))=true:=ah (by omega);simp only[WX,Nat.reduceAdd,jl,jW,jX,uF,jY,gz,ga,d2,d1,ia,ld1,sn,p0,p1,qe,k0,n1,k1];exact⟨by rw[BAD (by rw[ah ht,ah h1];simp)],FIN _ _ g1⟩
     ·have d2:decide ((1:Int)<(w.length:Int))=false:=af (by omega);cases hv:od w i with
      |true=>
       rw[hv]at r3;simp only[WX,Nat.reduceAdd,jl,jW,jX,uF,jY,gz,ga,d0,r1,r2,r3,d2,d1,ia,ld1,sn,p0,p1,qe,k0,n1,k1];exact⟨by rw[BAD (by rw[hv];rfl)],FIN _ _ g1⟩
      |false=>
       rw[hv]at r3;simp only[WX,Nat.reduceAdd,jl,jW,jX,jY,uG,gz,ga,d0,r1,r2,r3,d2,d1,ia,ld1,sn,p0,p1,qe,k0,n1,k1];exact LOOP (X1 (G1 (X1 (G2 (G1 (bf (bA (br (X8 (X1 [])))))))))) (by rw[ah ht,af h1,hv];rfl)
    ·rw[af ht]at qe qn;cases hv:od w i with
     |true=>
      rw[hv]at r3;simp only[WX,Nat.reduceAdd,jl,jW,jX,uF,jY,gz,ga,d0,r1,r2,r3,d1,ia,ld1,sn,p0,p1,qe,k0,n1,k1];exact⟨by rw[BAD (by rw[hv];rfl)],FIN _ _ g1⟩
     |false=>
      rw[hv]at r3;simp only[WX,Nat.reduceAdd,jl,jW,jX,jY,uG,gz,ga,d0,r1,r2,r3,d1,ia,ld1,sn,p0,p1,qe,k0,n1,k1];exact LOOP (X1 (G1 (X1 (G2 (G1 (bf (bA (br (X8 (X1 [])))))))))) (by rw[af ht,hv];rfl)
  ·have d0:decide ((0:Int)<(i:Int))=false:=af (by omega);have hv:od w i=false:=by rw[show i=0 by omega];rfl
   rw[hv]at LOOP;cases st with
   |true=>
    by_cases ht:tx1=[]
    ·rw[ah ht]at qe qn;simp only[WX,Nat.reduceAdd,jl,jW,jX,jY,uG,gz,ga,d0,d1,ia,ld1,sn,p0,p1,qn,k0,n1];exact LOOP (X1 (G1 (X1 (G2 (G1 (bf (bA (br (X8 (X1 [])))))))))) (by rw[ah ht];rfl)
    ·rw[af ht]at qe qn;simp only[WX,Nat.reduceAdd,jl,jW,jX,uF,jY,gz,ga,d1,ia,ld1,sn,p0,p1,qn,k0,n1];exact⟨by rw[BAD (by rw[af ht];rfl)],FIN _ _ g1⟩
   |false=>
    by_cases ht:tx1=[]
    ·rw[ah ht]at qe qn;by_cases h1:1<w.length
     ·have d2:decide ((1:Int)<(w.length:Int))=true:=ah (by omega);simp only[WX,Nat.reduceAdd,jl,jW,jX,uF,jY,gz,ga,d2,d1,ia,ld1,sn,p0,p1,qe,k0,n1,k1];exact⟨by rw[BAD (by rw[ah ht,ah h1];simp)],FIN _ _ g1⟩
     ·have d2:decide ((1:Int)<(w.length:Int))=false:=af (by omega);simp only[WX,Nat.reduceAdd,jl,jW,jX,jY,uG,gz,ga,d0,d2,d1,ia,ld1,sn,p0,p1,qe,k0,n1,k1];exact LOOP (X1 (G1 (X1 (G2 (G1 (bf (bA (br (X8 (X1 [])))))))))) (by rw[ah ht,af h1];rfl)
    ·rw[af ht]at qe qn;simp only[WX,Nat.reduceAdd,jl,jW,jX,jY,uG,gz,ga,d0,d1,ia,ld1,sn,p0,p1,qe,k0,n1];exact LOOP (X1 (G1 (X1 (G2 (G1 (bf (bA (br (X8 (X1 [])))))))))) (by rw[af ht];rfl)
 ·obtain rfl:i=w.length:=by omega
  have d1:decide ((w.length:Int)<(w.length:Int))=false:=af (by omega);rw[cj]at hf;have hff:du w=decide ((0:Int)<(w.length:Int)):=by
   unfold du;rw[hf];simp[lu]
  simp only[WX,jl,ga,Ve,d1,k0,n1];exact⟨by rw[hff],gX.trans gr1⟩
abbrev bP5(u:List (Option V))(x1 x3 x4 x5 x6:V):T:=(.n (.n (.n (aq u 31 15 47 7 39 23 55) (some x3) (aq u 35 19 51 11 43 27 59)) (some x1) (.n (aq u 33 17 49 9 41 25 57) (some x5) (aq u 37 21 53 13 45 29 61))) (uO u 0) (.n (.n (aq u 32 16 48 8 40 24 56) (some x4) (aq u 36 20 52 12 44 28 60)) (uO u 2) (.n (aq u 34 18 50 10 42 26 58) (some x6) (aq u 38 22 54 14 46 30 62))))
abbrev aH7(u:List (Option V))(x1 x3 x4 x5 x6 x7:V):T:=(.n (.n (.n (.n (fm u 31 15 47) (some x7) (fm u 39 23 55)) (some x3) (aq u 35 19 51 11 43 27 59)) (some x1) (.n (aq u 33 17 49 9 41 25 57) (some x5) (aq u 37 21 53 13 45 29 61))) (uO u 0) (.n (.n (aq u 32 16 48 8 40 24 56) (some x4) (aq u 36 20 52 12 44 28 60)) (uO u 2) (.n (aq u 34 18 50 10 42 26 58) (some x6) (aq u 38 22 54 14 46 30 62))))
abbrev bP6(u:List (Option V))(x1 x3 x4:V):T:=(.n (.n (.n (aq u 31 15 47 7 39 23 55) (some x3) (aq u 35 19 51 11 43 27 59)) (some x1) (.n (aq u 33 17 49 9 41 25 57) (uO u 5) (aq u 37 21 53 13 45 29 61))) (uO u 0) (.n (.n (aq u 32 16 48 8 40 24 56) (some x4) (aq u 36 20 52 12 44 28 60)) (uO u 2) (.n (aq u 34 18 50 10 42 26 58) (uO u 6) (aq u 38 22 54 14 46 30 62))))
def aj8:CC:=(.reg [(aa a1 (.bx 36 1 z0)),(qq a2 (.mv (.c (.s 0 0))))])
def bX9:=wu aj8.eq_1
def aj9:CC:=(.reg [(qq a3 (.mv (.c (.s 0 0))))])
def bY0:=wu aj9.eq_1
def ak0:CC:=(.reg [(qq a4 (.mv (x6 0)))])
def bY1:=wu ak0.eq_1
def ak1:CC:=(.reg [(qq a8 (.mv z4)),(qq a9 (.fa 0 z1)),(qq dJ (.ld1 z9)),(qq ey (.ln .slice eK)),(qq eU (.bi .lss z8 dE))])
def aM0:=wu ak1.eq_1
def ak2:CC:=(.reg [(qq dA (.fa 0 z1)),(qq eX (.ld1 gf)),(qq gC (.mv z4)),(qq fK (.iaS 2 gM gS)),(qq i5 (.ldn 2 hU)),(aa a5 (.al 64 [(.s 0 0),(.b false)])),(ez (.st 2 z5 jz))])
def aM1:=wu ak2.eq_1
def ak3:CC:=(.reg [(qq gh (.fa 0 z5)),(qq fE (.ld1 k7)),(qq j9 (.bi .neq ju (.c (.s 0 0)))),(qq a6 (.mv kL))])
def aM2:=wu ak3.eq_1
def ak4:CC:=(.reg [(qq a7 (.mv (x6 0)))])
def aM3:=wu ak4.eq_1
def ak5:CC:=(.reg [(qq gO (.mv z7)),(qq jn (.fa 0 z5)),(qq gP (.ld1 jA)),(qq ja (.ln .str kM)),(qq gQ (.bi .lss k8 lw))])
def bY2:=wu ak5.eq_1
def ak6:CC:=(.seq ak5 (.cond lB .skip (.exit 2)))
def bY3:=wu ak6.eq_1
def NX:CC:=(.reg [(qq jv (.mv z6)),(qq jC (.mv nv)),(aE lz (.fa 0 z5) jC),(aE lE (.ld1 oC) jC),(aE jx (.mv z7) jC),(aE iK (.ixS pQ pR) jC),(p5 mK (.call 68 [pM]) jC),(qq ka (.pk ny pS xF)),(qq a6 (.mv oF))])
def bh5:=wu NX.eq_1
def NY:CC:=(.reg [(qq kQ (.mv z7)),(qq gU (.bi .add mH (x6 1))),(qq a7 (.mv mI))])
def bh6:=wu NY.eq_1
def CD:CC:=(.block 2 (.loop (.seq ak6 (.seq (.block 3 NX) NY))))
def bh7:=wu CD.eq_1
def NZ:CC:=(.reg [(qq mL (.fa 1 z5)),(qq lA (.ld1 qS))])
def bh8:=wu NZ.eq_1
def O0:CC:=(.reg [(qq nj (.mv z3)),(qq jb (.bi .add rJ (.c (.s 2 16164)))),(qq a3 (.mv pT))])
def bh9:=wu O0.eq_1
def O1:CC:=(.reg [(qq kR (.mv z6))])
def bi0:=wu O1.eq_1
def O2:CC:=(.reg [(qq oK (.mv z3)),(qq lF (.fa 0 z5)),(qq oL (.ld1 qU)),(qq ll (.bi .add rL rM)),(qq a3 (.mv sO))])
def bi1:=wu O2.eq_1
def O3:CC:=(.reg [(qq oM (.mv z3)),(qq kb (.bi .add rN (.c (.s 1 39)))),(qq lG (.fa 0 z5)),(qq qZ (.ld1 uN)),(qq r0 (.bi .add sq uZ)),(qq mM (.bi .add uP (.c (.s 1 39)))),(qq a3 (.mv v7))])
def bi2:=wu O3.eq_1
def O4:CC:=(.seq O1 (.cond rK O2 O3))
def bi3:=wu O4.eq_1
def O5:CC:=(.seq NZ (.cond qT O0 O4))
def bi4:=wu O5.eq_1
def O6:CC:=(.block 1 (.seq ak2 (.seq ak3 (.seq (.seq ak4 CD) O5))))
def V0:=wu O6.eq_1
def O7:CC:=(.reg [(qq eC (.mv z4)),(qq dR (.bi .add eb (x6 1))),(qq a4 (.mv fG))])
def bi5:=wu O7.eq_1
def O8:CC:=(.seq (.seq ak1 (.cond ei .skip (.exit 0))) (.seq O6 O7))
def V1:=wu O8.eq_1
def O9:CC:=(.reg [(qq sv (.mv z3)),(qq a2 (.mv vD))])
def bi6:=wu O9.eq_1
def Oa:CC:=(.seq (.seq ak0 (.block 0 (.loop O8))) (.seq O9 .ret))
def bi7:=wu Oa.eq_1
def RI:CF:= .mk 6 [.t a2] (.seq aj8 (.seq aj9 Oa))
theorem e42(v0:V):bz 6 [v0]=(.n nu (some v0) nu):=rfl
def W2:=ai @e42 (ai @bX9 (ai @bY0 (ai @bY1 (ai @aM0 (ai @aM1 (ai @aM2 (ai @aM3 (ai @bY2 (ai @bY3 (ai @bh5 (ai @bh6 (ai @bh7 (ai @bh8 (ai @bh9 (ai @bi0 (ai @bi1 (ai @bi2 (ai @bi3 (ai @bi4 (ai @V0 (ai @bi5 (ai @V1 (ai @bi6 (@bi7))))))))))))))))))))))))
def ap6:CC:=(.reg [(aa a1 (.bx 36 1 z0)),(qq a2 (.mv (.c (.s 0 0))))])
def ap7:CC:=(.reg [(aa a3 (.al 99 [.p0,.l0]))])
def ap8:CC:=(.reg [(qq a6 (.fa 0 z1)),(qq a7 (.ld1 z6)),(qq a8 (.ln .slice z7)),(qq a9 (.mv (x6 0)))])
def ap9:CC:=(.reg [(qq dJ (.bi .lss z9 z8))])
def aq0:CC:=(.reg [(qq ey (.iaS 2 z7 z9)),(qq eU (.ldn 2 dE)),(aa a5 (.al 64 [(.s 0 0),(.b false)])),(ez (.st 2 z5 ei))])
def aq1:CC:=(.reg [(qq i5 (.fa 1 z5)),(qq gh (.ld1 jz)),(qq fK (.mv k7))])
def aq2:CC:=(.reg [(ee fE (.call 52 [z3,(.c (.s 2 16164))]))])
def aq3:CC:=(.reg [(qq gO (.fa 0 z5)),(qq jn (.ld1 k8)),(qq gP (.bi .neq jA (.c (.s 0 0)))),(qq ja (.mv kM)),(aE gQ (.fa 0 z5) ja),(aE kQ (.ld1 lB) ja),(p5 gU (.call 77 [mH,(.c (.f 75 [] []))]) ja),(qq jv (.pk lw mI xF)),(qq j9 (.mv nv))])
def aq4:CC:=(.reg [(qq jC (.fa 0 z5)),(qq lz (.ld1 ny)),(ee lE (.call 52 [z3,oC]))])
def PV:CC:=(.reg [(qq eC (.fa 0 z5)),(qq dR (.ld1 eb)),(qq dA (.bi .add (.c (.s 1 39)) fG)),(qq eX (.bi .add gf (.c (.s 1 39)))),(ee gC (.call 52 [z3,gM]))])
def PW:CC:=(.seq aq3 (.cond kL aq4 PV))
def PX:CC:=(.seq aq1 (.cond hU aq2 PW))
def PY:CC:=(.reg [(qq jx (.bi .add z9 (x6 1))),(qq a9 (.mv pR))])
def PZ:CC:=(.seq (.cond eK .skip (.exit 0)) (.seq (.block 1 (.seq aq0 (.block 2 PX))) PY))
def Q0:CC:=(.reg [(ee iK (.call 54 [z3])),(qq a2 (.mv pM))])
def Q1:CC:=(.seq (.seq ap8 (.block 0 (.loop (.seq ap9 PZ)))) (.seq Q0 .ret))
def Fb:CF:= .mk 6 [.t a2] (.seq ap6 (.seq ap7 Q1))
theorem e59(v0:V):bz 6 [v0]=(.n nu (some v0) nu):=rfl
def VH:=ai @e59 (ai (wu ap6.eq_1) (ai (wu ap7.eq_1) (ai (wu ap8.eq_1) (ai (wu ap9.eq_1) (ai (wu aq0.eq_1) (ai (wu aq1.eq_1) (ai (wu aq2.eq_1) (ai (wu aq3.eq_1) (ai (wu aq4.eq_1) (ai (wu PV.eq_1) (ai (wu PW.eq_1) (ai (wu PX.eq_1) (ai (wu PY.eq_1) (ai (wu PZ.eq_1) (ai (wu Q0.eq_1) (wu Q1.eq_1))))))))))))))))
def u9(p:Pc):List UInt8:=if p.2=true then[36,63]else if(!decide (p.1=[])&&p.1.all nJ)=true then p.1 else 39::(p.1++[39])
def d6:List Pc→List UInt8
 |[]=>[]
 |p::r=>u9 p++d6 r
theorem GE(a b:List Pc):d6 (a++b)=d6 a++d6 b:=by
 induction a with
 |nil=>rfl
 |cons p r ih=>show u9 p++d6 (r++b)=(u9 p++d6 r)++d6 b;rw[ih,aT]
theorem uL{w:List Pc}{i:Nat}(h:i<w.length):d6 (w.take (i+1))=d6 (w.take i)++u9 w[i]:=by
 rw[List.take_succ_eq_append_getElem h,GE];show _++(u9 w[i]++[])=_;rw[bH]
theorem Ys{w:List Pc}{i:Nat}:(d6 (w.take i)).length≤(d6 w).length:=by
 have:=congrArg List.length (GE (w.take i) (w.drop i))
 rw[List.take_append_drop,aH]at this
 omega
theorem Vo{w:List Pc}{i:Nat}(h:i<w.length):(d6 (w.take i)).length+(u9 w[i]).length≤(d6 w).length:=by
 have:=@Ys w (i+1)
 rw[uL h,aH]at this
 exact this
theorem aX6(p:Pc):p.2=true∨p.1.length≤(u9 p).length:=by
 unfold u9
 split
 ·rename_i h;exact .inl h
 ·right;split
  ·exact aj _
  ·rw[aA,aH];omega
theorem l42(Φ:Nat→Option CF)(h68:Φ 68=some (.orc (aG h75))){F:RO}{M:Mem}{c b i c1:Nat}{s:List UInt8}{b0:Bool}{x:V}(hs:s.length≤1000000)(p0:load1 F M b 0=some (sV s))(u:List (Option V))(Q:Ex→St→Prop)
 (hQ:∀u:List (Option V),Q .nrm (.mk ((bP5 u (.p c 0) x (.i .i64 (i:Int)) (.p b 0) (.b (b0&&s.all nJ)))) [] M c1)):
 Wp CD (K Φ none 42 F) (.mk ((aH7 u (.p c 0) x (.i .i64 (i:Int)) (.p b 0) (.b b0) (.i .i64 0))) [] M c1) Q:=by
 simp only[WX,W2]
 obtain⟨I,hI⟩:∃I:Nat→St→Prop,∀n s',I n s'↔(∃(j:Nat) (bj:Bool) (u:List (Option V)),n=s.length-j∧j≤s.length∧s'= .mk ((aH7 u (.p c 0) x (.i .i64 (i:Int)) (.p b 0) (.b bj) (.i .i64 (j:Int)))) [] M c1∧(b0&&s.all nJ)=(bj&&(s.drop j).all nJ)):=⟨fun n s'=>_,fun _ _=>Iff.rfl⟩
 refine bw I ?_ s.length _ ((hI _ _).2 ⟨0,b0,(X1 (G1 (X1 (G4 (G1 (bA (br (X4 (X2 (X1 [])))))))))),rfl,aD _,rfl,rfl⟩)
 intro n s' hIs
 obtain⟨j,bj,u,rfl,hj,rfl,hb⟩:=(hI _ _).1 hIs
 clear hIs
 by_cases hlt:j<s.length
 ·have q8:cB .add (.i .i64 (j:Int)) (.i .i64 1)=some (.i .i64 ((j+1:Nat):Int)):=by rw[be _ _ (by omega) (by omega)];simp
  have d1:decide ((j:Int)<(s.length:Int))=true:=ah (by omega);have hix:nn (sV s) (.i .i64 (j:Int))=some (bV s[j]):=qj s .i64 j hlt;have hd:s.drop j=s[j]::s.drop (j+1):=bS hlt;have hh:=yn s[j];rw[hd,List.all_cons]at hb;cases bj with
  |true=>
   rw[Bool.true_and]at hb;simp only[WX,W2,p0,d1,hix,h68,hh,q8];exact⟨s.length-(j+1),by omega,(hI _ _).2 ⟨j+1,_,(X1 (G1 (X1 (G4 (G1 (bA (br (X4 (X2 (X1 [])))))))))),rfl,by omega,rfl,hb⟩⟩
  |false=>
   simp only[WX,W2,p0,d1,q8];exact⟨s.length-(j+1),by omega,(hI _ _).2 ⟨j+1,_,(X1 (G1 (X1 (G4 (G1 (bA (br (X4 (X2 (X1 [])))))))))),rfl,by omega,rfl,hb⟩⟩
 ·obtain rfl:j=s.length:=by omega
  have d1:decide ((s.length:Int)<(s.length:Int))=false:=af (by omega);rw[cj,List.all_nil,Bool.and_true]at hb;simp only[WX,W2,p0,d1];rw[←hb];exact hQ (X1 (G1 (X1 (G4 (bA (br (X8 [])))))))
theorem w42(Φ:Nat→Option CF)(h:Φ 42=some RI)(h68:Φ 68=some (.orc (aG h75))){F:RO}{M:Mem}{c:Nat}(ok:cR F M c){v:V}{w:List Pc}(hw:dQ F M c v w)(hp:∀p∈w,p.1.length≤1000000)(hz:(d6 w).length≤1000000):
 Calls Φ F 42 [.g [v]] M c fun r M' c'=>r=sV (d6 w)∧Gr c M c' M':=by
 refine aN h ?_
 obtain⟨y1,y2,y3⟩:=hw.one
 have hG:∀v,flatten (V.g [v])=[v]:=fun _=>rfl
 have gX:=(Gr.refl ok).set c (ae 36 [v]) (aj _) (ay _) (aJ _)
 have m0:(M.set c (ae 36 [v])).get c=some (ae 36 [v]):=am _ _ _
 have n1:=hw.len
 have mx1:w.length≤9223372036854775807:=hw.2
 have hX:=hw.grow gX
 have e0:V.s 0 0=sV []:=rfl
 simp only[WX,W2,hG,y3]
 generalize M.set c (ae 36 [v])=X at gX m0 hX⊢
 obtain⟨I,hI⟩:∃I:Nat→St→Prop,∀n s',I n s'↔(∃(i c1:Nat) (M1:Mem) (u:List (Option V)),n=w.length-i∧i≤w.length∧s'= .mk ((bP6 u (.p c 0) (sV (d6 (w.take i))) (.i .i64 (i:Int)))) [] M1 c1∧Gr (c+1) X c1 M1):=⟨fun n s'=>_,fun _ _=>Iff.rfl⟩
 refine bw I ?_ w.length _ ((hI _ _).2 ⟨0,_,_,(X1 (G1 (X1 (G2 (bA (br (X8 (X2 [])))))))),rfl,aD _,rfl,Gr.refl (gX.ok ok)⟩)
 intro n s' hIs
 obtain⟨i,c1,M1,u,rfl,hi,rfl,gr1⟩:=(hI _ _).1 hIs
 clear hIs
 have k0:load1 F M1 c 0=some v:=(gr1.load1 (by omega) _).trans (au m0 0)
 by_cases hlt:i<w.length
 ·have q8:cB .add (.i .i64 (i:Int)) (.i .i64 1)=some (.i .i64 ((i+1:Nat):Int)):=by rw[be _ _ (by omega) (by omega)];simp
  have d1:decide ((i:Int)<(w.length:Int))=true:=ah (by omega);obtain⟨b,o,hb,ia,ld1⟩:=wD (hX.grow gr1).1 i hlt;have ia:=ia .i64;have hl1:=hp w[i] (List.getElem_mem _);have htk:=uL hlt;have hsz:=Vo hlt;have hge:=aX6 w[i];generalize w[i]=p at ld1 hl1 htk hsz hge;obtain⟨s,st⟩:=p;unfold Ar at ld1;have sn:bR (M1.set c1 (ae 64 [V.s 0 0,V.b false])) c1 0 [sV s,.b st]=some (M1.set c1 (ae 64 [sV s,.b st])):=dI rfl rfl;have m1:(M1.set c1 (ae 64 [sV s,.b st])).get c1=some (ae 64 [sV s,.b st]):=am _ _ _;have g1:=gr1.set c1 (ae 64 [sV s,.b st]) gr1.le (ay _) (aJ _);have p0:load1 F (M1.set c1 (ae 64 [sV s,.b st])) c1 0=some (sV s):=au m1 0;have p1:load1 F (M1.set c1 (ae 64 [sV s,.b st])) c1 1=some (.b st):=au m1 1;have qn:=iL s [];rw[←e0]at qn;generalize d6 (w.take i)=T at htk hsz⊢;generalize M1.set c1 (ae 64 [sV s,.b st])=Y at sn p0 p1 g1;simp only[WX,Nat.reduceAdd,aM0,aM1,aM2,aM3,V0,V1,k0,n1,d1,ia,ld1,sn,p0,qn];refine l42 Φ h68 hl1 p0 (X1 (G1 (X1 (G4 (G1 (bA (br (X4 (X2 (X1 [])))))))))) _ ?_;intro u;cases st with
  |true=>
   have ca:cB .add (sV T) (.s 2 16164)=some (sV (T++[36,63])):=fj T [36,63] (by have:(u9 (s,true)).length=2:=rfl;simp;omega);simp only[WX,W2,p1,ca,q8];exact⟨w.length-(i+1),by omega,(hI _ _).2 ⟨i+1,_,_,(X1 (G1 (X1 (G2 (bA (br (X8 (X2 [])))))))),rfl,hlt,by rw[htk];rfl,g1⟩⟩
  |false=>
   have hge:s.length≤(u9 (s,false)).length:=by
    rcases hge with h|h
    ·cases h
    ·exact h
   cases hx:(!decide (s=[])&&s.all nJ)with
   |true=>
    have hpt:u9 (s,false)=s:=by unfold u9;rw[ab (by simp),ac hx]
    rw[hpt]at hsz htk;have ca:cB .add (sV T) (sV s)=some (sV (T++s)):=fj T s (by omega);simp only[WX,W2,p0,p1,ca,q8];exact⟨w.length-(i+1),by omega,(hI _ _).2 ⟨i+1,_,_,(X1 (G1 (X1 (G2 (bA (br (X8 (X2 [])))))))),rfl,hlt,by rw[htk];rfl,g1⟩⟩
   |false=>
    have hpt:u9 (s,false)=39::(s++[39]):=by unfold u9;rw[ab (by simp),ab (by simpa using hx)]
    rw[hpt]at hsz htk;have hl3:(39::(s++[39]):List UInt8).length=s.length+2:=by simp
    have htk':d6 (w.take (i+1))=T++[39]++s++[39]:=by rw[htk];simp
    rw[hl3]at hsz;have ca:cB .add (sV T) (.s 1 39)=some (sV (T++[39])):=fj T [39] (by simp;omega);have cb:cB .add (sV (T++[39])) (sV s)=some (sV (T++[39]++s)):=fj _ s (by simp;omega);have cc:cB .add (sV (T++[39]++s)) (.s 1 39)=some (sV (T++[39]++s++[39])):=fj _ [39] (by simp;omega);simp only[WX,W2,p0,p1,ca,cb,cc,q8];exact⟨w.length-(i+1),by omega,(hI _ _).2 ⟨i+1,_,_,(X1 (G1 (X1 (G2 (bA (br (X8 (X2 [])))))))),rfl,hlt,by rw[htk'];rfl,g1⟩⟩
 ·obtain rfl:i=w.length:=by omega
  have d1:decide ((w.length:Int)<(w.length:Int))=false:=af (by omega);rw[List.take_length];simp only[WX,W2,d1,k0,n1];exact gX.trans gr1
theorem w59(Φ:Nat→Option CF)(h:Φ 59=some Fb)(h77:Φ 77=some (.orc (aG h77)))(h52:Φ 52=some BA)(h54:Φ 54=some BB)(h71:Φ 71=some zg){F:RO}{M:Mem}{c:Nat}(ok:cR F M c){v:V}{w:List Pc}(hw:dQ F M c v w)(hp:∀p∈w,p.1.length≤1000000)(hz:(d6 w).length≤1000000):
 Calls Φ F 59 [.g [v]] M c fun r M' c'=>r=sV (d6 w)∧Gr c M c' M':=by
 refine aN h ?_
 obtain⟨y1,y2,y3⟩:=hw.one
 have hG:∀v,flatten (V.g [v])=[v]:=fun _=>rfl
 have gX:=(Gr.refl ok).set c (ae 36 [v]) (aj _) (ay _) (aJ _)
 have m0:(M.set c (ae 36 [v])).get c=some (ae 36 [v]):=am _ _ _
 have n1:=hw.len
 have mx1:w.length≤9223372036854775807:=hw.2
 have hX:=hw.grow gX
 have e0:V.s 0 0=sV []:=rfl
 have kz:load1 F (M.set c (ae 36 [v])) c 0=some v:=au m0 0
 have gA:=(Gr.refl (gX.ok ok)).set (c+1) (ae 99 [.p0,.l0]) (aj _) (ay _) (aJ _)
 have k0:load1 F ((M.set c (ae 36 [v])).set (c+1) (ae 99 [.p0,.l0])) c 0=some v:=(gA.load1 (ay _) _).trans kz
 have hB:kN ((M.set c (ae 36 [v])).set (c+1) (ae 99 [.p0,.l0])) (c+1) (c+2) (c+1) 0 (d6 (w.take 0)):=⟨aj _,ay _,by omega,.p0,.l0,am _ _ _,.inl rfl,.inl ⟨rfl,rfl⟩⟩
 simp only[WX,Nat.reduceAdd,VH,hG,y3,k0,n1]
 generalize M.set c (ae 36 [v])=X at gX m0 hX gA kz hB k0⊢
 generalize X.set (c+1) (ae 99 [.p0,.l0])=A at gA hB k0⊢
 have okX:=gX.ok ok
 obtain⟨I,hI⟩:∃I:Nat→St→Prop,∀n s',I n s'↔(∃(i c1 bb:Nat) (M1:Mem) (u:List (Option V)),n=w.length-i∧i≤w.length∧s'= .mk ((U1 u (.p c 0) (.p (c+1) 0) v (.i .i64 (w.length:Int)) (.i .i64 (i:Int)))) [] M1 c1∧Gr (c+1) X c1 M1∧kN M1 (c+1) c1 (c+1) bb (d6 (w.take i))):=⟨fun n s'=>_,fun _ _=>Iff.rfl⟩
 refine bw I ?_ w.length _ ((hI _ _).2 ⟨0,_,_,_,(X1 (G1 (X1 (G1 (X2 (X1 (G2 (G1 (bA (br (X4 (X1 [])))))))))))),rfl,aD _,rfl,gA,hB⟩)
 intro n s' hIs
 obtain⟨i,c1,bb,M1,u,rfl,hi,rfl,gr1,hb1⟩:=(hI _ _).1 hIs
 clear hIs
 by_cases hlt:i<w.length
 ·have q8:cB .add (.i .i64 (i:Int)) (.i .i64 1)=some (.i .i64 ((i+1:Nat):Int)):=by rw[be _ _ (by omega) (by omega)];simp
  have d1:decide ((i:Int)<(w.length:Int))=true:=ah (by omega);obtain⟨b,o,hb,ia,ld1⟩:=wD (hX.grow gr1).1 i hlt;have ia:=ia .i64;have hl1:=hp w[i] (List.getElem_mem _);have htk:=uL hlt;have hsz:=Vo hlt;generalize w[i]=p at ld1 hl1 htk hsz;obtain⟨s,st⟩:=p;unfold Ar at ld1;have ok1:=gr1.ok okX;have sn:bR (M1.set c1 (ae 64 [V.s 0 0,V.b false])) c1 0 [sV s,.b st]=some (M1.set c1 (ae 64 [sV s,.b st])):=dI rfl rfl;have m1:(M1.set c1 (ae 64 [sV s,.b st])).get c1=some (ae 64 [sV s,.b st]):=am _ _ _;have g1':=(Gr.refl ok1).set c1 (ae 64 [sV s,.b st]) (aj _) (ay _) (aJ _);have g1:=gr1.trans g1';have hb2:kN (M1.set c1 (ae 64 [sV s,.b st])) (c+1) (c1+1) (c+1) bb (d6 (w.take i)):=hb1.up (aJ _) (fun x hx=>g1'.old x hx);have p0:load1 F (M1.set c1 (ae 64 [sV s,.b st])) c1 0=some (sV s):=au m1 0;have p1:load1 F (M1.set c1 (ae 64 [sV s,.b st])) c1 1=some (.b st):=au m1 1;have qn:=iL s [];rw[←e0]at qn;generalize d6 (w.take i)=T at htk hsz hb2 hb1⊢;generalize M1.set c1 (ae 64 [sV s,.b st])=Y at sn p0 p1 g1 g1' hb2;have okY:=g1.ok okX;have NXT:∀(W:List UInt8),d6 (w.take (i+1))=T++W→ ∀(M2:Mem) (c2 bb2:Nat) (u:List (Option V)),kN M2 (c+1) c2 (c+1) bb2 (T++W)→Gr (c+1) X c2 M2→I (w.length-(i+1)) (.mk ((U1 u (.p c 0) (.p (c+1) 0) v (.i .i64 (w.length:Int)) (.i .i64 ((i+1:Nat):Int)))) [] M2 c2):=by
   intro W hW M2 c2 bb2 u hb3 g3;exact(hI _ _).2 ⟨i+1,_,_,_,(X1 (G1 (X1 (G1 (X2 (X1 (G2 (G1 (bA (br (X4 (X1 [])))))))))))),rfl,hlt,rfl,g3,by rw[hW];exact hb3⟩
  cases st with
  |true=>
   simp only[WX,Nat.reduceAdd,VH,d1,ia,ld1,sn,p1];refine az ((r52 Φ h52 h71 okY g1 hb2 [36,63] (kE (by have:(u9 (s,true)).length=2:=rfl;simp only[aA,aM];omega))).mono ?_);rintro r M2 c2 ⟨bb2,hb3,g3,_⟩;simp only[WX,VH,q8];exact⟨w.length-(i+1),by omega,NXT _ htk _ _ _ (X1 (G1 (X1 (G1 (X2 (X1 (G2 (G1 (bA (br (X4 (X1 [])))))))))))) hb3 g3⟩
  |false=>
   have hxx:=bI6 s hl1;by_cases hs0:s=[]
   ·rw[ah hs0]at qn;have hpt:u9 (s,false)=39::(s++[39]):=by unfold u9;rw[ab (by simp),ab (by simp[hs0])]
    rw[hpt]at hsz htk;have hl3:(39::(s++[39]):List UInt8).length=s.length+2:=by simp
    rw[hl3]at hsz;have ca:cB .add (.s 1 39) (sV s)=some (sV (39::s)):=fj [39] s (by simp only[aA,aM];omega);have cb:cB .add (sV (39::s)) (.s 1 39)=some (sV (39::(s++[39]))):=fj (39::s) [39] (by simp only[aA,aM];omega);simp only[WX,Nat.reduceAdd,VH,d1,ia,ld1,sn,p0,p1,qn,ca,cb];refine az ((r52 Φ h52 h71 okY g1 hb2 (39::(s++[39])) (kE (by rw[hl3];omega))).mono ?_);rintro r M2 c2 ⟨bb2,hb3,g3,_⟩;simp only[WX,VH,q8];exact⟨w.length-(i+1),by omega,NXT _ htk _ _ _ (X1 (G1 (X1 (G1 (X2 (X1 (G2 (G1 (bA (br (X4 (X1 [])))))))))))) hb3 g3⟩
   ·rw[af hs0]at qn;cases hx:s.all nJ with
    |true=>
     rw[hx]at hxx;have hpt:u9 (s,false)=s:=by unfold u9;rw[ab (by simp),ac (by simp[hs0];simpa using hx)]
     rw[hpt]at hsz htk;simp only[WX,Nat.reduceAdd,VH,d1,ia,ld1,sn,p0,p1,qn,h77,hxx];refine az ((r52 Φ h52 h71 okY g1 hb2 s (kE (by omega))).mono ?_);rintro r M2 c2 ⟨bb2,hb3,g3,_⟩;simp only[WX,VH,q8];exact⟨w.length-(i+1),by omega,NXT _ htk _ _ _ (X1 (G1 (X1 (G1 (X2 (X1 (G2 (G1 (bA (br (X4 (X1 [])))))))))))) hb3 g3⟩
    |false=>
     rw[hx]at hxx;have hpt:u9 (s,false)=39::(s++[39]):=by unfold u9;rw[ab (by simp),ab (by simp only[hx,Bool.and_false];simp)]
     rw[hpt]at hsz htk;have hl3:(39::(s++[39]):List UInt8).length=s.length+2:=by simp
     rw[hl3]at hsz;have ca:cB .add (.s 1 39) (sV s)=some (sV (39::s)):=fj [39] s (by simp only[aA,aM];omega);have cb:cB .add (sV (39::s)) (.s 1 39)=some (sV (39::(s++[39]))):=fj (39::s) [39] (by simp only[aA,aM];omega);simp only[WX,Nat.reduceAdd,VH,d1,ia,ld1,sn,p0,p1,qn,ca,cb,h77,hxx];refine az ((r52 Φ h52 h71 okY g1 hb2 (39::(s++[39])) (kE (by rw[hl3];omega))).mono ?_);rintro r M2 c2 ⟨bb2,hb3,g3,_⟩;simp only[WX,VH,q8];exact⟨w.length-(i+1),by omega,NXT _ htk _ _ _ (X1 (G1 (X1 (G1 (X2 (X1 (G2 (G1 (bA (br (X4 (X1 [])))))))))))) hb3 g3⟩
 ·obtain rfl:i=w.length:=by omega
  have d1:decide ((w.length:Int)<(w.length:Int))=false:=af (by omega);rw[List.take_length]at hb1;simp only[WX,VH,d1];refine az ((r54 Φ h54 (gr1.ok okX) gr1 hb1 (by omega)).mono ?_);rintro r M2 c2 ⟨rfl,g3,_⟩;simp only[WX];exact gX.trans g3
def az9:CC:=(.reg [(aa a1 (.mkm)),(qq a2 (.bld [(.i .i64 0),(.i .i64 0),(.b false)] [])),(ez (.mu .str z1 (.c (.s 4 1702195828)) z2)),(qq a3 (.bld [(.i .i64 0),(.i .i64 0),(.b false)] [])),(ez (.mu .str z1 (.c (.s 5 435728179558)) z3)),(qq a4 (.bld [(.i .i64 0),(.i .i64 0),(.b false)] [])),(ez (.mu .str z1 (.c (.s 5 500069396323)) z4)),(qq a5 (.bld [(.i .i64 0),(.i .i64 0),(.b false)] [])),(ez (.mu .str z1 (.c (.s 5 491328139381)) z5)),(qq a6 (.bld [(.i .i64 0),(.i .i64 0),(.b false)] [(1,1,(x6 (-1)))])),(ez (.mu .str z1 (.c (.s 4 1869112165)) z6)),(qq a7 (.bld [(.i .i64 0),(.i .i64 0),(.b false)] [(1,1,(x6 (-1)))])),(ez (.mu .str z1 (.c (.s 3 7627107)) z7)),(qq a8 (.bld [(.i .i64 0),(.i .i64 0),(.b false)] [(0,1,(x6 1)),(1,1,(x6 1))])),(ez (.mu .str z1 (.c (.s 5 500153084262)) z8)),(qq a9 (.bld [(.i .i64 0),(.i .i64 0),(.b false)] [(0,1,(x6 1)),(1,1,(x6 1))])),(ez (.mu .str z1 (.c (.s 3 7561576)) z9)),(qq dJ (.bld [(.i .i64 0),(.i .i64 0),(.b false)] [(1,1,(x6 1))])),(ez (.mu .str z1 (.c (.s 4 1953720684)) eK)),(qq ey (.bld [(.i .i64 0),(.i .i64 0),(.b false)] [(0,1,(x6 2)),(1,1,(x6 2)),(2,1,xT)])),(ez (.mu .str z1 (.c (.s 4 1701536109)) dE)),(qq eU (.bld [(.i .i64 0),(.i .i64 0),(.b false)] [(0,1,(x6 1)),(1,1,(x6 1)),(2,1,xT)])),(ez (.mu .str z1 (.c (.s 4 2036430689)) ei)),(qq eC (.bld [(.i .i64 0),(.i .i64 0),(.b false)] [(0,1,(x6 1)),(1,1,(x6 1)),(2,1,xT)])),(ez (.mu .str z1 (.c (.s 5 491260308579)) eb)),(qq dR (.bld [(.i .i64 0),(.i .i64 0),(.b false)] [(0,1,(x6 2)),(1,1,(x6 2)),(2,1,xT)])),(ez (.mu .str z1 (.c (.s 4 1702260589)) fG)),(qq dA (.bld [(.i .i64 0),(.i .i64 0),(.b false)] [(0,1,(x6 2)),(1,1,(x6 2)),(2,1,xT)])),(ez (.mu .str z1 (.c (.s 4 1802398060)) gf)),(qq eX (.bld [(.i .i64 0),(.i .i64 0),(.b false)] [(0,1,(x6 2)),(1,1,(x6 2)),(2,1,xT)])),(ez (.mu .str z1 (.c (.s 6 126943805008242)) gM)),(qq gC (.mv z1)),(qq a0 (.mv gS))])
def aA0:CC:=(.seq (.reg [(qq a0 (.mv (.c .m0)))]) (.seq az9 .ret))
def RJ:CF:= .mk 5 [.t a0] aA0
theorem e80:bz 5 []=nu:=rfl
def B80:=ai @e80 (ai (wu az9.eq_1) (wu aA0.eq_1))
def zj(sh:Sh)(M:Mem)(c:Nat)(m k v:V):RC:=aT3 sh (.c m) (.c k) (.c v) [] M c .e
theorem Yv{Φ:Nat→Option CF}{rd:Option Nat}{fn:Nat}{F:RO}(sh:Sh)(m k v:X)(M:Mem)(c:Nat)(t:T):fc (.mu sh m k v) (K Φ rd fn F) M c t=zj sh M c (m.ev t) (k.ev t) (v.ev t):=Eq.trans rfl (Eq.refl _)
def lkQ(sh:Sh)(zero:V)(ok:Bool)(F:RO)(M:Mem)(m k:V):QR:=lq (.lk sh zero ok (.c m) (.c k)) F M .e
theorem Fh{F:RO}(sh:Sh)(zero:V)(ok:Bool)(x k:X)(M:Mem)(t:T):lq (.lk sh zero ok x k) F M t=lkQ sh zero ok F M (x.ev t) (k.ev t):=Eq.trans rfl (Eq.refl _)
def zi(l:List (List UInt8×V))(n:Nat):List (V×V×Nat):=l.zipIdx n|>.map fun e=>(sV e.1.1,e.1.2,e.2)
theorem Xs(a b:List UInt8):jL .str (sV a) (sV b)=some (decide (a=b)):=by
 show some (jk a.length (ce a) b.length (ce b))=_
 rw[sH]
theorem yj(s:List UInt8):∀(l:List (List UInt8×V)) (n i:Nat),∃j,iO .str (sV s) (zi l n) i=some ((l.find? fun e=>decide (s=e.1)).map fun e=>(j,e.2))
 |[],n,i=>⟨0,rfl⟩
 |e::r,n,i=>by
  obtain⟨j,hj⟩:=yj s r (n+1) (i+1);have hk:=Xs s e.1;have hu:iO .str (sV s) (zi (e::r) n) i=(match jL .str (sV s) (sV e.1)with|some true=>some (some (i,e.2))|some false=>iO .str (sV s) (zi r (n+1)) (i+1)|none=>none):=rfl;rw[hu,hk,List.find?_cons];cases decide (s=e.1)with
  |true=>exact⟨i,rfl⟩
  |false=>exact⟨j,hj⟩
theorem Ae(e:List UInt8×V)(r:List (List UInt8×V))(n:Nat):zi (e::r) n=(sV e.1,e.2,n)::zi r (n+1):=rfl
theorem Af{s:List UInt8}{v:V}:∀(l:List (List UInt8×V)) (m n:Nat),n=m+l.length→ur (sV s,v,n) (zi l m)=zi (l++[(s,v)]) m
 |[],m,n,h=>by rw[h];rfl
 |e::r,m,n,h=>by
  have:=Af (s:=s) (v:=v) r (m+1) n (by rw[h,aA];omega);rw[List.cons_append,Ae,Ae,←this];rfl
theorem Xv{M:Mem}{c b:Nat}{l:List (List UInt8×V)}{n:Nat}{s:List UInt8}{v:V}(hM:M.get b=some (.map (zi l 0) n))(hn:n=l.length)(hf:(l.find? fun e=>decide (s=e.1))=none)(hn1:n<1000):
 zj .str M c (.m b) (sV s) v= .k undef (M.set b (.map (zi (l++[(s,v)]) 0) (n+1))) c:=by
 obtain⟨j,hj⟩:=yj s l 0 0
 rw[hf]at hj
 show r5 (M.get b) .f (fun es clock=>wf M c b es clock (sV s) v (iO .str (sV s) es 0))=_
 rw[hM]
 show wf M c b (zi l 0) n (sV s) v (iO .str (sV s) (zi l 0) 0)=_
 rw[hj]
 show fN (Nat.succ n) (fun ck=>TD M c b (.map (ur (sV s,v,n) (zi l 0)) ck) undef)=_
 rw[bG,sF,Af l 0 n (by omega)]
theorem aF8{F:RO}{M:Mem}{b n:Nat}{zero:V}{ok:Bool}{l:List (List UInt8×V)}(s:List UInt8)(hM:look F M b=some (.map (zi l 0) n)):
 lkQ .str zero ok F M (.m b) (sV s)= .r (match (l.find? fun e=>decide (s=e.1))with|some e=>(bif ok then .t [e.2,.b true]else e.2)|none=>(bif ok then .t [zero,.b false]else zero)) b:=by
 obtain⟨j,hj⟩:=yj s l 0 0
 have key:∀(F:RO) (M:Mem),look F M b=some (.map (zi l 0) n)→cX (.lk .str zero ok (.c (.m b)) (.c (sV s))) F M .e= .r (match (l.find? fun e=>decide (s=e.1))with|some e=>(bif ok then .t [e.2,.b true]else e.2)|none=>(bif ok then .t [zero,.b false]else zero)) b:=by
  intro F M hM;show r5 (look F M b) .f (fun es _=>FP zero ok b (iO .str (sV s) es 0))=_;rw[hM];show FP zero ok b (iO .str (sV s) (zi l 0) 0)=_;rw[hj];cases(l.find? fun e=>decide (s=e.1))<;>rfl
 unfold lkQ lq
 rw[key F M hM]
 show S1 _ .e b (look F M b)=_
 rw[hM]
 show Ay b (cX _ [(b,.map (zi l 0) n)] .e .e)=_
 rw[key [(b,.map (zi l 0) n)] .e (by unfold look;rw[Tr.get_e];simp[bF])]
 rfl
def aU8:List (List UInt8×Int×Int×Bool):=[([116,114,117,101],0,0,false),([102,97,108,115,101],0,0,false),([99,111,117,110,116],0,0,false),([117,112,112,101,114],0,0,false),([101,99,104,111],0,-1,false),([99,97,116],0,-1,false),([102,105,114,115,116],1,1,false),([104,97,115],1,1,false),([108,105,115,116],0,1,false),([109,97,107,101],2,2,true),([97,119,97,121],1,1,true),([99,108,101,97,114],1,1,true),([109,111,118,101],2,2,true),([108,105,110,107],2,2,true),([114,105,103,104,116,115],2,2,true)]
def nvV(x:Int×Int×Bool):V:= .g [.i .i64 x.1,.i .i64 x.2.1,.b x.2.2]
def u1:List (List UInt8×V):=aU8.map fun e=>(e.1,nvV e.2)
def kn(s:List UInt8):Option (Int×Int×Bool):=(aU8.find? fun e=>decide (s=e.1)).map (·.2)
theorem aU7(s:List UInt8):((u1.find? fun e=>decide (s=e.1)).map (·.2))=(kn s).map nvV:=by
 unfold kn u1
 rw[List.find?_map,Option.map_map,Option.map_map]
 rfl
def lY(k:Nat):bK:= .map (zi (u1.take k) 0) k
abbrev Xz:bK:=lY 15
theorem iR{M:Mem}{c:Nat}(k:Nat){s:List UInt8}{v:V}(hk:k<15)(hf:((u1.take k).find? fun e=>decide (s=e.1))=none)(ht:u1.take k++[(s,v)]=u1.take (k+1))(hl:(u1.take k).length=k):
 zj .str (M.set c (lY k)) (c+1) (.m c) (sV s) v= .k undef (M.set c (lY (k+1))) (c+1):=by
 unfold lY
 rw[Xv (am _ _ _) hl.symm hf (by omega),pF,ht]
theorem w80(Φ:Nat→Option CF)(h:Φ 80=some RJ){F:RO}{M:Mem}{c:Nat}(ok:cR F M c):Calls Φ F 80 [] M c fun r M' c'=>r= .m c∧M'=M.set c Xz∧c'=c+1:=by
 refine aN h ?_
 have f0:zj .str (M.set c (lY 0)) (c+1) (.m c) (V.s 4 1702195828) (V.g [.i .i64 (0),.i .i64 (0),.b false])= .k undef (M.set c (lY 1)) (c+1):=iR 0 (s:=[116,114,117,101]) (by decide) rfl rfl rfl
 have f1:zj .str (M.set c (lY 1)) (c+1) (.m c) (V.s 5 435728179558) (V.g [.i .i64 (0),.i .i64 (0),.b false])= .k undef (M.set c (lY 2)) (c+1):=iR 1 (s:=[102,97,108,115,101]) (by decide) rfl rfl rfl
 have f2:zj .str (M.set c (lY 2)) (c+1) (.m c) (V.s 5 500069396323) (V.g [.i .i64 (0),.i .i64 (0),.b false])= .k undef (M.set c (lY 3)) (c+1):=iR 2 (s:=[99,111,117,110,116]) (by decide) rfl rfl rfl
 have f3:zj .str (M.set c (lY 3)) (c+1) (.m c) (V.s 5 491328139381) (V.g [.i .i64 (0),.i .i64 (0),.b false])= .k undef (M.set c (lY 4)) (c+1):=iR 3 (s:=[117,112,112,101,114]) (by decide) rfl rfl rfl
 have f4:zj .str (M.set c (lY 4)) (c+1) (.m c) (V.s 4 1869112165) (V.g [.i .i64 (0),.i .i64 (-1),.b false])= .k undef (M.set c (lY 5)) (c+1):=iR 4 (s:=[101,99,104,111]) (by decide) rfl rfl rfl
 have f5:zj .str (M.set c (lY 5)) (c+1) (.m c) (V.s 3 7627107) (V.g [.i .i64 (0),.i .i64 (-1),.b false])= .k undef (M.set c (lY 6)) (c+1):=iR 5 (s:=[99,97,116]) (by decide) rfl rfl rfl
 have f6:zj .str (M.set c (lY 6)) (c+1) (.m c) (V.s 5 500153084262) (V.g [.i .i64 (1),.i .i64 (1),.b false])= .k undef (M.set c (lY 7)) (c+1):=iR 6 (s:=[102,105,114,115,116]) (by decide) rfl rfl rfl
 have f7:zj .str (M.set c (lY 7)) (c+1) (.m c) (V.s 3 7561576) (V.g [.i .i64 (1),.i .i64 (1),.b false])= .k undef (M.set c (lY 8)) (c+1):=iR 7 (s:=[104,97,115]) (by decide) rfl rfl rfl
 have f8:zj .str (M.set c (lY 8)) (c+1) (.m c) (V.s 4 1953720684) (V.g [.i .i64 (0),.i .i64 (1),.b false])= .k undef (M.set c (lY 9)) (c+1):=iR 8 (s:=[108,105,115,116]) (by decide) rfl rfl rfl
 have f9:zj .str (M.set c (lY 9)) (c+1) (.m c) (V.s 4 1701536109) (V.g [.i .i64 (2),.i .i64 (2),.b true])= .k undef (M.set c (lY 10)) (c+1):=iR 9 (s:=[109,97,107,101]) (by decide) rfl rfl rfl
 have f10:zj .str (M.set c (lY 10)) (c+1) (.m c) (V.s 4 2036430689) (V.g [.i .i64 (1),.i .i64 (1),.b true])= .k undef (M.set c (lY 11)) (c+1):=iR 10 (s:=[97,119,97,121]) (by decide) rfl rfl rfl
 have f11:zj .str (M.set c (lY 11)) (c+1) (.m c) (V.s 5 491260308579) (V.g [.i .i64 (1),.i .i64 (1),.b true])= .k undef (M.set c (lY 12)) (c+1):=iR 11 (s:=[99,108,101,97,114]) (by decide) rfl rfl rfl
 have f12:zj .str (M.set c (lY 12)) (c+1) (.m c) (V.s 4 1702260589) (V.g [.i .i64 (2),.i .i64 (2),.b true])= .k undef (M.set c (lY 13)) (c+1):=iR 12 (s:=[109,111,118,101]) (by decide) rfl rfl rfl
 have f13:zj .str (M.set c (lY 13)) (c+1) (.m c) (V.s 4 1802398060) (V.g [.i .i64 (2),.i .i64 (2),.b true])= .k undef (M.set c (lY 14)) (c+1):=iR 13 (s:=[108,105,110,107]) (by decide) rfl rfl rfl
 have f14:zj .str (M.set c (lY 14)) (c+1) (.m c) (V.s 6 126943805008242) (V.g [.i .i64 (2),.i .i64 (2),.b true])= .k undef (M.set c (lY 15)) (c+1):=iR 14 (s:=[114,105,103,104,116,115]) (by decide) rfl rfl rfl
 have hm:∀t,jD .mkm c t=some (.m c,lY 0):=fun _=>rfl
 simp only[WX,Nat.reduceAdd,Nat.reduceLeDiff,B80,Yv,hm,f0,f1,f2,f3,f4,f5,f6,f7,f8,f9,f10,f11,f12,f13,f14]
def aA1:CC:=(.reg [(aa a1 (.bx 42 1 z0)),(qq a2 (.mv (.c (.s 0 0))))])
def aA2:CC:=(.reg [(qq a3 (.fa 0 z1)),(qq a4 (.ld1 z3)),(qq a5 (.ln .slice z4)),(qq a6 (.bi .eql z5 (x6 0))),(qq a7 (.mv z6)),(aw a8 (.fa 0 z1) a7),(aw a9 (.ld1 z8) a7),(aw dJ (.iaS 1 z9 (x6 0)) a7),(aw ey (.fa 0 eK) a7),(aw eU (.ld1 dE) a7),(aw eC (.ln .slice ei) a7),(aw dR (.bi .neq eb (x6 1)) a7),(qq dA (.pk z7 xT fG))])
def aA3:CC:=(.seq (.reg [(qq a2 (.mv (.c (.s 0 0))))]) .ret)
def aA4:CC:=(.seq aA2 (.cond gf aA3 .skip))
def aA5:CC:=(.reg [(qq eX (.fa 0 z1)),(qq gC (.ld1 gM)),(qq fK (.iaS 1 gS (x6 0))),(qq i5 (.fa 0 hU)),(qq gh (.ld1 jz)),(qq fE (.iaS 2 k7 (x6 0))),(qq j9 (.fa 0 ju)),(qq gO (.ld1 kL)),(qq a2 (.mv k8))])
def RK:CF:= .mk 5 [.t a2] (.seq aA1 (.seq aA4 (.seq aA5 .ret)))
theorem e81(v0:V):bz 5 [v0]=(.n nr (some v0) nr):=rfl
def B81:=ai @e81 (ai (wu aA1.eq_1) (ai (wu aA2.eq_1) (ai (wu aA3.eq_1) (ai (wu aA4.eq_1) (wu aA5.eq_1)))))
def au8:CC:=(.reg [(aa a1 (.bx 42 1 z0)),(qq a2 (.mv (.c (.s 0 0))))])
def au9:CC:=(.reg [(qq a3 (.fa 0 z1)),(qq a4 (.ld1 z3)),(qq a5 (.ln .slice z4)),(qq a6 (.bi .eql z5 (x6 0))),(qq a7 (.mv z6)),(aw a8 (.fa 0 z1) a7),(aw a9 (.ld1 z8) a7),(aw dJ (.iaS 1 z9 (x6 0)) a7),(aw ey (.fa 0 eK) a7),(aw eU (.ld1 dE) a7),(aw eC (.ln .slice ei) a7),(aw dR (.bi .neq eb (x6 1)) a7),(qq dA (.pk z7 xT fG)),(qq eX (.mv gf)),(aw gC (.fa 0 z1) eX),(aw fK (.ld1 gS) eX),(aw i5 (.iaS 1 hU (x6 0)) eX),(aw gh (.fa 0 jz) eX),(aw fE (.ld1 k7) eX),(aw j9 (.iaS 2 ju (x6 0)) eX),(aw gO (.fa 1 kL) eX),(aw jn (.ld1 k8) eX),(qq gP (.pk gM xT jA))])
def av0:CC:=(.seq (.reg [(qq a2 (.mv (.c (.s 0 0))))]) .ret)
def av1:CC:=(.seq au9 (.cond kM av0 .skip))
def av2:CC:=(.reg [(qq ja (.fa 0 z1)),(qq gQ (.ld1 lw)),(qq kQ (.iaS 1 lB (x6 0))),(qq gU (.fa 0 mH)),(qq jv (.ld1 mI)),(qq jC (.iaS 2 nv (x6 0))),(qq lz (.fa 0 ny)),(qq lE (.ld1 oC)),(qq a2 (.mv pQ))])
def VS:CF:= .mk 6 [.t a2] (.seq au8 (.seq av1 (.seq av2 .ret)))
theorem e66(v0:V):bz 6 [v0]=(.n nu (some v0) nu):=rfl
def B66:=ai @e66 (ai (wu au8.eq_1) (ai (wu au9.eq_1) (ai (wu av0.eq_1) (ai (wu av1.eq_1) (wu av2.eq_1)))))
def as7:CC:=(.reg [(aa a1 (.bx 42 1 z0)),(qq a2 (.mv xF))])
def as8:CC:=(.dreg 17 [(1,0,(qq a4 (.ldn 1 z1))),(0,0,(ee a3 (.call 80 []))),(2,3,(ee a5 (.call 81 [z4]))),(3,7,(qq a6 (.lk .str (.g [(.i .i64 0),(.i .i64 0),(.b false)]) false z3 z5))),(4,15,(qq a7 (.fl1 2 z6))),(5,31,(qq a8 (.mv z7))),(6,63,(aE a9 (.fa 0 z1) a8)),(7,127,(aE dJ (.ld1 z9) a8)),(8,255,(aE ey (.iaS 1 eK (x6 0)) a8)),(9,511,(aE eU (.fa 0 dE) a8)),(10,1023,(aE eC (.ld1 ei) a8)),(11,2047,(aE dR (.iaS 2 eb (x6 0)) a8)),(12,4095,(aE dA (.fa 1 fG) a8)),(13,8191,(aE eX (.ld1 gf) a8)),(14,16383,(aE gC (.un .not gM) a8)),(15,32767,(qq fK (.pk z8 gS xF))),(16,65535,(qq a2 (.mv hU)))])
def Wu:CF:= .mk 5 [.t a2] (.seq as7 (.seq as8 .ret))
theorem e63(v0:V):bz 5 [v0]=(.n nr (some v0) nr):=rfl
def B63:=ai @e63 (ai (wu as7.eq_1) (wu as8.eq_1))
def aB0:CC:=(.reg [(qq a5 (.bi .eql z3 (.c (.s 4 1701536109)))),(qq a4 (.mv z5))])
def aB1:CC:=(.reg [(qq a6 (.bi .eql z3 (.c (.s 4 2036430689)))),(qq a4 (.mv z6))])
def aB2:CC:=(.reg [(qq a7 (.bi .eql z3 (.c (.s 5 491260308579)))),(qq a4 (.mv z7))])
def aB3:CC:=(.reg [(qq a8 (.bi .eql z3 (.c (.s 4 1702260589)))),(qq a4 (.mv z8))])
def aB4:CC:=(.reg [(qq a9 (.bi .eql z3 (.c (.s 4 1802398060)))),(qq a4 (.mv z9))])
def aB5:CC:=(.reg [(qq dJ (.bi .eql z3 (.c (.s 6 126943805008242)))),(qq a4 (.mv eK))])
def aB6:CC:=(.cond z4 .skip (.seq aB4 (.cond z4 .skip aB5)))
def aB7:CC:=(.seq aB2 (.cond z4 .skip (.seq aB3 aB6)))
def aB8:CC:=(.cond z4 .skip (.seq aB1 (.cond z4 .skip aB7)))
def Rq:CC:=(.seq (.reg [(qq a2 (.mv xT))]) .ret)
def Rr:CC:=(.seq (.seq aB0 aB8) (.cond z4 Rq .skip))
def Rt:CC:=(.seq (.reg [(qq a3 (.mv z0))]) (.block 0 Rr))
def Ru:CC:=(.seq (.reg [(qq a2 (.mv xF))]) .ret)
def Rv:CC:=(.seq (.reg [(qq a2 (.mv xF))]) (.seq Rt Ru))
def c84:CF:= .mk 4 [.t a2] Rv
theorem e84(v0:V):bz 4 [v0]=(.n jt (some v0) jt):=rfl
def B84:=ai @e84 (ai (wu aB0.eq_1) (ai (wu aB1.eq_1) (ai (wu aB2.eq_1) (ai (wu aB3.eq_1) (ai (wu aB4.eq_1) (ai (wu aB5.eq_1) (ai (wu aB6.eq_1) (ai (wu aB7.eq_1) (ai (wu aB8.eq_1) (ai (wu Rq.eq_1) (ai (wu Rr.eq_1) (ai (wu Rt.eq_1) (ai (wu Ru.eq_1) (wu Rv.eq_1))))))))))))))
def av3:CC:=(.reg [(aa a1 (.bx 42 1 z0)),(qq a2 (.mv xF))])
def av4:CC:=(.reg [(qq a3 (.ldn 1 z1)),(ee a4 (.call 66 [z3])),(ee a5 (.call 84 [z4])),(qq a2 (.mv z5))])
def Wv:CF:= .mk 3 [.t a2] (.seq av3 (.seq av4 .ret))
theorem e67(v0:V):bz 3 [v0]=(.n sG (some v0) sG):=rfl
def B67:=ai @e67 (ai (wu av3.eq_1) (wu av4.eq_1))
def at9:CC:=(.reg [(qq a2 (.mv (x6 0))),(qq a3 (.mv (x6 0))),(qq a4 (.mv xF))])
def au0:CC:=(.reg [(qq a7 (.bi .eql z5 (.c (.s 4 1702195828)))),(qq a6 (.mv z7))])
def au1:CC:=(.reg [(qq a8 (.bi .eql z5 (.c (.s 5 435728179558)))),(qq a6 (.mv z8))])
def au2:CC:=(.reg [(qq a9 (.bi .eql z5 (.c (.s 5 500069396323)))),(qq a6 (.mv z9))])
def au3:CC:=(.reg [(qq dJ (.bi .eql z5 (.c (.s 5 491328139381)))),(qq a6 (.mv eK))])
def au4:CC:=(.cond z6 .skip (.seq au2 (.cond z6 .skip au3)))
def au5:CC:=(.seq au0 (.cond z6 .skip (.seq au1 au4)))
def au6:CC:=(.reg [(qq a2 (.mv (x6 0))),(qq a3 (.mv (x6 0))),(qq a4 (.mv xT))])
def au7:CC:=(.reg [(qq eU (.bi .eql z5 (.c (.s 4 1869112165)))),(qq ey (.mv ei))])
def QL:CC:=(.reg [(qq eC (.bi .eql z5 (.c (.s 3 7627107)))),(qq ey (.mv eb))])
def QM:CC:=(.reg [(qq a2 (.mv (x6 0))),(qq a3 (.mv (x6 (-1)))),(qq a4 (.mv xT))])
def QN:CC:=(.reg [(qq dA (.bi .eql z5 (.c (.s 5 500153084262)))),(qq dR (.mv gf))])
def QP:CC:=(.reg [(qq eX (.bi .eql z5 (.c (.s 3 7561576)))),(qq dR (.mv gM))])
def QQ:CC:=(.reg [(qq gC (.bi .eql z5 (.c (.s 4 2036430689)))),(qq dR (.mv gS))])
def QS:CC:=(.reg [(qq fK (.bi .eql z5 (.c (.s 5 491260308579)))),(qq dR (.mv hU))])
def QT:CC:=(.cond fG .skip (.seq QQ (.cond fG .skip QS)))
def QU:CC:=(.seq QN (.cond fG .skip (.seq QP QT)))
def QW:CC:=(.reg [(qq a2 (.mv (x6 1))),(qq a3 (.mv (x6 1))),(qq a4 (.mv xT))])
def QX:CC:=(.reg [(qq gh (.bi .eql z5 (.c (.s 4 1953720684)))),(qq i5 (.mv k7))])
def QY:CC:=(.reg [(qq a2 (.mv (x6 0))),(qq a3 (.mv (x6 1))),(qq a4 (.mv xT))])
def QZ:CC:=(.reg [(qq j9 (.bi .eql z5 (.c (.s 4 1701536109)))),(qq fE (.mv kL))])
def R0:CC:=(.reg [(qq gO (.bi .eql z5 (.c (.s 4 1702260589)))),(qq fE (.mv k8))])
def R1:CC:=(.reg [(qq jn (.bi .eql z5 (.c (.s 4 1802398060)))),(qq fE (.mv jA))])
def R2:CC:=(.reg [(qq gP (.bi .eql z5 (.c (.s 6 126943805008242)))),(qq fE (.mv kM))])
def R3:CC:=(.seq R1 (.cond ju .skip R2))
def R4:CC:=(.seq R0 (.cond ju .skip R3))
def R5:CC:=(.seq QZ (.cond ju .skip R4))
def R6:CC:=(.reg [(qq a2 (.mv (x6 2))),(qq a3 (.mv (x6 2))),(qq a4 (.mv xT))])
def R7:CC:=(.cond ju (.seq R6 .ret) .skip)
def R8:CC:=(.cond jz (.seq QY .ret) (.seq R5 R7))
def R9:CC:=(.cond fG (.seq QW .ret) (.seq QX R8))
def Ra:CC:=(.cond dE (.seq QM .ret) (.seq QU R9))
def Rb:CC:=(.seq (.seq au7 (.cond dE .skip QL)) Ra)
def Rc:CC:=(.seq au5 (.cond z6 (.seq au6 .ret) Rb))
def Rd:CC:=(.seq (.reg [(qq a5 (.mv z0))]) (.block 0 Rc))
def Re:CC:=(.reg [(qq a2 (.mv (x6 0))),(qq a3 (.mv (x6 0))),(qq a4 (.mv xF))])
def c65:CF:= .mk 5 [.t a2,.t a3,.t a4] (.seq at9 (.seq Rd (.seq Re .ret)))
theorem e65(v0:V):bz 5 [v0]=(.n nr (some v0) nr):=rfl
def Br:=ai @e65 (ai (wu at9.eq_1) (ai (wu au0.eq_1) (ai (wu au1.eq_1) (ai (wu au2.eq_1) (ai (wu au3.eq_1) (ai (wu au4.eq_1) (ai (wu au5.eq_1) (ai (wu au6.eq_1) (ai (wu au7.eq_1) (ai (wu QL.eq_1) (ai (wu QM.eq_1) (ai (wu QN.eq_1) (ai (wu QP.eq_1) (ai (wu QQ.eq_1) (ai (wu QS.eq_1) (ai (wu QT.eq_1) (ai (wu QU.eq_1) (ai (wu QW.eq_1) (ai (wu QX.eq_1) (ai (wu QY.eq_1) (ai (wu QZ.eq_1) (ai (wu R0.eq_1) (ai (wu R1.eq_1) (ai (wu R2.eq_1) (ai (wu R3.eq_1) (ai (wu R4.eq_1) (ai (wu R5.eq_1) (ai (wu R6.eq_1) (ai (wu R7.eq_1) (ai (wu R8.eq_1) (ai (wu R9.eq_1) (ai (wu Ra.eq_1) (ai (wu Rb.eq_1) (ai (wu Rc.eq_1) (ai (wu Rd.eq_1) (wu Re.eq_1))))))))))))))))))))))))))))))))))))
def Hr(s:List UInt8):Bool:=decide (s=[109,97,107,101])||decide (s=[97,119,97,121])||decide (s=[99,108,101,97,114])||decide (s=[109,111,118,101])||decide (s=[108,105,110,107])||decide (s=[114,105,103,104,116,115])
def Dw(s:List UInt8):Int×Int×Bool:=if(decide (s=[116,114,117,101])||decide (s=[102,97,108,115,101])||decide (s=[99,111,117,110,116])||decide (s=[117,112,112,101,114]))=true then(0,0,true)else if(decide (s=[101,99,104,111])||decide (s=[99,97,116]))=true then(0,-1,true)else if(decide (s=[102,105,114,115,116])||decide (s=[104,97,115])||decide (s=[97,119,97,121])||decide (s=[99,108,101,97,114]))=true then(1,1,true)else if(decide (s=[108,105,115,116]))=true then(0,1,true)else if(decide (s=[109,97,107,101])||decide (s=[109,111,118,101])||decide (s=[108,105,110,107])||decide (s=[114,105,103,104,116,115]))=true then(2,2,true)else(0,0,false)
def SI(x:Int×Int×Bool):V:= .t [.i .i64 x.1,.i .i64 x.2.1,.b x.2.2]
theorem t84(Φ:Nat→Option CF)(h:Φ 84=some c84)(s:List UInt8)(ct:Nat):To Φ 84 [sV s] ct (.b (Hr s)):=by
 refine eR h ?_
 have q0:cB .eql (sV s) (V.s 4 1701536109)=some (.b (decide (s=[109,97,107,101]))):=cM s [109,97,107,101]
 have q1:cB .eql (sV s) (V.s 4 2036430689)=some (.b (decide (s=[97,119,97,121]))):=cM s [97,119,97,121]
 have q2:cB .eql (sV s) (V.s 5 491260308579)=some (.b (decide (s=[99,108,101,97,114]))):=cM s [99,108,101,97,114]
 have q3:cB .eql (sV s) (V.s 4 1702260589)=some (.b (decide (s=[109,111,118,101]))):=cM s [109,111,118,101]
 have q4:cB .eql (sV s) (V.s 4 1802398060)=some (.b (decide (s=[108,105,110,107]))):=cM s [108,105,110,107]
 have q5:cB .eql (sV s) (V.s 6 126943805008242)=some (.b (decide (s=[114,105,103,104,116,115]))):=cM s [114,105,103,104,116,115]
 unfold Hr
 generalize decide (s=[109,97,107,101])=y0 at q0⊢
 generalize decide (s=[97,119,97,121])=y1 at q1⊢
 generalize decide (s=[99,108,101,97,114])=y2 at q2⊢
 generalize decide (s=[109,111,118,101])=y3 at q3⊢
 generalize decide (s=[108,105,110,107])=y4 at q4⊢
 generalize decide (s=[114,105,103,104,116,115])=y5 at q5⊢
 cases y0 with
 |true=>
  simp only[WX,B84,q0]
  try rfl
 |false=>
  cases y1 with
  |true=>
   simp only[WX,B84,q0,q1]
   try rfl
  |false=>
   cases y2 with
   |true=>
    simp only[WX,B84,q0,q1,q2]
    try rfl
   |false=>
    cases y3 with
    |true=>
     simp only[WX,B84,q0,q1,q2,q3]
     try rfl
    |false=>
     cases y4 with
     |true=>
      simp only[WX,B84,q0,q1,q2,q3,q4]
      try rfl
     |false=>
      cases y5 with
      |true=>
       simp only[WX,B84,q0,q1,q2,q3,q4,q5]
       try rfl
      |false=>
       simp only[WX,B84,q0,q1,q2,q3,q4,q5]
       try rfl
theorem t65(Φ:Nat→Option CF)(h:Φ 65=some c65)(s:List UInt8)(ct:Nat):To Φ 65 [sV s] ct (SI (Dw s)):=by
 refine eR h ?_
 have q0:cB .eql (sV s) (V.s 4 1702195828)=some (.b (decide (s=[116,114,117,101]))):=cM s [116,114,117,101]
 have q1:cB .eql (sV s) (V.s 5 435728179558)=some (.b (decide (s=[102,97,108,115,101]))):=cM s [102,97,108,115,101]
 have q2:cB .eql (sV s) (V.s 5 500069396323)=some (.b (decide (s=[99,111,117,110,116]))):=cM s [99,111,117,110,116]
 have q3:cB .eql (sV s) (V.s 5 491328139381)=some (.b (decide (s=[117,112,112,101,114]))):=cM s [117,112,112,101,114]
 have q4:cB .eql (sV s) (V.s 4 1869112165)=some (.b (decide (s=[101,99,104,111]))):=cM s [101,99,104,111]
 have q5:cB .eql (sV s) (V.s 3 7627107)=some (.b (decide (s=[99,97,116]))):=cM s [99,97,116]
 have q6:cB .eql (sV s) (V.s 5 500153084262)=some (.b (decide (s=[102,105,114,115,116]))):=cM s [102,105,114,115,116]
 have q7:cB .eql (sV s) (V.s 3 7561576)=some (.b (decide (s=[104,97,115]))):=cM s [104,97,115]
 have q8:cB .eql (sV s) (V.s 4 2036430689)=some (.b (decide (s=[97,119,97,121]))):=cM s [97,119,97,121]
 have q9:cB .eql (sV s) (V.s 5 491260308579)=some (.b (decide (s=[99,108,101,97,114]))):=cM s [99,108,101,97,114]
 have q10:cB .eql (sV s) (V.s 4 1953720684)=some (.b (decide (s=[108,105,115,116]))):=cM s [108,105,115,116]
 have q11:cB .eql (sV s) (V.s 4 1701536109)=some (.b (decide (s=[109,97,107,101]))):=cM s [109,97,107,101]
 have q12:cB .eql (sV s) (V.s 4 1702260589)=some (.b (decide (s=[109,111,118,101]))):=cM s [109,111,118,101]
 have q13:cB .eql (sV s) (V.s 4 1802398060)=some (.b (decide (s=[108,105,110,107]))):=cM s [108,105,110,107]
 have q14:cB .eql (sV s) (V.s 6 126943805008242)=some (.b (decide (s=[114,105,103,104,116,115]))):=cM s [114,105,103,104,116,115]
 unfold Dw
 generalize decide (s=[116,114,117,101])=y0 at q0⊢
 generalize decide (s=[102,97,108,115,101])=y1 at q1⊢
 generalize decide (s=[99,111,117,110,116])=y2 at q2⊢
 generalize decide (s=[117,112,112,101,114])=y3 at q3⊢
 generalize decide (s=[101,99,104,111])=y4 at q4⊢
 generalize decide (s=[99,97,116])=y5 at q5⊢
 generalize decide (s=[102,105,114,115,116])=y6 at q6⊢
 generalize decide (s=[104,97,115])=y7 at q7⊢
 generalize decide (s=[97,119,97,121])=y8 at q8⊢
 generalize decide (s=[99,108,101,97,114])=y9 at q9⊢
 generalize decide (s=[108,105,115,116])=y10 at q10⊢
 generalize decide (s=[109,97,107,101])=y11 at q11⊢
 generalize decide (s=[109,111,118,101])=y12 at q12⊢
 generalize decide (s=[108,105,110,107])=y13 at q13⊢
 generalize decide (s=[114,105,103,104,116,115])=y14 at q14⊢
 cases y0 with
 |true=>
  simp only[WX,Br,q0]
  try rfl
 |false=>
  cases y1 with
  |true=>
   simp only[WX,Br,q0,q1]
   try rfl
  |false=>
   cases y2 with
   |true=>
    simp only[WX,Br,q0,q1,q2]
    try rfl
   |false=>
    cases y3 with
    |true=>
     simp only[WX,Br,q0,q1,q2,q3]
     try rfl
    |false=>
     cases y4 with
     |true=>
      simp only[WX,Br,q0,q1,q2,q3,q4]
      try rfl
     |false=>
      cases y5 with
      |true=>
       simp only[WX,Br,q0,q1,q2,q3,q4,q5]
       try rfl
      |false=>
       cases y6 with
       |true=>
        simp only[WX,Br,q0,q1,q2,q3,q4,q5,q6]
        try rfl
       |false=>
        cases y7 with
        |true=>
         simp only[WX,Br,q0,q1,q2,q3,q4,q5,q6,q7]
         try rfl
        |false=>
         cases y8 with
         |true=>
          simp only[WX,Br,q0,q1,q2,q3,q4,q5,q6,q7,q8]
          try rfl
         |false=>
          cases y9 with
          |true=>
           simp only[WX,Br,q0,q1,q2,q3,q4,q5,q6,q7,q8,q9]
           try rfl
          |false=>
           cases y10 with
           |true=>
            simp only[WX,Br,q0,q1,q2,q3,q4,q5,q6,q7,q8,q9,q10]
            try rfl
           |false=>
            cases y11 with
            |true=>
             simp only[WX,Br,q0,q1,q2,q3,q4,q5,q6,q7,q8,q9,q10,q11]
             try rfl
            |false=>
             cases y12 with
             |true=>
              simp only[WX,Br,q0,q1,q2,q3,q4,q5,q6,q7,q8,q9,q10,q11,q12]
              try rfl
             |false=>
              cases y13 with
              |true=>
               simp only[WX,Br,q0,q1,q2,q3,q4,q5,q6,q7,q8,q9,q10,q11,q12,q13]
               try rfl
              |false=>
               cases y14 with
               |true=>
                simp only[WX,Br,q0,q1,q2,q3,q4,q5,q6,q7,q8,q9,q10,q11,q12,q13,q14]
                try rfl
               |false=>
                simp only[WX,Br,q0,q1,q2,q3,q4,q5,q6,q7,q8,q9,q10,q11,q12,q13,q14]
                try rfl
theorem SJ(s:List UInt8):s=[116,114,117,101]∨s=[102,97,108,115,101]∨s=[99,111,117,110,116]∨s=[117,112,112,101,114]∨s=[101,99,104,111]∨s=[99,97,116]∨s=[102,105,114,115,116]∨s=[104,97,115]∨s=[108,105,115,116]∨s=[109,97,107,101]∨s=[97,119,97,121]∨s=[99,108,101,97,114]∨s=[109,111,118,101]∨s=[108,105,110,107]∨s=[114,105,103,104,116,115]∨(kn s=none∧Hr s=false∧Dw s=(0,0,false)):=by
 by_cases e0:s=[116,114,117,101]
 ·exact Or.inl e0
 by_cases e1:s=[102,97,108,115,101]
 ·exact .inr (.inl e1)
 by_cases e2:s=[99,111,117,110,116]
 ·exact .inr (.inr (.inl e2))
 by_cases e3:s=[117,112,112,101,114]
 ·exact .inr (.inr (.inr (.inl e3)))
 by_cases e4:s=[101,99,104,111]
 ·exact .inr (.inr (.inr (.inr (.inl e4))))
 by_cases e5:s=[99,97,116]
 ·exact .inr (.inr (.inr (.inr (.inr (.inl e5)))))
 by_cases e6:s=[102,105,114,115,116]
 ·exact .inr (.inr (.inr (.inr (.inr (.inr (.inl e6))))))
 by_cases e7:s=[104,97,115]
 ·exact .inr (.inr (.inr (.inr (.inr (.inr (.inr (.inl e7)))))))
 by_cases e8:s=[108,105,115,116]
 ·exact .inr (.inr (.inr (.inr (.inr (.inr (.inr (.inr (.inl e8))))))))
 by_cases e9:s=[109,97,107,101]
 ·exact .inr (.inr (.inr (.inr (.inr (.inr (.inr (.inr (.inr (.inl e9)))))))))
 by_cases e10:s=[97,119,97,121]
 ·exact .inr (.inr (.inr (.inr (.inr (.inr (.inr (.inr (.inr (.inr (.inl e10))))))))))
 by_cases e11:s=[99,108,101,97,114]
 ·exact .inr (.inr (.inr (.inr (.inr (.inr (.inr (.inr (.inr (.inr (.inr (.inl e11)))))))))))
 by_cases e12:s=[109,111,118,101]
 ·exact .inr (.inr (.inr (.inr (.inr (.inr (.inr (.inr (.inr (.inr (.inr (.inr (.inl e12))))))))))))
 by_cases e13:s=[108,105,110,107]
 ·exact .inr (.inr (.inr (.inr (.inr (.inr (.inr (.inr (.inr (.inr (.inr (.inr (.inr (.inl e13)))))))))))))
 by_cases e14:s=[114,105,103,104,116,115]
 ·exact .inr (.inr (.inr (.inr (.inr (.inr (.inr (.inr (.inr (.inr (.inr (.inr (.inr (.inr (.inl e14))))))))))))))
 refine .inr (.inr (.inr (.inr (.inr (.inr (.inr (.inr (.inr (.inr (.inr (.inr (.inr (.inr (.inr (⟨?_,?_,?_⟩)))))))))))))))
 ·unfold kn aU8;simp only[List.find?_cons,List.find?_nil,af e0,af e1,af e2,af e3,af e4,af e5,af e6,af e7,af e8,af e9,af e10,af e11,af e12,af e13,af e14,Option.map_none]
 ·unfold Hr;simp only[af e9,af e10,af e11,af e12,af e13,af e14,Bool.or_self]
 ·unfold Dw;simp only[af e0,af e1,af e2,af e3,af e4,af e5,af e6,af e7,af e8,af e9,af e10,af e11,af e12,af e13,af e14,Bool.or_self,bD,if_false]
abbrev eB:=List (List Pc)
def zN:eB→List UInt8
 |[p]::_=>p.1
 |_=>[]
def stS:eB→Bool
 |[p]::_=>p.2
 |_=>false
def I5(l:eB):List UInt8:=if stS l=true then[]else zN l
theorem DJ{F:RO}{M:Mem}{c:Nat}{v:V}{ps:List Pc}(h:cE F M c 2 v (jy ps))(i:Nat)(hi:i<ps.length):∃b o,b<c∧(∀k,eV 2 v (.i k (i:Int))=some (.p b o))∧load1 F M b o=some (sV ps[i].1)∧load1 F M b (o+1)=some (.b ps[i].2):=by
 obtain⟨b,o,h1,h2,h3⟩:=h.at i (by rw[ep];exact hi)
 have e:(jy ps)[i]'(by rw[ep];exact hi)=Ar ps[i]:=by simp[jy]
 rw[e]at h3
 have a0:=h3 0 (by simp[Ar])
 have a1:=h3 1 (by simp[Ar])
 exact⟨b,o,h1,h2,a0,a1⟩
theorem w81(Φ:Nat→Option CF)(h:Φ 81=some RK){F:RO}{M:Mem}{c:Nat}(ok:cR F M c){v:V}{l:eB}(hl:fo F M c v l):
 Calls Φ F 81 [.g [v]] M c fun r M' c'=>r=sV (zN l)∧Gr c M c' M':=by
 refine aN h ?_
 obtain⟨y1,y2,y3⟩:=hl.one
 have hG:∀v,flatten (V.g [v])=[v]:=fun _=>rfl
 have gX:=(Gr.refl ok).set c (ae 42 [v]) (aj _) (ay _) (aJ _)
 have m0:(M.set c (ae 42 [v])).get c=some (ae 42 [v]):=am _ _ _
 have n1:=hl.len
 have hX:=hl.grow gX
 have k0:load1 F (M.set c (ae 42 [v])) c 0=some v:=au m0 0
 have hfr:=(gX.ok ok).free
 cases l with
 |nil=>
  simp only[WX,B81,hG,y3,k0,n1,Int.natCast_zero];exact⟨rfl,gX⟩
 |cons w r=>
  obtain⟨b,o,x,hbx,ia,ld,_,hw⟩:=cQ.at1 hX 0 (by simp);have ia0:eV 1 v (.i .i64 0)=some (.p b o):=ia .i64;have hw:dQ F (M.set c (ae 42 [v])) (c+1) x w:=hw;have n2:=hw.len;generalize hN:(w::r).length=N at n1;have d1:decide ((N:Int)=0)=false:=af (by rw[←hN,aA];omega)
  match w,n2,hw with
  |[],n2,hw=>
   have d2:decide (¬((0:Int)=1))=true:=rfl;simp only[WX,B81,d2,hG,y3,k0,n1,d1,ia0,ld,n2,Int.natCast_zero,aB];exact⟨rfl,gX⟩
  |p::q::t,n2,hw=>
   generalize hN2:(p::q::t).length=N2 at n2;have d2:decide (¬((N2:Int)=1))=true:=ah (by rw[←hN2,aA,aA];omega);simp only[WX,B81,hG,y3,k0,n1,d1,ia0,ld,n2,d2,aB];exact⟨rfl,gX⟩
  |[p],n2,hw=>
   obtain⟨b1,o1,hb1,ia1,ld1⟩:=aW7 hw.1 0 (by simp);have ia1:eV 2 x (.i .i64 0)=some (.p b1 o1):=ia1 .i64;have ld1:load1 F (M.set c (ae 42 [v])) b1 o1=some (sV p.1):=ld1;generalize hN2:([p]:List Pc).length=N2 at n2;have d2:decide (¬((N2:Int)=1))=false:=af (fun e=>e (by rw[←hN2];rfl));simp only[WX,B81,hG,y3,k0,n1,d1,ia0,ld,n2,d2,ia1,ld1,aB];exact⟨rfl,gX⟩
theorem w66(Φ:Nat→Option CF)(h:Φ 66=some VS){F:RO}{M:Mem}{c:Nat}(ok:cR F M c){v:V}{l:eB}(hl:fo F M c v l):
 Calls Φ F 66 [.g [v]] M c fun r M' c'=>r=sV (I5 l)∧Gr c M c' M':=by
 refine aN h ?_
 obtain⟨y1,y2,y3⟩:=hl.one
 have hG:∀v,flatten (V.g [v])=[v]:=fun _=>rfl
 have gX:=(Gr.refl ok).set c (ae 42 [v]) (aj _) (ay _) (aJ _)
 have m0:(M.set c (ae 42 [v])).get c=some (ae 42 [v]):=am _ _ _
 have n1:=hl.len
 have hX:=hl.grow gX
 have k0:load1 F (M.set c (ae 42 [v])) c 0=some v:=au m0 0
 have hfr:=(gX.ok ok).free
 cases l with
 |nil=>
  simp only[WX,B66,hG,y3,k0,n1,Int.natCast_zero];exact⟨rfl,gX⟩
 |cons w r=>
  obtain⟨b,o,x,hbx,ia,ld,_,hw⟩:=cQ.at1 hX 0 (by simp);have ia0:eV 1 v (.i .i64 0)=some (.p b o):=ia .i64;have hw:dQ F (M.set c (ae 42 [v])) (c+1) x w:=hw;have n2:=hw.len;generalize hN:(w::r).length=N at n1;have d1:decide ((N:Int)=0)=false:=af (by rw[←hN,aA];omega)
  match w,n2,hw with
  |[],n2,hw=>
   have d2:decide (¬((0:Int)=1))=true:=rfl;simp only[WX,B66,d2,hG,y3,k0,n1,d1,ia0,ld,n2,Int.natCast_zero,aB];exact⟨rfl,gX⟩
  |p::q::t,n2,hw=>
   generalize hN2:(p::q::t).length=N2 at n2;have d2:decide (¬((N2:Int)=1))=true:=ah (by rw[←hN2,aA,aA];omega);simp only[WX,B66,hG,y3,k0,n1,d1,ia0,ld,n2,d2,aB];exact⟨rfl,gX⟩
  |[p],n2,hw=>
   obtain⟨b1,o1,hb1,ia1,ld1,ld2⟩:=DJ hw.1 0 (by simp);have ia1:eV 2 x (.i .i64 0)=some (.p b1 o1):=ia1 .i64;have ld1:load1 F (M.set c (ae 42 [v])) b1 o1=some (sV p.1):=ld1;have ld2:load1 F (M.set c (ae 42 [v])) b1 (o1+1)=some (.b p.2):=ld2;generalize hN2:([p]:List Pc).length=N2 at n2;have d2:decide (¬((N2:Int)=1))=false:=af (fun e=>e (by rw[←hN2];rfl));obtain⟨s,st⟩:=p;cases st with
   |true=>
    simp only[WX,B66,hG,y3,k0,n1,d1,ia0,ld,n2,d2,ia1,ld2,aB];exact⟨rfl,gX⟩
   |false=>
    simp only[WX,B66,hG,y3,k0,n1,d1,ia0,ld,n2,d2,ia1,ld1,ld2,aB];exact⟨rfl,gX⟩
def h84:List V→Option V
 |[v]=>(pW v).bind fun l=>some (.b (Hr l))
 |_=>none
theorem aU4(l:List UInt8):h84 [sV l]=some (.b (Hr l)):=by
 show(pW (sV l)).bind (fun l=>some (V.b (Hr l)))=_
 rw[kS,Option.bind_some]
def h65:List V→Option V
 |[v]=>(pW v).bind fun l=>some (SI (Dw l))
 |_=>none
theorem aU2(l:List UInt8):h65 [sV l]=some (SI (Dw l)):=by
 show(pW (sV l)).bind (fun l=>some (SI (Dw l)))=_
 rw[kS,Option.bind_some]
theorem w67(Φ:Nat→Option CF)(h:Φ 67=some Wv)(h66:Φ 66=some VS)(h84:Φ 84=some (.orc (aG h84))){F:RO}{M:Mem}{c:Nat}(ok:cR F M c){v:V}{l:eB}(hl:fo F M c v l):
 Calls Φ F 67 [.g [v]] M c fun r M' c'=>r= .b (Hr (I5 l))∧Gr c M c' M':=by
 refine aN h ?_
 obtain⟨y1,y2,y3⟩:=hl.one
 have hG:∀v,flatten (V.g [v])=[v]:=fun _=>rfl
 have gX:=(Gr.refl ok).set c (ae 42 [v]) (aj _) (ay _) (aJ _)
 have m0:(M.set c (ae 42 [v])).get c=some (ae 42 [v]):=am _ _ _
 have hX:=hl.grow gX
 have k0:loadN F (M.set c (ae 42 [v])) c 0 1=some [v]:=aP m0 1 rfl
 simp only[WX,B67,hG,y3,k0]
 refine az ((w66 Φ h66 (gX.ok ok) hX).mono ?_)
 rintro r M2 c2 ⟨rfl,g2⟩
 have hh:=aU4 (I5 l)
 simp only[WX,h84,hh]
 exact gX.trans g2
theorem aF9(s:List UInt8)(f:V→V)(z:V):(match (u1.find? fun e=>decide (s=e.1))with|some e=>f e.2|none=>z)=match kn s with|some x=>f (nvV x)|none=>z:=by
 have:=aU7 s
 cases h1:(u1.find? fun e=>decide (s=e.1))with
 |none=>rw[h1]at this;cases h2:kn s with
  |none=>rfl
  |some x=>rw[h2]at this;cases this
 |some e=>rw[h1]at this;cases h2:kn s with
  |none=>rw[h2]at this;cases this
  |some x=>rw[h2]at this;have h3:e.2=nvV x:=ag this;show f e.2=f (nvV x);rw[h3]
theorem ch1{F:RO}{M:Mem}{b:Nat}(s:List UInt8)(zero:V)(hM:M.get b=some Xz):
 lkQ .str zero false F M (.m b) (sV s)= .r (match kn s with|some x=>nvV x|none=>zero) b:=by
 have:=aF8 (F:=F) (M:=M) (b:=b) (n:=15) (zero:=zero) (ok:=false) (l:=u1) s (ax hM)
 rw[this]
 exact congrArg (fun v=>QR.r v b) (aF9 s id zero)
theorem bJ9{F:RO}{M:Mem}{b:Nat}(s:List UInt8)(zero:V)(hM:M.get b=some Xz):
 lkQ .str zero true F M (.m b) (sV s)= .r (match kn s with|some x=> .t [nvV x,.b true]|none=> .t [zero,.b false]) b:=by
 have:=aF8 (F:=F) (M:=M) (b:=b) (n:=15) (zero:=zero) (ok:=true) (l:=u1) s (ax hM)
 rw[this]
 exact congrArg (fun v=>QR.r v b) (aF9 s (fun v=> .t [v,.b true]) (.t [zero,.b false]))
theorem Fd{l:eB}{x:Int×Int×Bool}(h:kn (zN l)=some x):∃p r,l=[p]::r:=by
 match l,h with
 |[p]::r,_=>exact⟨p,r,rfl⟩
 |[],h=>exact absurd h (by have:kn (zN [])=none:=rfl;rw[this];simp)
 |[]::_,h=>exact absurd h (by have:kn (zN ([]::[]))=none:=rfl;exact fun e=>by cases this.symm.trans e)
 |(_::_::_)::_,h=>exact absurd h (by have:kn []=none:=rfl;exact fun e=>by cases this.symm.trans e)
theorem Dd{F:RO}(off:Nat)(x:X)(M:Mem)(t:T):lq (.fl1 off x) F M t=oV (match x.ev t with| .g cs=>cs[off]?|_=>none):=by
 refine(fw ?_).trans (congrArg oV (aJ0 (F:=F) off x M t))
 intro F' M'
 show(DH (x.ev t) .f fun cs=>qr (ph cs off))=oV (DH (x.ev t) .f fun cs=>qr (ph cs off)).val
 cases x.ev t with
 |g cs=>
  show qr (ph cs off)=oV (qr (ph cs off)).val;cases ph cs off<;>rfl
 |_=>rfl
def WG(l:eB):Bool:=match kn (zN l)with
 |some x=>x.2.2&& !stS l
 |none=>false
theorem w63(Φ:Nat→Option CF)(h:Φ 63=some Wu)(h80:Φ 80=some RJ)(h81:Φ 81=some RK){F:RO}{M:Mem}{c:Nat}(ok:cR F M c){v:V}{l:eB}(hl:fo F M c v l):
 Calls Φ F 63 [.g [v]] M c fun r M' c'=>r= .b (WG l)∧Gr c M c' M':=by
 refine aN h ?_
 obtain⟨y1,y2,y3⟩:=hl.one
 have hG:∀v,flatten (V.g [v])=[v]:=fun _=>rfl
 have gX:=(Gr.refl ok).set c (ae 42 [v]) (aj _) (ay _) (aJ _)
 have m0:(M.set c (ae 42 [v])).get c=some (ae 42 [v]):=am _ _ _
 have hX:=hl.grow gX
 have k0:loadN F (M.set c (ae 42 [v])) c 0 1=some [v]:=aP m0 1 rfl
 have hfr:=(gX.ok ok).free
 simp only[WX,Nat.reduceAdd,B63,hG,y3,k0]
 generalize M.set c (ae 42 [v])=X at gX m0 hX k0 hfr⊢
 have okX:=gX.ok ok
 have g4:Gr (c+1) X (c+18) X:=(Gr.refl okX).up (by omega)
 refine wU _ _ _ _ _ _ _ _ _ _ _ (g4.ok okX) ?_
 intro F1 N1 okn hlk
 refine(show lD (dt (j5 Φ) F1 80 [] N1 (c+18) (Φ 80)) _ from(w80 Φ h80 okn).mono ?_)
 rintro v1 M5 c5 ⟨rfl,hM5,rfl⟩
 refine⟨by rw[hM5];exact(Gr.refl okn).set (c+18) Xz (aj _) (ay _) (aJ _),fun M3 g3 hM3=>?_⟩
 have hnm:M3.get (c+18)=some Xz:=by rw[hM3 _ (aj _),hM5];exact am _ _ _
 have g5:=g4.trans g3
 have qo:=g5.ok okX
 clear hM3 hM5 hlk okn g3
 simp only[WX,Nat.reducePow,Nat.reduceDiv,Nat.reduceMod,Nat.reduceBEq,Nat.reduceAdd,j0]
 refine eH ((w81 Φ h81 qo (hX.grow g5)).mono ?_)
 rintro v2 M6 c6 ⟨rfl,g6⟩
 have g7:=g5.trans g6
 have ok6:=g7.ok okX
 have hfr6:=ok6.free
 refine⟨hfr6,?_⟩
 have hnm:M6.get (c+18)=some Xz:=(g6.old _ (by omega)).trans hnm
 have hlk:=ch1 (F:=F) (zN l) (V.g [V.i IntKind.i64 0,V.i IntKind.i64 0,V.b false]) hnm
 have hX6:=hX.grow g7
 have k0:load1 F M6 c 0=some v:=(g7.load1 (by omega) _).trans (au m0 0)
 cases hk:kn (zN l)with
 |none=>
  rw[hk]at hlk;simp only[WX,Fh,hlk,Dd];exact⟨by unfold WG;rw[hk],gX.trans g7⟩
 |some x=>
  rw[hk]at hlk;obtain⟨y,yb,yc⟩:=x;have hlk:lkQ Sh.str (V.g [V.i IntKind.i64 0,V.i IntKind.i64 0,V.b false]) false F M6 (V.m (c+18)) (sV (zN l))=QR.r (.g [.i .i64 y,.i .i64 yb,.b yc]) (c+18):=hlk;have hre:WG l=(yc&& !stS l):=by unfold WG;rw[hk]
  rw[hre];clear hre;cases yc with
  |false=>
   simp only[WX,Fh,hlk,Dd];exact⟨rfl,gX.trans g7⟩
  |true=>
   obtain⟨p,r,rfl⟩:=Fd hk;obtain⟨b,o,x,hbx,ia,ld,_,hw⟩:=cQ.at1 hX6 0 (by simp);have ia0:eV 1 v (.i .i64 0)=some (.p b o):=ia .i64;have hw:dQ F M6 c6 x [p]:=hw;obtain⟨b1,o1,hb1,ia1,ld1,ld2⟩:=DJ hw.1 0 (by simp);have ia1:eV 2 x (.i .i64 0)=some (.p b1 o1):=ia1 .i64;have ld2:load1 F M6 b1 (o1+1)=some (.b p.2):=ld2;simp only[WX,Fh,hlk,Dd,k0,ia0,ld,ia1,ld2,aB];exact⟨rfl,gX.trans g7⟩
abbrev bP7(u:List (Option V))(x0 x1 x6 x7 x8:V):T:=(.n (.n (.n (.n (gy u 15) (some x7) (gy u 23)) (uO u 3) (fm u 19 11 27)) (some x1) (aq u 17 9 25 5 21 13 29)) (some x0) (.n (.n (.n (gy u 16) (some x8) (gy u 24)) (uO u 4) (fm u 20 12 28)) (uO u 2) (.n (fm u 18 10 26) (some x6) (fm u 22 14 30))))
def aA8:CC:=(.reg [(aa a1 (.bx 36 1 z0)),(qq a2 (.mv xF))])
def aA9:CC:=(.reg [(qq a3 (.ldn 1 z1)),(ee a4 (.call 61 [z3])),(qq a5 (.un .not z4)),(qq a2 (.mv z5))])
def J8:CF:= .mk 3 [.t a2] (.seq aA8 (.seq aA9 .ret))
theorem e83(v0:V):bz 3 [v0]=(.n sG (some v0) sG):=rfl
def B83:=ai @e83 (ai (wu aA8.eq_1) (wu aA9.eq_1))
def aC6:CC:=(.reg [(qq a4 (.mv (x6 0)))])
def aC7:CC:=(.reg [(qq a6 (.mv z0)),(qq a7 (.ln .slice z6)),(qq a8 (.mv (x6 0)))])
def aC8:CC:=(.reg [(qq a9 (.bi .lss z8 z7))])
def aC9:CC:=(.reg [(qq dJ (.mv z8)),(qq a5 (.mv eK))])
def aD0:CC:=(.reg [(qq ey (.mv z1)),(qq eU (.mv z0)),(qq eC (.mv z5)),(qq dR (.iaS 1 ei eb)),(qq dA (.ldn 1 fG)),(ee eX (.cv dE [gf]))])
def aD1:CC:=(.reg [(qq gC (.mv z5)),(qq a4 (.mv gS))])
def aD2:CC:=(.seq aD0 (.cond gM (.seq aD1 .ret) .skip))
def aD3:CC:=(.reg [(qq fK (.bi .add z8 (x6 1))),(qq a8 (.mv hU))])
def aD4:CC:=(.seq (.cond z9 .skip (.exit 0)) (.seq (.block 1 (.seq aC9 aD2)) aD3))
def Rw:CC:=(.reg [(qq a4 (.mv (x6 (-1))))])
def Rx:CC:=(.seq (.seq aC7 (.block 0 (.loop (.seq aC8 aD4)))) (.seq Rw .ret))
def RL:CF:= .mk 5 [.t a4] (.seq aC6 Rx)
theorem e90(v0 v1:V):bz 5 [v0,v1]=(.n (.n jt (some v1) jt) (some v0) nr):=rfl
def B90:=ai @e90 (ai (wu aC6.eq_1) (ai (wu aC7.eq_1) (ai (wu aC8.eq_1) (ai (wu aC9.eq_1) (ai (wu aD0.eq_1) (ai (wu aD1.eq_1) (ai (wu aD2.eq_1) (ai (wu aD3.eq_1) (ai (wu aD4.eq_1) (ai (wu Rw.eq_1) (wu Rx.eq_1)))))))))))
def aA6:CC:=(.reg [(qq a4 (.mv xF))])
def aA7:CC:=(.reg [(qq a5 (.mv z0)),(qq a6 (.mv z1)),(ee a7 (.call 90 [z5,z6])),(qq a8 (.bi .geq z7 (x6 0))),(qq a4 (.mv z8))])
def VT:CF:= .mk 4 [.t a4] (.seq aA6 (.seq aA7 .ret))
theorem e82(v0 v1:V):bz 4 [v0,v1]=(.n (.n sG (some v1) sG) (some v0) jt):=rfl
def B82:=ai @e82 (ai (wu aA6.eq_1) (wu aA7.eq_1))
def as3:CC:=(.reg [(aa a1 (.bx 42 1 z0)),(qq a2 (.mv xF))])
def as4:CC:=(.dreg 10 [(1,0,(qq a8 (.ldn 1 z1))),(7,0,(aa a3 (.al 121 [(.i .i64 0),(.i .i64 0),(.b false)]))),(0,0,(ee a7 (.call 80 []))),(2,3,(ee a9 (.call 81 [z8]))),(3,7,(qq dJ (.lk .str (.g [(.i .i64 0),(.i .i64 0),(.b false)]) true z7 z9))),(4,15,(qq a6 (.mv eK))),(5,31,(qq ey (.ex 0 z6))),(6,31,(qq eU (.ex 1 z6))),(8,191,(ez (.st 3 z3 dE))),(9,511,(qq a4 (.mv ei)))])
def as5:CC:=(.reg [(qq eC (.fa 0 z1)),(qq dR (.ld1 eb)),(qq dA (.ln .slice fG)),(qq eX (.bi .sub gf (x6 1))),(qq a5 (.mv gM))])
def as6:CC:=(.reg [(qq gC (.mv z4)),(qq fK (.mv gS)),(aE i5 (.fa 0 z1) fK),(aE gh (.ld1 jz) fK),(aE fE (.iaS 1 k7 (x6 0)) fK),(aE j9 (.fa 0 ju) fK),(aE gO (.ld1 kL) fK),(aE jn (.iaS 2 k8 (x6 0)) fK),(aE gP (.fa 1 jA) fK),(aE ja (.ld1 kM) fK),(aE gQ (.un .not lw) fK),(qq kQ (.pk hU lB xF)),(qq gU (.mv mH)),(aE jv (.mv z5) gU),(aE jC (.fa 0 z3) gU),(aE lz (.ld1 ny) gU),(aE lE (.bi .geq nv oC) gU),(qq jx (.pk mI pQ xF)),(qq iK (.mv pR)),(aE mK (.fa 1 z3) iK),(aE ka (.ld1 pS) iK),(aE mL (.bi .lss oF (x6 0)) iK),(aE lA (.mv qS) iK),(aw nj (.mv z5) lA),(aw jb (.fa 1 z3) lA),(aw kR (.ld1 pT) lA),(aw oK (.bi .leq rJ rK) lA),(aE lF (.pk qT xT rL) iK),(qq oL (.pk pM qU xF)),(qq ll (.mv rM)),(aE oM (.fa 0 z1) ll),(aE kb (.ld1 rN) ll),(p5 lG (.call 82 [sq,(.c (.f 83 [] []))]) ll),(aE qZ (.un .not uN) ll),(qq r0 (.pk sO uZ xF)),(qq a2 (.mv uP))])
def Ho:CF:= .mk 6 [.t a2] (.seq as3 (.seq as4 (.seq as5 (.seq as6 .ret))))
theorem e62(v0:V):bz 6 [v0]=(.n nu (some v0) nu):=rfl
def B62:=ai @e62 (ai (wu as3.eq_1) (ai (wu as4.eq_1) (ai (wu as5.eq_1) (wu as6.eq_1))))
def Ji(l:eB):Prop:=∀w∈l,∀p∈w,p.1.length≤1000000
theorem w83(Φ:Nat→Option CF)(h:Φ 83=some J8)(h61:Φ 61=some Hn)(h77:Φ 77=some (.orc (aG h77))){F:RO}{M:Mem}{c:Nat}(ok:cR F M c){v:V}{w:List Pc}(hw:dQ F M c v w)(hp:∀p∈w,p.1.length≤1000000):
 Calls Φ F 83 [.g [v]] M c fun r M' c'=>r= .b (!du w)∧Gr c M c' M':=by
 refine aN h ?_
 obtain⟨y1,y2,y3⟩:=hw.one
 have hG:∀v,flatten (V.g [v])=[v]:=fun _=>rfl
 have gX:=(Gr.refl ok).set c (ae 36 [v]) (aj _) (ay _) (aJ _)
 have m0:(M.set c (ae 36 [v])).get c=some (ae 36 [v]):=am _ _ _
 have hX:=hw.grow gX
 have k0:loadN F (M.set c (ae 36 [v])) c 0 1=some [v]:=aP m0 1 rfl
 simp only[WX,B83,hG,y3,k0]
 refine az ((w61 Φ h61 h77 (gX.ok ok) hX hp).mono ?_)
 rintro r M2 c2 ⟨rfl,g2⟩
 simp only[WX]
 exact gX.trans g2
theorem w90(Φ:Nat→Option CF)(h:Φ 90=some RL)(h83:Φ 83=some J8)(h61:Φ 61=some Hn)(h77:Φ 77=some (.orc (aG h77))){F:RO}{M:Mem}{c:Nat}(ok:cR F M c){v:V}{l:eB}(hl:fo F M c v l)(hs:Ji l):
 Calls Φ F 90 [v,.f 83 [] []] M c fun r M' c'=>(∃z:Int,r= .i .i64 z∧decide (0≤z)= !(l.all du))∧Gr c M c' M':=by
 refine aN h ?_
 have n1:=hl.len
 have mx:=hl.max
 simp only[WX,B90,n1]
 obtain⟨I,hI⟩:∃I:Nat→St→Prop,∀n s',I n s'↔(∃(i c1:Nat) (M1:Mem) (u:List (Option V)),n=l.length-i∧i≤l.length∧s'= .mk ((bP7 u v (.f 83 [] []) v (.i .i64 (l.length:Int)) (.i .i64 (i:Int)))) [] M1 c1∧Gr c M c1 M1∧l.all du=(l.drop i).all du):=⟨fun n s'=>_,fun _ _=>Iff.rfl⟩
 refine bw I ?_ l.length _ ((hI _ _).2 ⟨0,_,_,(G2 (X4 (G2 (G1 (br (X4 (X2 []))))))),rfl,aD _,rfl,Gr.refl ok,rfl⟩)
 intro n s' hIs
 obtain⟨i,c1,M1,u,rfl,hi,rfl,gr1,hb⟩:=(hI _ _).1 hIs
 clear hIs
 by_cases hlt:i<l.length
 ·have q8:cB .add (.i .i64 (i:Int)) (.i .i64 1)=some (.i .i64 ((i+1:Nat):Int)):=by rw[be _ _ (by omega) (by omega)];simp
  have d1:decide ((i:Int)<(l.length:Int))=true:=ah (by omega);obtain⟨b,o,x,hbx,ia,_,ld,hw⟩:=cQ.at1 (hl.grow gr1) i hlt;have ia:=ia .i64;have hd:l.drop i=l[i]::l.drop (i+1):=bS hlt;rw[hd,List.all_cons]at hb;have hsi:=hs l[i] (List.getElem_mem _);generalize l[i]=w at hb hw hsi;simp only[WX,B90,d1,ia,ld];refine az ((w83 Φ h83 h61 h77 (gr1.ok ok) hw hsi).mono ?_);rintro r M2 c2 ⟨rfl,g2⟩;cases hf:du w with
  |true=>
   rw[hf]at hb;simp only[WX,B90,q8];exact⟨l.length-(i+1),by omega,(hI _ _).2 ⟨i+1,_,_,(G2 (X4 (G2 (G1 (br (X4 (X2 []))))))),rfl,hlt,rfl,gr1.trans g2,hb⟩⟩
  |false=>
   rw[hf]at hb;simp only[WX,B90];exact⟨⟨_,rfl,by rw[hb];exact ah (by omega)⟩,gr1.trans g2⟩
 ·obtain rfl:i=l.length:=by omega
  have d1:decide ((l.length:Int)<(l.length:Int))=false:=af (by omega);rw[cj]at hb;simp only[WX,B90,d1];exact⟨⟨_,rfl,by rw[hb];rfl⟩,gr1⟩
theorem w82(Φ:Nat→Option CF)(h:Φ 82=some VT)(h90:Φ 90=some RL)(h83:Φ 83=some J8)(h61:Φ 61=some Hn)(h77:Φ 77=some (.orc (aG h77))){F:RO}{M:Mem}{c:Nat}(ok:cR F M c){v:V}{l:eB}(hl:fo F M c v l)(hs:Ji l):
 Calls Φ F 82 [v,.f 83 [] []] M c fun r M' c'=>r= .b (!(l.all du))∧Gr c M c' M':=by
 refine aN h ?_
 simp only[WX,B82]
 refine az ((w90 Φ h90 h83 h61 h77 ok hl hs).mono ?_)
 rintro r M2 c2 ⟨⟨z,rfl,hz⟩,g2⟩
 simp only[WX,hz]
 exact g2
def oU(l:eB):Bool:=match kn (zN l)with
 |some x=> !stS l&&(decide (x.1≤(l.length:Int)-1)&&((decide (x.2.1<0)||decide ((l.length:Int)-1≤x.2.1))&&l.all du))
 |none=>false
theorem w62(Φ:Nat→Option CF)(h:Φ 62=some Ho)(h80:Φ 80=some RJ)(h81:Φ 81=some RK)(h82:Φ 82=some VT)(h90:Φ 90=some RL)(h83:Φ 83=some J8)(h61:Φ 61=some Hn)(h77:Φ 77=some (.orc (aG h77))){F:RO}{M:Mem}{c:Nat}(ok:cR F M c){v:V}{l:eB}(hl:fo F M c v l)(hs:Ji l):
 Calls Φ F 62 [.g [v]] M c fun r M' c'=>r= .b (oU l)∧Gr c M c' M':=by
 refine aN h ?_
 obtain⟨y1,y2,y3⟩:=hl.one
 have hG:∀v,flatten (V.g [v])=[v]:=fun _=>rfl
 have gX:=(Gr.refl ok).set c (ae 42 [v]) (aj _) (ay _) (aJ _)
 have m0:(M.set c (ae 42 [v])).get c=some (ae 42 [v]):=am _ _ _
 have hX:=hl.grow gX
 have k0:loadN F (M.set c (ae 42 [v])) c 0 1=some [v]:=aP m0 1 rfl
 have hfr:=(gX.ok ok).free
 simp only[WX,Nat.reduceAdd,B62,hG,y3,k0]
 generalize M.set c (ae 42 [v])=X at gX m0 hX k0 hfr⊢
 have okX:=gX.ok ok
 have lk1:(look F X (c+8)).isNone=true:=by rw[okX.look (by omega)];rfl
 have rf1:bY (c+8) [(1,c)]=true:=by rw[bo _ _ _ _ (by omega),cK]
 simp only[WX,Nat.reduceAdd,uH,mh,lk1,rf1]
 have TB0:testBit 0 7=false:=by decide+kernel
 have TB3:testBit 3 7=false:=by decide+kernel
 have g4:Gr (c+1) X (c+11) X:=(Gr.refl okX).up (by omega)
 obtain⟨Z,hZ⟩:∃Z:List V,Z=[.i .i64 0,.i .i64 0,.b false]:=⟨_,rfl⟩
 refine Vf _ _ _ _ _ _ _ _ _ _ _ _ (g4.ok okX) (by rw[List.all_cons,List.all_nil,TB0];rfl) (by intro e he;rw[List.mem_singleton]at he;subst he;exact⟨by show c+8<c+11;omega,okX.look (show c+1≤c+8 by omega)⟩) ?_
 intro F1 N1 okn hlk
 refine(show lD (dt (j5 Φ) F1 80 [] N1 (c+11) (Φ 80)) _ from(w80 Φ h80 okn).mono ?_)
 rintro v1 M5 c5 ⟨rfl,hM5,rfl⟩
 refine⟨by rw[hM5];exact(Gr.refl okn).set (c+11) Xz (aj _) (ay _) (aJ _),fun M3 g3 hM3=>?_⟩
 have hnm:M3.get (c+11)=some Xz:=by rw[hM3 _ (aj _),hM5];exact am _ _ _
 have g5:=g4.trans g3
 have qo:=g5.ok okX
 have lk2:look F M3 (c+8)=none:=by
  obtain⟨e1,e2⟩:=gp (okX.look (show c+1≤c+8 by omega));exact iu ((g3.old _ (by omega)).trans e1) e2
 clear hM3 hM5 hlk okn
 simp only[WX,Nat.reduceAdd]
 refine Vf _ _ _ _ _ _ _ _ _ _ _ _ qo (by rw[List.all_cons,List.all_nil,TB3];rfl) (by intro e he;rw[List.mem_singleton]at he;subst he;exact⟨by show c+8<c+11+1;omega,lk2⟩) ?_
 intro F1 N1 okn hlk
 refine(show lD (dt (j5 Φ) F1 81 [.g [v]] N1 (c+11+1) (Φ 81)) _ from(w81 Φ h81 okn ((hX.grow g5).lk hlk)).mono ?_)
 rintro v1 M5 c5 ⟨rfl,g6'⟩
 refine⟨g6',fun M6 g6 _=>?_⟩
 have g7:=g5.trans g6
 have ok6:=g7.ok okX
 have hle6:=g6.le
 have hnm:M6.get (c+11)=some Xz:=(g6.old _ (by omega)).trans hnm
 have lk3:look F M6 (c+8)=none:=by
  obtain⟨e1,e2⟩:=gp lk2;exact iu ((g6.old _ (by omega)).trans e1) e2
 clear hlk okn g6'
 have hlk:=bJ9 (F:=F) (zN l) (V.g [V.i IntKind.i64 0,V.i IntKind.i64 0,V.b false]) hnm
 obtain⟨E1,E2,E3,fl,hE,hkn⟩:∃E1 E2 E3 fl,lkQ Sh.str (V.g [V.i IntKind.i64 0,V.i IntKind.i64 0,V.b false]) true F M6 (V.m (c+11)) (sV (zN l))=QR.r (.t [.g [.i .i64 E1,.i .i64 E2,.b E3],.b fl]) (c+11)∧(kn (zN l)=some (E1,E2,E3)∧fl=true∨kn (zN l)=none∧fl=false):=by
  cases hk:kn (zN l)with
  |none=>rw[hk]at hlk;exact⟨0,0,false,false,hlk,.inr ⟨rfl,rfl⟩⟩
  |some x=>rw[hk]at hlk;exact⟨x.1,x.2.1,x.2.2,true,hlk,.inl ⟨rfl,rfl⟩⟩
 have hfr6:=ok6.free
 simp only[WX,Fh,hE]
 have gB:Gr (c+1) X c5 (M6.set (c+8) (ae 121 [.i .i64 0,.i .i64 0,.b false])):=g7.set (c+8) _ (by omega) (by omega) (aj _)
 have TB191:testBit 191 7=true:=by decide+kernel
 refine Vh (M1:=M6.set (c+8) (ae 121 [.i .i64 0,.i .i64 0,.b false])) (b:=c+8) (ty:=121) (z:=[.i .i64 0,.i .i64 0,.b false]) (e:=[.i .i64 E1,.i .i64 E2,.b E3]) _ _ _ _ _ _ _ _ _ _ _ _ _ (by rw[List.all_cons,List.all_nil,TB191];rfl) (by rw[fg,ix]) (am _ _ _) rfl rfl rfl rfl rfl (by rw[bo _ _ _ _ (by omega),bo _ _ _ _ (by omega),cK]) (gB.ok okX).free ?_
 intro N1 hN1
 rw[pF]at hN1
 have hb8:N1.get (c+8)=some (ae 121 [.i .i64 E1,.i .i64 E2,.b E3]):=by rw[hN1];exact am _ _ _
 have gN:Gr (c+1) X c5 N1:=⟨gB.le,fun b hb=>by rw[hN1,ak _ _ (by omega)];exact g7.old b hb,fun b hb=>by rw[hN1,ak _ _ (by omega)];exact g7.new b hb⟩
 have k0:load1 F N1 c 0=some v:=(gN.load1 (by omega) _).trans (au m0 0)
 have okN:=gN.ok okX
 have hXN:=hX.grow gN
 have n1:=hl.len
 have mx:=hl.max
 have e1:load1 F N1 (c+8) 0=some (.i .i64 E1):=au hb8 0
 have e2:load1 F N1 (c+8) 1=some (.i .i64 E2):=au hb8 1
 have sb:cB .sub (.i .i64 (l.length:Int)) (.i .i64 1)=some (.i .i64 ((l.length:Int)-1)):=p7 _ _ (by omega) (by omega)
 clear hN1 hb8 gB hE hlk lk3 lk2 hnm
 rcases hkn with⟨hk,rfl⟩|⟨hk,rfl⟩
 ·obtain⟨p,r,rfl⟩:=Fd hk;obtain⟨b,o,x,hbx,ia,ld,_,hw⟩:=cQ.at1 hXN 0 (by simp);have ia0:eV 1 v (.i .i64 0)=some (.p b o):=ia .i64;have hw:dQ F N1 c5 x [p]:=hw;obtain⟨b1,o1,hb1,ia1,ld1,ld2⟩:=DJ hw.1 0 (by simp);have ia1:eV 2 x (.i .i64 0)=some (.p b1 o1):=ia1 .i64;have ld2:load1 F N1 b1 (o1+1)=some (.b p.2):=ld2;have hre:oU ([p]::r)=(!p.2&&(decide (E1≤((([p]::r).length:Nat):Int)-1)&&((decide (E2<0)||decide (((([p]::r).length:Nat):Int)-1≤E2))&&([p]::r).all du))):=by unfold oU;rw[hk];rfl
  rw[hre];clear hre;have hL82:=fun(hX:fo F N1 c5 v ([p]::r))=>w82 Φ h82 h90 h83 h61 h77 okN hX hs;obtain⟨L,hL⟩:∃L:Nat,L=([p]::r).length:=⟨_,rfl⟩
  rw[←hL]at n1 sb⊢;obtain⟨s,st⟩:=p;have ld2:load1 F N1 b1 (o1+1)=some (.b st):=ld2;cases st with
  |true=>
   simp only[WX,B62,k0,n1,sb,ia0,ld,ia1,ld2,aB];exact⟨rfl,gX.trans gN⟩
  |false=>
   cases hD1:decide (E1≤(L:Int)-1)with
   |false=>
    simp only[WX,B62,k0,n1,sb,e1,ia0,ld,ia1,ld2,aB,hD1];exact⟨rfl,gX.trans gN⟩
   |true=>
    cases hD2:decide (E2<0)with
    |true=>
     simp only[WX,B62,k0,n1,sb,e1,e2,ia0,ld,ia1,ld2,aB,hD1,hD2];refine az ((hL82 hXN).mono ?_);rintro r M2 c2 ⟨rfl,g8⟩;simp only[WX];exact⟨by simp,gX.trans (gN.trans g8)⟩
    |false=>
     cases hD3:decide ((L:Int)-1≤E2)with
     |true=>
      simp only[WX,B62,k0,n1,sb,e1,e2,ia0,ld,ia1,ld2,aB,hD1,hD2,hD3];refine az ((hL82 hXN).mono ?_);rintro r M2 c2 ⟨rfl,g8⟩;simp only[WX];exact⟨by simp,gX.trans (gN.trans g8)⟩
     |false=>
      simp only[WX,B62,k0,n1,sb,e1,e2,ia0,ld,ia1,ld2,aB,hD1,hD2,hD3];exact⟨rfl,gX.trans gN⟩
 ·have hre:oU l=false:=by unfold oU;rw[hk]
  rw[hre];simp only[WX,B62,k0,n1,sb];exact gX.trans gN
abbrev aH8(u:List (Option V))(x1 x3 x4 x54 x55 x56:V):T:=(.n (.n (.n (.n (aq u 63 31 95 15 79 47 111) (uO u 7) (.n (fm u 71 39 103) (uO u 23) (.n (gy u 87) (some x55) (gy u 119)))) (some x3) (.n (aq u 67 35 99 19 83 51 115) (uO u 11) (aq u 75 43 107 27 91 59 123))) (some x1) (.n (.n (aq u 65 33 97 17 81 49 113) (uO u 9) (aq u 73 41 105 25 89 57 121)) (uO u 5) (.n (aq u 69 37 101 21 85 53 117) (uO u 13) (aq u 77 45 109 29 93 61 125)))) (uO u 0) (.n (.n (.n (aq u 64 32 96 16 80 48 112) (uO u 8) (.n (fm u 72 40 104) (uO u 24) (.n (gy u 88) (some x56) (gy u 120)))) (some x4) (.n (aq u 68 36 100 20 84 52 116) (uO u 12) (aq u 76 44 108 28 92 60 124))) (uO u 2) (.n (.n (aq u 66 34 98 18 82 50 114) (uO u 10) (aq u 74 42 106 26 90 58 122)) (uO u 6) (.n (.n (fm u 70 38 102) (uO u 22) (.n (gy u 86) (some x54) (gy u 118))) (uO u 14) (aq u 78 46 110 30 94 62 126)))))
def ai0:CC:=(.reg [(aa a1 (.bx 39 6 z0)),(qq a2 (.mv xF))])
def aL3:=wu ai0.eq_1
def ai1:CC:=(.dreg 12 [(0,0,(qq a7 (.fa 2 z1))),(1,1,(qq a8 (.fa 0 z7))),(2,3,(qq a9 (.ld1 z8))),(3,7,(qq dJ (.ln .slice z9))),(4,15,(qq ey (.bi .gtr eK (x6 0)))),(5,0,(qq eU (.fa 3 z1))),(6,32,(qq eC (.fa 0 ei))),(7,96,(qq dR (.ld1 eb))),(8,224,(qq dA (.ln .slice fG))),(9,480,(qq eX (.bi .gtr gf (x6 0)))),(10,31,(qq a3 (.mv dE))),(11,2047,(qq a4 (.mv gM)))])
def aL4:=wu ai1.eq_1
def ai2:CC:=(.reg [(qq gC (.fa 5 z1)),(qq fK (.ld1 gS)),(qq i5 (.ln .slice hU)),(qq gh (.bi .lss jz (x6 1))),(qq fE (.mv k7)),(aw j9 (.fa 5 z1) fE),(aw gO (.ld1 kL) fE),(aw jn (.ln .slice k8) fE),(aw gP (.bi .gtr jA (x6 6)) fE),(qq ja (.pk ju xT kM)),(qq gQ (.mv lw)),(aw kQ (.fa 4 z1) gQ),(aw gU (.ld1 mH) gQ),(aw jv (.mv mI) gQ),(aE jC (.mv z4) jv),(aE lz (.un .not ny) jv),(aw lE (.pk nv oC xF) gQ),(qq jx (.pk lB xT pQ)),(qq iK (.mv pR)),(aw mK (.mv z3) iK),(aw ka (.mv pS) iK),(aE mL (.fa 2 z1) ka),(aE lA (.ldn 1 qS) ka),(p5 nj (.call 61 [qT]) ka),(aE jb (.un .not rJ) ka),(aw kR (.pk oF pT xF) iK),(qq oK (.pk pM xT rK)),(qq lF (.mv rL)),(aw oL (.mv z4) lF),(aw ll (.mv rM) lF),(aE oM (.fa 3 z1) ll),(aE kb (.ldn 1 rN) ll),(p5 lG (.call 61 [sq]) ll),(aE qZ (.un .not uN) ll),(aw r0 (.pk sO uZ xF) lF),(qq mM (.pk qU xT uP))])
def aL5:=wu ai2.eq_1
def ai3:CC:=(.seq (.reg [(qq a2 (.mv xF))]) .ret)
def rH:=wu ai3.eq_1
def ai4:CC:=(.seq ai2 (.cond v7 ai3 .skip))
def aL6:=wu ai4.eq_1
def ai5:CC:=(.reg [(qq sv (.fa 5 z1)),(qq uS (.ld1 vD)),(qq pO (.ln .slice wW)),(qq sZ (.mv (x6 0)))])
def bX2:=wu ai5.eq_1
def ai6:CC:=(.reg [(qq vN (.bi .lss vE za))])
def bX3:=wu ai6.eq_1
def ai7:CC:=(.reg [(qq vO (.iaS 1 wW vE)),(qq sw (.ldn 1 Bg)),(aa a6 (.al 42 [.l0])),(ez (.st 1 z6 Bh))])
def bX4:=wu ai7.eq_1
def ai8:CC:=(.reg [(qq vP (.ldn 1 z6)),(ee sy (.call 62 [Bi])),(qq vQ (.un .not BI)),(qq nA (.mv Bj)),(aw vR (.ldn 1 z6) nA),(jJ ve (.call 63 [BJ]) nA),(aw oN (.mv zb) nA),(aE rS (.fa 5 z1) oN),(aE vf (.ld1 vF) oN),(aE uT (.ln .slice zd) oN),(aE uU (.bi .gtr ze (x6 1)) oN),(aE oD (.mv zm) oN),(aw uV (.mv z3) oD),(aE fF (.pk zf xT zn) oN),(aE pP (.mv ss) oN),(aw vg (.mv z4) pP),(aE r4 (.pk zo xT zq) oN),(aw vT (.pk zl zr xF) nA),(qq vU (.pk zk xT Bm))])
def bX5:=wu ai8.eq_1
def Nx:CC:=(.seq (.reg [(qq a2 (.mv xF))]) .ret)
def bf1:=wu Nx.eq_1
def Ny:CC:=(.seq ai8 (.cond Bn Nx .skip))
def bf2:=wu Ny.eq_1
def Nz:CC:=(.reg [(qq vV (.bi .add vE (x6 1))),(qq sZ (.mv Bo))])
def bf3:=wu Nz.eq_1
def NA:CC:=(.seq (.cond BH .skip (.exit 0)) (.seq (.block 1 (.seq ai7 Ny)) Nz))
def bf4:=wu NA.eq_1
def NC:CC:=(.seq (.reg [(qq a2 (.mv xT))]) .ret)
def bf5:=wu NC.eq_1
def xL:CC:=(.seq (.seq ai5 (.block 0 (.loop (.seq ai6 NA)))) NC)
def bf6:=wu xL.eq_1
def c40:CF:= .mk 7 [.t a2] (.seq ai0 (.seq ai1 (.seq ai4 xL)))
theorem e40(v0:V):bz 7 [v0]=(.n uY (some v0) uY):=rfl
def W0:=ai @e40 (ai @aL3 (ai @aL4 (ai @aL5 (ai @rH (ai @aL6 (ai @bX2 (ai @bX3 (ai @bX4 (ai @bX5 (ai @bf1 (ai @bf2 (ai @bf3 (ai @bf4 (ai @bf5 (@bf6)))))))))))))))
def zO(n:Nat)(io:Bool)(c:eB):Bool:=oU c&& !(WG c&&(decide (1<n)||io))
def hasW(w:List Pc):Bool:=decide (0<w.length)
def mg(p:fD):Bool:= !decide (p.cmds.length<1)&&(!decide (6<p.cmds.length)&&(!(p.beh&& !hasW p.out)&&(!(hasW p.inp&& !du p.inp)&&(!(hasW p.out&& !du p.out)&&p.cmds.all (zO p.cmds.length (hasW p.inp||hasW p.out))))))
theorem S3(n:Nat):decide ((1:Int)<(n:Int))=decide (1<n):=by congr 1;exact propext (by omega)
theorem m40(Φ:Nat→Option CF)(h63:Φ 63=some Wu)(h62:Φ 62=some Ho)(h80:Φ 80=some RJ)(h81:Φ 81=some RK)(h82:Φ 82=some VT)(h90:Φ 90=some RL)(h83:Φ 83=some J8)(h61:Φ 61=some Hn)(h77:Φ 77=some (.orc (aG h77))){F:RO}{M:Mem}{c c2:Nat}(ok:cR F M c2)(hcc:c<c2){vc:V}{cs:List eB}(hc:lh F M c2 vc cs)(hs:∀x∈cs,Ji x)(A5:load1 F M c 5=some vc)(hi ho:Bool)(u:List (Option V))(Q:Ex→St→Prop)
 (hQ:∀(u:List (Option V)) M' c',Gr c2 M c' M'→Q .ret (.mk ((aH6 u (.b (cs.all (zO cs.length (hi||ho)))))) [] M' c')):
 Wp xL (K Φ none 40 F) (.mk ((Gk u (.p c 0) (.b hi) (.b ho))) [] M c2) Q:=by
 have n1:=hc.len
 have mx:=hc.max
 simp only[WX,W0,A5,n1]
 obtain⟨I,hI⟩:∃I:Nat→St→Prop,∀n s',I n s'↔(∃(i c1:Nat) (M1:Mem) (u:List (Option V)),n=cs.length-i∧i≤cs.length∧s'= .mk ((aH8 u (.p c 0) (.b hi) (.b ho) vc (.i .i64 (cs.length:Int)) (.i .i64 (i:Int)))) [] M1 c1∧Gr c2 M c1 M1∧cs.all (zO cs.length (hi||ho))=(cs.drop i).all (zO cs.length (hi||ho))):=⟨fun n s'=>_,fun _ _=>Iff.rfl⟩
 refine bw I ?_ cs.length _ ((hI _ _).2 ⟨0,_,_,(X1 (G1 (X1 (G2 (bA (br (X1 (G2 (G1 (bf (X4 (X2 [])))))))))))),rfl,aD _,rfl,Gr.refl ok,rfl⟩)
 intro n s' hIs
 obtain⟨i,c1,M1,u,rfl,hle,rfl,gr1,hb⟩:=(hI _ _).1 hIs
 clear hIs
 by_cases hlt:i<cs.length
 ·have q8:cB .add (.i .i64 (i:Int)) (.i .i64 1)=some (.i .i64 ((i+1:Nat):Int)):=by rw[be _ _ (by omega) (by omega)];simp
  have d1:decide ((i:Int)<(cs.length:Int))=true:=ah (by omega);obtain⟨b,o,x,hbx,ia,_,ld,hw⟩:=cQ.at1 (hc.grow gr1) i hlt;have ia:=ia .i64;have hw:fo F M1 c1 x cs[i]:=hw;have hd:cs.drop i=cs[i]::cs.drop (i+1):=bS hlt;rw[hd,List.all_cons]at hb;have hsi:=hs cs[i] (List.getElem_mem _);generalize cs[i]=w at hb hw hsi;obtain⟨y1,y2,y3⟩:=hw.one;have hG:∀v,flatten (V.g [v])=[v]:=fun _=>rfl;have ok1:=gr1.ok ok;have hle1:=gr1.le;have sn:bR (M1.set c1 (ae 42 [.l0])) c1 0 [x]=some (M1.set c1 (ae 42 [x])):=dI rfl y3;have m1:(M1.set c1 (ae 42 [x])).get c1=some (ae 42 [x]):=am _ _ _;have g1':=(Gr.refl ok1).set c1 (ae 42 [x]) (aj _) (ay _) (aJ _);have g1:=gr1.trans g1';have kx:loadN F (M1.set c1 (ae 42 [x])) c1 0 1=some [x]:=aP m1 1 rfl;generalize M1.set c1 (ae 42 [x])=Y at sn m1 g1' g1 kx;have hwY:=hw.grow g1';have okY:=g1.ok ok;simp only[WX,W0,d1,ia,ld,hG,sn,kx];refine az ((w62 Φ h62 h80 h81 h82 h90 h83 h61 h77 okY hwY hsi).mono ?_);rintro r M2 c3 ⟨rfl,g2⟩;cases hk:oU w with
  |false=>
   simp only[WX,W0];rw[show cs.all (zO cs.length (hi||ho))=false by rw[hb];unfold zO;rw[hk];rfl]at hQ;exact hQ (X2 (G1 (bf (bA (br (X8 (X4 []))))))) _ _ (g1.trans g2)
  |true=>
   have ok2:=g2.ok okY;have hle2:=g2.le;have kx2:loadN F M2 c1 0 1=some [x]:=(g2.loadN (by omega) _ _).trans kx;simp only[WX,kx2];refine az ((w63 Φ h63 h80 h81 ok2 (hwY.grow g2)).mono ?_);rintro r M3 c4 ⟨rfl,g3⟩;have g4:=g1.trans (g2.trans g3);have A5':load1 F M3 c 5=some vc:=(g4.load1 hcc _).trans A5;have GOOD:(WG w&&(decide (1<cs.length)||(hi||ho)))=false→ ∀u:List (Option V),I (cs.length-(i+1)) (.mk ((aH8 u (.p c 0) (.b hi) (.b ho) vc (.i .i64 (cs.length:Int)) (.i .i64 ((i+1:Nat):Int)))) [] M3 c4):=fun hg u=>(hI _ _).2 ⟨i+1,_,_,(X1 (G1 (X1 (G2 (bA (br (X1 (G2 (G1 (bf (X4 (X2 [])))))))))))),rfl,hlt,rfl,g4,by rw[hb];unfold zO;rw[hk,hg];rfl⟩;have BAD:(WG w&&(decide (1<cs.length)||(hi||ho)))=true→cs.all (zO cs.length (hi||ho))=false:=by
    intro hg;rw[hb,show zO cs.length (hi||ho) w=false by unfold zO;rw[hk,hg];rfl];rfl
   cases hch:WG w with
   |false=>
    simp only[WX,W0,q8];exact⟨cs.length-(i+1),by omega,GOOD (by rw[hch];rfl) (X1 (G1 (X1 (G2 (bA (br (X1 (G2 (G1 (bf (X4 (X2 []))))))))))))⟩
   |true=>
    cases hD:decide (1<cs.length)with
    |true=>
     have d2:=(S3 cs.length).trans hD;rw[BAD (by rw[hch,hD];rfl)]at hQ;simp only[WX,W0,A5',n1,d2];exact hQ (X2 (G1 (bf (bA (br (X8 (X4 []))))))) _ _ g4
    |false=>
     have d2:=(S3 cs.length).trans hD;cases hi with
     |true=>
      rw[BAD (by rw[hch];simp)]at hQ;simp only[WX,W0,A5',n1,d2];exact hQ (X2 (G1 (bf (bA (br (X8 (X4 []))))))) _ _ g4
     |false=>
      cases ho with
      |true=>
       rw[BAD (by rw[hch];simp)]at hQ;simp only[WX,W0,A5',n1,d2];exact hQ (X2 (G1 (bf (bA (br (X8 (X4 []))))))) _ _ g4
      |false=>
       simp only[WX,W0,A5',n1,d2,q8];exact⟨cs.length-(i+1),by omega,GOOD (by rw[hD];simp) (X1 (G1 (X1 (G2 (bA (br (X1 (G2 (G1 (bf (X4 (X2 []))))))))))))⟩
 ·obtain rfl:i=cs.length:=by omega
  have d1:decide ((cs.length:Int)<(cs.length:Int))=false:=af (by omega);rw[cj]at hb;simp only[WX,W0,d1];rw[hb]at hQ;exact hQ (X2 (G1 (bf (bA (br (X8 (X4 []))))))) _ _ gr1
end
end Go.Proofs.YtmbpllipombieaaDoor.Ev
