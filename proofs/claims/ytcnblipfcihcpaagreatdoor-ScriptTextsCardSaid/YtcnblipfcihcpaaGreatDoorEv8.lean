/- What is proved here: pieces of the evaluator's soundness: if the evaluator comes to a value, the model's run comes to it, for every world and tape; no conditions beyond the hypotheses of each theorem. -/
import Derived.Test.YtcnblipfcihcpaaGreatDoorEv7
set_option linter.unusedSimpArgs false
set_option linter.unusedVariables false
set_option linter.defProp false
set_option maxRecDepth 10000
set_option maxHeartbeats 8000000
namespace Go.Proofs.YtcnblipfcihcpaaGreatDoor.Ev
open Go
noncomputable section
variable{Φ:Nat→Option CF}{F:RO}{L:List uN}{M M0 M':Mem}{c c0 c' b ty i:Nat}{v vd vl va vp vi vt:V}{y:AC}{l:List UInt8}{α:Type}
abbrev bp8(u:List (Option V))(x2 x3 x4 x5:V):T:=(.n (.n (.n (aq u 31 15 47 7 39 23 55) (some x3) (aq u 35 19 51 11 43 27 59)) (uO u 1) (.n (aq u 33 17 49 9 41 25 57) (some x5) (aq u 37 21 53 13 45 29 61))) (uO u 0) (.n (.n (aq u 32 16 48 8 40 24 56) (some x4) (aq u 36 20 52 12 44 28 60)) (some x2) (.n (aq u 34 18 50 10 42 26 58) (uO u 6) (aq u 38 22 54 14 46 30 62))))
def aR4:CC:=(.reg [(aa a2 (.bx 51 5 z0)),(aa a3 (.bx 51 5 z1)),(qq a4 (.mv xF))])
def bu3:=wu aR4.eq_1
def aR5:CC:=(.reg [(qq a6 (.fa 0 z2)),(qq a7 (.ld1 z6)),(qq a8 (.fa 0 z3)),(qq a9 (.ld1 z8)),(qq dp (.bi .neq z7 z9)),(qq dk (.mv dx)),(aH dy (.fa 1 z2) dk),(aH dN (.ld1 dX) dk),(aH dL (.fa 1 z3) dk),(aH dS (.ld1 eu) dk),(aH dY (.bi .neq dG dM) dk),(qq eE (.pk dC xT eF)),(qq dT (.mv eD)),(aH eG (.fa 2 z2) dT),(aH fF (.ld1 fS) dT),(aH eR (.fa 2 z3) dT),(aH fv (.ld1 gv) dT),(aH fl (.bi .neq fD gb) dT),(qq dU (.pk fm xT gH)),(qq eV (.mv gM)),(aH eb (.fa 3 z2) eV),(aH fG (.ld1 gw) eV),(aH gi (.bs gy) eV),(aH gg (.fa 3 z3) eV),(aH gQ (.ld1 iA) eV),(aH j4 (.bs iE) eV),(aH gj (.bi .neq iz jh) eV),(qq iG (.pk gO xT jL)),(qq fT (.mv kz)),(aH j5 (.fa 4 z2) fT),(aH kv (.ld1 kD) fT),(aH jq (.ln .slice ll) fT),(aH gR (.fa 4 z3) fT),(aH j6 (.ld1 kW) fT),(aH jr (.ln .slice lh) fT),(aH kF (.bi .neq kr lm) fT),(qq jM (.pk kC xT lq))])
def cW4:=wu aR5.eq_1
def aR6:CC:=(.reg [(qq a4 (.mv xF))])
def cW5:=wu aR6.eq_1
def aR7:CC:=(.cond lr (.seq aR6 .ret) .skip)
def cW6:=wu aR7.eq_1
def aR8:CC:=(.reg [(qq a5 (.mv (x6 0)))])
def cW7:=wu aR8.eq_1
def aR9:CC:=(.reg [(qq j7 (.mv z5)),(qq ky (.fa 4 z2)),(qq js (.ld1 ny)),(qq kX (.ln .slice nG)),(qq kY (.bi .lss mW oD))])
def cW8:=wu aR9.eq_1
def aS0:CC:=(.seq aR9 (.cond nA .skip (.exit 0)))
def cW9:=wu aS0.eq_1
def aS1:CC:=(.dreg 11 [(0,0,(qq nC (.fa 4 z2))),(1,1,(qq kG (.ld1 oF))),(2,0,(qq kH (.mv z5))),(3,7,(qq j8 (.iaS 3 pl pS))),(4,15,(qq nK (.ldn 3 pm))),(5,0,(qq nL (.fa 4 z3))),(6,32,(qq kI (.ld1 qO))),(7,0,(qq lx (.mv z5))),(8,224,(qq lT (.iaS 3 pn qT))),(9,480,(qq qa (.ldn 3 qU))),(10,1023,(qq oI (.eq true (.agg [(0,.int),(1,.int),(2,.int)]) false pU sB)))])
def cX0:=wu aS1.eq_1
def aS2:CC:=(.reg [(qq a4 (.mv xF))])
def cX1:=wu aS2.eq_1
def TE:CC:=(.cond sw (.seq aS2 .ret) .skip)
def bX1:=wu TE.eq_1
def TF:CC:=(.reg [(qq kB (.mv z5)),(qq iB (.bi .add oE (x6 1))),(qq a5 (.mv nH))])
def bX2:=wu TF.eq_1
def TG:CC:=(.loop (.seq aS0 (.seq (.block 1 (.seq aS1 TE)) TF)))
def bX3:=wu TG.eq_1
def TH:CC:=(.reg [(qq a4 (.mv xT))])
def bX4:=wu TH.eq_1
def TI:CC:=(.seq (.seq aR5 aR7) (.seq (.seq aR8 (.block 0 TG)) (.seq TH .ret)))
def ZR:=wu TI.eq_1
def c31:CF:= .mk 6 [.t a4] (.seq aR4 TI)
theorem e31(v0 v1:V):aU 6 [v0,v1]=(.n (.n lj (some v1) lj) (some v0) mM):=rfl
def B31:=ai @e31 (ai @bu3 (ai @cW4 (ai @cW5 (ai @cW6 (ai @cW7 (ai @cW8 (ai @cW9 (ai @cX0 (ai @cX1 (ai @bX1 (ai @bX2 (ai @bX3 (ai @bX4 (@ZR))))))))))))))
def aK8:CC:=(.reg [(aa a2 (.bx 51 5 z0)),(qq a4 (.mv (x6 0)))])
def bs6:=wu aK8.eq_1
def aK9:CC:=(.reg [(qq a5 (.fa 2 z2)),(qq a6 (.ld1 z5)),(qq a7 (.ln .str z6)),(qq a8 (.mv z1)),(qq a9 (.bi .add z8 (x6 1))),(qq dp (.mn false z7 [z9])),(qq dk (.fa 3 z2)),(qq dy (.ld1 dC)),(qq dN (.ln .slice dX)),(qq dL (.mv z1)),(qq dS (.bi .add eu (x6 1))),(qq dY (.mn false dG [dM])),(qq eE (.bi .add dx eF)),(qq dT (.fa 4 z2)),(qq eG (.ld1 fm)),(qq fF (.ln .slice fS)),(qq eR (.mv z1)),(qq fv (.bi .add gv (x6 1))),(qq fl (.mn false fD [gb])),(qq dU (.bi .add eD gH)),(qq a4 (.mv gM))])
def cV0:=wu aK9.eq_1
def c15:CF:= .mk 5 [.t a4] (.seq aK8 (.seq aK9 .ret))
theorem e15(v0 v1:V):aU 5 [v0,v1]=(.n (.n iy (some v1) iy) (some v0) lj):=rfl
def B15:=ai @e15 (ai @bs6 (@cV0))
theorem r31(h:Φ 31=some c31){vd' vl':V}(ok:cO F M c)(hlen:y.ls.length≤30000)(hdl:y.dt.length≤100000)(sd:fC F M c vd y.dt)(sl:bG F M c 3 vl (cY y.ls))(sd':fC F M c vd' y.dt)(sl':bG F M c 3 vl' (cY y.ls)):
 Calls Φ F 31 [sE y vd vl,sE y vd' vl'] M c fun r M' c'=>r= .b true∧Gr c M c' M':=by
 refine ax h ?_
 unfold sE
 obtain⟨o1,o2,o1003⟩:=aK sd
 obtain⟨o3,o1005,o1006⟩:=aK sl
 obtain⟨p1,p2,p3⟩:=aK sd'
 obtain⟨p4,p5,p6⟩:=aK sl'
 have g1:=(Gr.refl ok).set c (au 51 [.i .i64 y.k,.i .i64 y.a,sV y.tx,vd,vl]) (ak _) (aD _) (aA _)
 have g2:=g1.set (c+1) (au 51 [.i .i64 y.k,.i .i64 y.a,sV y.tx,vd',vl']) (by omega) (aD _) (aA _)
 have ok2:=g2.ok ok
 have b0:((M.set c (au 51 [.i .i64 y.k,.i .i64 y.a,sV y.tx,vd,vl])).set (c+1) (au 51 [.i .i64 y.k,.i .i64 y.a,sV y.tx,vd',vl'])).get c=some (au 51 [.i .i64 y.k,.i .i64 y.a,sV y.tx,vd,vl]):=(az _ _ (by omega)).trans (am _ _ _)
 have b1:((M.set c (au 51 [.i .i64 y.k,.i .i64 y.a,sV y.tx,vd,vl])).set (c+1) (au 51 [.i .i64 y.k,.i .i64 y.a,sV y.tx,vd',vl'])).get (c+1)=some (au 51 [.i .i64 y.k,.i .i64 y.a,sV y.tx,vd',vl']):=am _ _ _
 have sdX:=sd.grow g2
 have slX:=sl.grow g2
 have sdX':=sd'.grow g2
 have slX':=sl'.grow g2
 simp only[WX,Nat.reduceAdd,e31,bu3,ZR,gq,o1,o1006,p1,p6]
 generalize(M.set c (au 51 [.i .i64 y.k,.i .i64 y.a,sV y.tx,vd,vl])).set (c+1) (au 51 [.i .i64 y.k,.i .i64 y.a,sV y.tx,vd',vl'])=M1 at g2 ok2 b0 b1 sdX slX sdX' slX'⊢
 have l0:load1 F M1 c 0=some (.i .i64 y.k):=aj b0 0
 have l1:load1 F M1 c 1=some (.i .i64 y.a):=aj b0 1
 have l2:load1 F M1 c 2=some (sV y.tx):=aj b0 2
 have l1003:load1 F M1 c 3=some vd:=aj b0 3
 have l3:load1 F M1 c 4=some vl:=aj b0 4
 have k0:load1 F M1 (c+1) 0=some (.i .i64 y.k):=aj b1 0
 have k1:load1 F M1 (c+1) 1=some (.i .i64 y.a):=aj b1 1
 have k2:load1 F M1 (c+1) 2=some (sV y.tx):=aj b1 2
 have k3:load1 F M1 (c+1) 3=some vd':=aj b1 3
 have k4:load1 F M1 (c+1) 4=some vl':=aj b1 4
 have d1:decide (y.k≠y.k)=false:=ah (by simp)
 have d2:decide (y.a≠y.a)=false:=ah (by simp)
 have e1003:=vK y.tx y.tx
 rw[af rfl,Bool.not_true]at e1003
 have e3:=vK y.dt y.dt
 rw[af rfl,Bool.not_true]at e3
 have bs1:=ri sdX
 have bs2:=ri sdX'
 have nl:=slX.len
 have nl':=slX'.len
 rw[aL]at nl nl'
 have d5:decide ((y.ls.length:Int)≠(y.ls.length:Int))=false:=ah (by simp)
 simp only[WX,B31,l0,l1,l2,l1003,l3,k0,k1,k2,k3,k4,d1,d2,e1003,e3,bs1,bs2,nl,nl',d5]
 obtain⟨I,hI⟩:∃I:Nat→St→Prop,∀n s',I n s'↔(∃(i c1:Nat) (u:List (Option V)),n=y.ls.length-i∧i≤y.ls.length∧c+1+1≤c1∧s'= .mk ((bp8 u (.p c 0) (.p (c+1) 0) (.b false) (.i .i64 (i:Int)))) [] M1 c1):=⟨fun n s'=>_,fun _ _=>Iff.rfl⟩
 refine bD I ?_ y.ls.length _ ((hI _ _).2 ⟨0,c+1+1,(X2 (G4 (cw (cj (X8 (X1 [])))))),rfl,aE _,ak _,rfl⟩)
 intro n s' hIs
 obtain⟨i,c1,u,rfl,hi,hc1,rfl⟩:=(hI _ _).1 hIs
 clear hIs
 have q8:bX .add (.i .i64 (i:Int)) (.i .i64 1)=some (.i .i64 ((i+1:Nat):Int)):=by rw[aN _ _ (by omega) (by omega)];simp
 by_cases hlt:i<y.ls.length
 ·have d6:decide ((i:Int)<(y.ls.length:Int))=true:=af (by omega);obtain⟨pb,po,hpb,hia,hld⟩:=slX.at i (by rw[aL];exact hlt);obtain⟨pb',po',hpb',hia',hld'⟩:=slX'.at i (by rw[aL];exact hlt);have hia:=hia .i64;have hia':=hia' .i64;have hge:(cY y.ls)[i]'(by rw[aL];exact hlt)=[.i .i64 y.ls[i].1,.i .i64 y.ls[i].2.1,.i .i64 y.ls[i].2.2]:=List.getElem_map ..;rw[hge]at hld hld';have hld:=hld.load (by simp);have hld':=hld'.load (by simp);generalize y.ls[i]=x at hld hld';obtain⟨x1,x2,x3⟩:=x;have hld:loadN F M1 pb po 3=some [.i .i64 x1,.i .i64 x2,.i .i64 x3]:=hld;have hld':loadN F M1 pb' po' 3=some [.i .i64 x1,.i .i64 x2,.i .i64 x3]:=hld';have z1:decide (x1=x1)=true:=af rfl;have z2:decide (x2=x2)=true:=af rfl;have z3:decide (x3=x3)=true:=af rfl;have hfr:=ok2.free;simp only[WX,B31,l3,k4,nl,d6,hia,hia',hld,hld',q8];exact⟨y.ls.length-(i+1),by omega,(hI _ _).2 ⟨i+1,_,(X2 (G4 (cw (cj (X8 (X1 [])))))),rfl,hlt,by omega,rfl⟩⟩
 ·obtain rfl:i=y.ls.length:=by omega
  have d6:decide ((y.ls.length:Int)<(y.ls.length:Int))=false:=ah (by omega);simp only[WX,B31,l3,nl,d6];exact g2.up (by omega)
theorem r15(h:Φ 15=some c15)(ok:cO F M c)(sd:fC F M c vd y.dt)(sl:bG F M c 3 vl (cY y.ls)):
 Calls Φ F 15 [sE y vd vl,.i .i64 20000] M c fun r M' c'=>r= .i .i64 ((min y.tx.length 20001+min y.dt.length 20001+min y.ls.length 20001:Nat):Int)∧Gr c M c' M':=by
 refine ax h ?_
 unfold sE
 obtain⟨o1,o2,o1003⟩:=aK sd
 obtain⟨o3,o1005,o1006⟩:=aK sl
 have g1:=(Gr.refl ok).set c (au 51 [.i .i64 y.k,.i .i64 y.a,sV y.tx,vd,vl]) (ak _) (aD _) (aA _)
 have b0:(M.set c (au 51 [.i .i64 y.k,.i .i64 y.a,sV y.tx,vd,vl])).get c=some (au 51 [.i .i64 y.k,.i .i64 y.a,sV y.tx,vd,vl]):=am _ _ _
 simp only[WX,Nat.reduceAdd,e15,bs6,gq,o1,o1006]
 generalize M.set c (au 51 [.i .i64 y.k,.i .i64 y.a,sV y.tx,vd,vl])=M1 at g1 b0⊢
 have l2:load1 F M1 c 2=some (sV y.tx):=aj b0 2
 have l1003:load1 F M1 c 3=some vd:=aj b0 3
 have l3:load1 F M1 c 4=some vl:=aj b0 4
 have q1:bX .add (.i .i64 20000) (.i .i64 1)=some (.i .i64 ((20001:Nat):Int)):=by rw[show(.i .i64 20000:V)= .i .i64 ((20000:Nat):Int)from rfl,show(.i .i64 1:V)= .i .i64 ((1:Nat):Int)from rfl,aN _ _ (by omega) (by omega)];rfl
 have n3:=sd.len
 have n4:=sl.len
 rw[aL]at n4
 have a1:=uW y.tx.length 20001
 have a2:=uW y.dt.length 20001
 have a3:=uW y.ls.length 20001
 have s1:bX .add (.i .i64 ((min y.tx.length 20001:Nat):Int)) (.i .i64 ((min y.dt.length 20001:Nat):Int))=some (.i .i64 ((min y.tx.length 20001+min y.dt.length 20001:Nat):Int)):=by rw[aN _ _ (by omega) (by omega)];rfl
 have s2:bX .add (.i .i64 ((min y.tx.length 20001+min y.dt.length 20001:Nat):Int)) (.i .i64 ((min y.ls.length 20001:Nat):Int))=some (.i .i64 ((min y.tx.length 20001+min y.dt.length 20001+min y.ls.length 20001:Nat):Int)):=by rw[aN _ _ (by omega) (by omega)];rfl
 simp only[WX,B15,l2,l1003,l3,n3,n4,q1,bq5,a1,a2,a3,s1,s2]
 exact g1
abbrev bp9(u:List (Option V))(x1 x2 x4 x5:V):T:=(.n (.n (.n (.n (aq u 63 31 95 15 79 47 111) (uO u 7) (aq u 71 39 103 23 87 55 119)) (uO u 3) (.n (aq u 67 35 99 19 83 51 115) (uO u 11) (aq u 75 43 107 27 91 59 123))) (some x1) (.n (.n (aq u 65 33 97 17 81 49 113) (uO u 9) (aq u 73 41 105 25 89 57 121)) (some x5) (.n (aq u 69 37 101 21 85 53 117) (uO u 13) (aq u 77 45 109 29 93 61 125)))) (uO u 0) (.n (.n (.n (aq u 64 32 96 16 80 48 112) (uO u 8) (aq u 72 40 104 24 88 56 120)) (some x4) (.n (aq u 68 36 100 20 84 52 116) (uO u 12) (aq u 76 44 108 28 92 60 124))) (some x2) (.n (.n (aq u 66 34 98 18 82 50 114) (uO u 10) (aq u 74 42 106 26 90 58 122)) (uO u 6) (.n (aq u 70 38 102 22 86 54 118) (uO u 14) (aq u 78 46 110 30 94 62 126)))))
abbrev cP5(u:List (Option V))(x1 x2 x4 x5 x7:V):T:=(.n (.n (.n (.n (aq u 63 31 95 15 79 47 111) (some x7) (aq u 71 39 103 23 87 55 119)) (uO u 3) (.n (aq u 67 35 99 19 83 51 115) (uO u 11) (aq u 75 43 107 27 91 59 123))) (some x1) (.n (.n (aq u 65 33 97 17 81 49 113) (uO u 9) (aq u 73 41 105 25 89 57 121)) (some x5) (.n (aq u 69 37 101 21 85 53 117) (uO u 13) (aq u 77 45 109 29 93 61 125)))) (uO u 0) (.n (.n (.n (aq u 64 32 96 16 80 48 112) (uO u 8) (aq u 72 40 104 24 88 56 120)) (some x4) (.n (aq u 68 36 100 20 84 52 116) (uO u 12) (aq u 76 44 108 28 92 60 124))) (some x2) (.n (.n (aq u 66 34 98 18 82 50 114) (uO u 10) (aq u 74 42 106 26 90 58 122)) (uO u 6) (.n (aq u 70 38 102 22 86 54 118) (uO u 14) (aq u 78 46 110 30 94 62 126)))))
abbrev cP6(u:List (Option V))(x1 x2 x4 x5 x6:V):T:=(.n (.n (.n (.n (aq u 63 31 95 15 79 47 111) (uO u 7) (aq u 71 39 103 23 87 55 119)) (uO u 3) (.n (aq u 67 35 99 19 83 51 115) (uO u 11) (aq u 75 43 107 27 91 59 123))) (some x1) (.n (.n (aq u 65 33 97 17 81 49 113) (uO u 9) (aq u 73 41 105 25 89 57 121)) (some x5) (.n (aq u 69 37 101 21 85 53 117) (uO u 13) (aq u 77 45 109 29 93 61 125)))) (uO u 0) (.n (.n (.n (aq u 64 32 96 16 80 48 112) (uO u 8) (aq u 72 40 104 24 88 56 120)) (some x4) (.n (aq u 68 36 100 20 84 52 116) (uO u 12) (aq u 76 44 108 28 92 60 124))) (some x2) (.n (.n (aq u 66 34 98 18 82 50 114) (uO u 10) (aq u 74 42 106 26 90 58 122)) (some x6) (.n (aq u 70 38 102 22 86 54 118) (uO u 14) (aq u 78 46 110 30 94 62 126)))))
def co1:CC:=(.reg [(aa a2 (.bx 31 6 z0)),(qq a4 (.mv xF))])
def cZ3:=wu co1.eq_1
def co2:CC:=(.reg [(qq a8 (.fa 0 z2)),(qq a9 (.fa 0 z8)),(qq dp (.fa 2 z9)),(qq dk (.ld1 dx)),(qq dy (.ln .slice dC)),(qq dN (.fa 0 z2)),(qq dL (.fa 0 dG)),(qq dS (.fa 3 eu)),(qq dY (.ld1 dM)),(qq eE (.ln .slice eF)),(qq dT (.bi .add dX eD)),(qq eG (.fa 0 z2)),(qq fF (.fa 4 fS)),(qq eR (.ld1 fD)),(qq fv (.ln .slice gv)),(qq fl (.bi .add fm gb)),(qq dU (.fa 5 z2)),(qq eV (.ld1 gM)),(qq eb (.ln .slice gO)),(qq fG (.bi .add gH gw)),(qq a5 (.mv gy))])
def dz3:=wu co2.eq_1
def co3:CC:=(.reg [(qq a6 (.mv (x6 0)))])
def dz4:=wu co3.eq_1
def co4:CC:=(.reg [(qq gi (.mv z6)),(qq gg (.fa 0 z2)),(qq gQ (.fa 0 iA)),(qq j4 (.fa 3 iE)),(qq gj (.ld1 jh)),(qq iG (.ln .slice jL)),(qq fT (.bi .lss iz kz)),(qq j5 (.mv kC)),(av kv (.mv z5) j5),(av jq (.mv z1) j5),(av gR (.bi .leq ll kr) j5),(qq j6 (.pk kD kW xF))])
def bZ9:=wu co4.eq_1
def co5:CC:=(.seq co4 (.cond lh .skip (.exit 0)))
def c00:=wu co5.eq_1
def co6:CC:=(.reg [(qq jM (.mv z5)),(qq j7 (.fa 0 z2)),(qq ky (.fa 0 mW)),(qq js (.fa 3 ny)),(qq kX (.ld1 nG)),(qq kY (.mv z6)),(qq kB (.iaS 1 oD nA)),(qq iB (.ld1 oE)),(qq nC (.ln .slice nH)),(qq kG (.mv z1)),(qq kH (.bi .add pl (x6 1))),(qq j8 (.mn false oF [pS])),(qq nK (.bi .add lr pm)),(qq a5 (.mv pU))])
def dz5:=wu co6.eq_1
def co7:CC:=(.reg [(qq jr (.mv z6)),(qq kF (.bi .add lm (x6 1))),(qq a6 (.mv lq))])
def dz6:=wu co7.eq_1
def co8:CC:=(.seq co3 (.block 0 (.loop (.seq co5 (.seq (.block 1 co6) co7)))))
def dz7:=wu co8.eq_1
def am0:CC:=(.reg [(qq a7 (.mv (x6 0)))])
def dz8:=wu am0.eq_1
def aW3:CC:=(.reg [(qq nL (.mv z7)),(qq kI (.fa 5 z2)),(qq lx (.ld1 pn)),(qq lT (.ln .slice qT)),(qq qa (.bi .lss qO qU)),(qq oI (.mv sB)),(av qb (.mv z5) oI),(av pq (.mv z1) oI),(av pj (.bi .leq ug sy) oI),(qq qc (.pk sw tC xF))])
def cZ4:=wu aW3.eq_1
def aW4:CC:=(.cond yA .skip (.exit 2))
def cZ5:=wu aW4.eq_1
def aW5:CC:=(.reg [(qq tH (.mv z5)),(qq qQ (.fa 5 z2)),(qq um (.ld1 xY)),(qq uo (.mv z7)),(qq qX (.iaS 5 ya yb)),(qq vE (.ldn 5 yc)),(qq y6 (.mv z1)),(ee y7 (.call 15 [Bz,zL])),(qq yl (.bi .add xX BB)),(qq a5 (.mv BC))])
def cZ6:=wu aW5.eq_1
def aW6:CC:=(.reg [(qq qd (.mv z7)),(qq tG (.bi .add uM (x6 1))),(qq a7 (.mv vn))])
def cZ7:=wu aW6.eq_1
def Jd:CC:=(.loop (.seq (.seq aW3 aW4) (.seq (.block 3 aW5) aW6)))
def cZ8:=wu Jd.eq_1
def Je:CC:=(.reg [(qq y8 (.mv z5)),(qq zT (.mv z1)),(qq BN (.bi .gtr BD Dp)),(qq a4 (.mv Gq))])
def cZ9:=wu Je.eq_1
def aW7:CC:=(.seq co8 (.seq (.seq am0 (.block 2 Jd)) (.seq Je .ret)))
def d00:=wu aW7.eq_1
def c4:CF:= .mk 7 [.t a4] (.seq co1 (.seq co2 aW7))
theorem e4(v0 v1:V):aU 7 [v0,v1]=(.n (.n mM (some v1) mM) (some v0) sc):=rfl
def B4:=ai @e4 (ai @cZ3 (ai @dz3 (ai @dz4 (ai @bZ9 (ai @c00 (ai @dz5 (ai @dz6 (ai @dz7 (ai @dz8 (ai @cZ4 (ai @cZ5 (ai @cZ6 (ai @cZ7 (ai @cZ8 (ai @cZ9 (@d00))))))))))))))))
structure SC where
 fr:Int
 se:Int
 ac:List (Int×Int×Int)
 pg:List (List UInt8)
 ini:List UInt8
 ys:List AC
variable{s:SC}
def cH(F:RO)(M:Mem)(c:Nat)(v:V)(ps:List (List UInt8)):Prop:=∃es:List (List V),bG F M c 1 v es∧es.length=ps.length∧ ∀i (h:i<es.length) (h':i<ps.length),∃w,es[i]=[w]∧fC F M c w ps[i]
def fE(F:RO)(M:Mem)(c:Nat)(v:V)(ys:List AC):Prop:=∃es:List (List V),bG F M c 5 v es∧es.length=ys.length∧ ∀i (h:i<es.length) (h':i<ys.length),∃vd vl,es[i]=[.i .i64 ys[i].k,.i .i64 ys[i].a,sV ys[i].tx,vd,vl]∧fC F M c vd ys[i].dt∧bG F M c 3 vl (cY ys[i].ls)
theorem cH.grow{ps:List (List UInt8)}(h:cH F M c v ps)(g:Gr c M c' M'):cH F M' c' v ps:=by
 obtain⟨es,h1,h2,h3⟩:=h
 exact⟨es,h1.grow g,h2,fun i hi hi'=>let⟨w,e,s⟩:=h3 i hi hi';⟨w,e,s.grow g⟩⟩
theorem fE.grow{ys:List AC}(h:fE F M c v ys)(g:Gr c M c' M'):fE F M' c' v ys:=by
 obtain⟨es,h1,h2,h3⟩:=h
 exact⟨es,h1.grow g,h2,fun i hi hi'=>let⟨vd,vl,e,s,t⟩:=h3 i hi hi';⟨vd,vl,e,s.grow g,t.grow g⟩⟩
theorem cH.len{ps:List (List UInt8)}(h:cH F M c v ps):l6 v=some (.i .i64 (ps.length:Int)):=by
 obtain⟨es,h1,h2,_⟩:=h
 rw[h1.len,h2]
theorem fE.len{ys:List AC}(h:fE F M c v ys):l6 v=some (.i .i64 (ys.length:Int)):=by
 obtain⟨es,h1,h2,_⟩:=h
 rw[h1.len,h2]
theorem cH.at{ps:List (List UInt8)}(h:cH F M c v ps)(i:Nat)(hi:i<ps.length):∃b o w,b<c∧gf 1 v (.i .i64 (i:Int))=some (.p b o)∧load1 F M b o=some w∧fC F M c w ps[i]:=by
 obtain⟨es,h1,h2,h3⟩:=h
 obtain⟨w,e,s⟩:=h3 i (by omega) hi
 obtain⟨b,o,g1,g2,g3⟩:=h1.one i (by omega) e
 exact⟨b,o,w,g1,g2 _,g3,s⟩
theorem fE.at{F:RO}{M:Mem}{c:Nat}{v:V}{ys:List AC}(h:fE F M c v ys)(i:Nat)(hi:i<ys.length):∃b o vd vl,b<c∧gf 5 v (.i .i64 (i:Int))=some (.p b o)∧loadN F M b o 5=some [.i .i64 ys[i].k,.i .i64 ys[i].a,sV ys[i].tx,vd,vl]∧fC F M c vd ys[i].dt∧bG F M c 3 vl (cY ys[i].ls):=by
 obtain⟨es,h1,h2,h3⟩:=h
 obtain⟨vd,vl,e,s,t⟩:=h3 i (by omega) hi
 obtain⟨b,o,g1,g2,g3⟩:=h1.at i (by omega)
 rw[e]at g3
 exact⟨b,o,vd,vl,g1,g2 _,g3.load (by simp),s,t⟩
def qV(F:RO)(M:Mem)(c:Nat)(va vp vi vt:V)(s:SC):Prop:=bG F M c 3 va (cY s.ac)∧cH F M c vp s.pg∧fC F M c vi s.ini∧fE F M c vt s.ys
theorem qV.grow(h:qV F M c va vp vi vt s)(g:Gr c M c' M'):qV F M' c' va vp vi vt s:=⟨h.1.grow g,h.2.1.grow g,h.2.2.1.grow g,h.2.2.2.grow g⟩
def tu(l:List Nat):Nat:=l.foldr (· + ·) 0
theorem Z7(l:List Nat)(x:Nat):tu (l++[x])=tu l+x:=by
 induction l with
 |nil=>show x+0=0+x;omega
 |cons y l ih=>show y+tu (l++[x])=y+tu l+x;rw[ih];omega
def y9(y:AC):Nat:=min y.tx.length 20001+min y.dt.length 20001+min y.ls.length 20001
def Dm(p:List UInt8):Nat:=min p.length 20001
theorem bL0(y:AC):y9 y≤60003:=by unfold y9;omega
theorem bL1(y:List UInt8):Dm y≤20001:=by unfold Dm;omega
def Cq(s:SC):Nat:=s.ac.length+s.pg.length+s.ini.length+s.ys.length+tu (s.pg.map Dm)+tu (s.ys.map y9)
theorem D6(f:α→Nat)(l:List α)(i:Nat)(h:i<l.length):tu ((l.take (i+1)).map f)=tu ((l.take i).map f)+f l[i]:=by
 rw[List.take_succ_eq_append_getElem h,List.map_append]
 exact Z7 _ _
theorem dj4(h15:Φ 15=some c15){n0 n1:Nat}{x0 x1:V}(ok:cO F M0 c0)(g0:Gr c0 M0 c M)(b0:M.get b=some (au 31 [x0,x1,va,vp,vi,vt]))(hb:b<c)(hs:fE F M c vt s.ys)(hn:n1≤20000→n1=n0)(hn2:n1≤1000000000000000)(z4:s.ys.length≤140737488355328)(u:List (Option V)):
 Wp (.seq (.seq am0 (.block 2 Jd)) (.seq Je .ret)) (K Φ none 4 F) (.mk ((bp9 u (.i .i64 20000) (.p b 0) (.b false) (.i .i64 (n1:Int)))) [] M c) (dA F [.t (.r (.l .h))] fun r M' c'=>(∃b,r= .b b∧(b=false→n0+tu (s.ys.map y9)≤20000))∧Gr c0 M0 c' M'):=by
 simp only[WX,B4]
 obtain⟨I,hI⟩:∃I:Nat→St→Prop,∀n s',I n s'↔(∃(i n2 c1:Nat) (M1:Mem) (u:List (Option V)),n=s.ys.length-i∧i≤s.ys.length∧s'= .mk ((cP5 u (.i .i64 20000) (.p b 0) (.b false) (.i .i64 (n2:Int)) (.i .i64 (i:Int)))) [] M1 c1∧Gr c M c1 M1∧n2≤1000000000000000∧(n2≤20000→n2=n0+tu ((s.ys.take i).map y9))):=⟨fun n s'=>_,fun _ _=>Iff.rfl⟩
 refine bD I ?_ s.ys.length _ ((hI _ _).2 ⟨0,n1,c,M,(X1 (G2 (X1 (G2 (X1 (G1 (bH (cw (cj (X4 (X2 (X1 [])))))))))))),rfl,aE _,rfl,Gr.refl (g0.ok ok),hn2,fun h=>by rw[List.take_zero,hn h];rfl⟩)
 intro n s' hIs
 obtain⟨i,n2,c1,M1,u,rfl,hi,rfl,g1,hn2,hn3⟩:=(hI _ _).1 hIs
 clear hIs
 have l5:load1 F M1 b 5=some vt:=by rw[g1.load1 hb];exact aj b0 5
 have hs1:=hs.grow g1
 have n5:=hs1.len
 have q8:bX .add (.i .i64 (i:Int)) (.i .i64 1)=some (.i .i64 ((i+1:Nat):Int)):=by rw[aN _ _ (by omega) (by omega)];simp
 have fin:∀(b:Bool),b=decide ((20000:Int)<(n2:Int))→(i=s.ys.length∨20000<n2)→(∃b',V.b b=V.b b'∧(b'=false→n0+tu (s.ys.map y9)≤20000)):=by
  intro b hb hor;refine⟨b,rfl,fun hf=>?_⟩;rw[hf]at hb;have h1:n2≤20000:=by
   have:=of_decide_eq_false hb.symm;omega
  rcases hor with rfl|h2
  ·have:=hn3 h1;rw[List.take_length]at this;omega
  ·omega
 by_cases hlt:i<s.ys.length
 ·have d1:decide ((i:Int)<(s.ys.length:Int))=true:=af (by omega);by_cases hle:n2≤20000
  ·have d2:decide ((n2:Int)≤20000)=true:=af (by omega);obtain⟨pb,po,vd,vl,hpb,hia,hld,sd,sl⟩:=hs1.at i hlt;simp only[WX,B4,l5,n5,d1,d2,hia,hld];refine aw ((r15 h15 (g1.ok (g0.ok ok)) sd sl).mono ?_);rintro r M2 c2 ⟨hr,g2⟩;have hr:r= .i .i64 (y9 s.ys[i]:Int):=hr;subst hr;have hm:=bL0 s.ys[i];have a1:bX .add (.i .i64 (n2:Int)) (.i .i64 (y9 s.ys[i]:Int))=some (.i .i64 ((n2+y9 s.ys[i]:Nat):Int)):=by rw[aN _ _ (by omega) (by omega)];rfl
   simp only[WX,B4,a1,q8];exact⟨s.ys.length-(i+1),by omega,(hI _ _).2 ⟨i+1,_,c2,M2,(X1 (G2 (X1 (G2 (X1 (G1 (bH (cw (cj (X4 (X2 (X1 [])))))))))))),rfl,hlt,rfl,g1.trans g2,by omega,fun h=>by rw[D6 _ _ _ hlt,hn3 hle,Nat.add_assoc]⟩⟩
  ·have d2:decide ((n2:Int)≤20000)=false:=ah (by omega);simp only[WX,B4,l5,n5,d1,d2];exact⟨fin _ rfl (.inr (by omega)),g0.trans g1⟩
 ·obtain rfl:i=s.ys.length:=by omega
  have d1:decide ((s.ys.length:Int)<(s.ys.length:Int))=false:=ah (by omega);simp only[WX,B4,l5,n5,d1];exact⟨fin _ rfl (.inl rfl),g0.trans g1⟩
theorem r4(h:Φ 4=some c4)(h15:Φ 15=some c15)(ok:cO F M c)(hs:qV F M c va vp vi vt s)(z1:s.ac.length≤140737488355328)(z2:s.pg.length≤140737488355328)(z3:s.ini.length≤140737488355328)(z4:s.ys.length≤140737488355328):
 Calls Φ F 4 [.g [.i .i64 s.fr,.i .i64 s.se,va,vp,vi,vt],.i .i64 20000] M c fun r M' c'=>(∃b,r= .b b∧(b=false→Cq s≤20000))∧Gr c M c' M':=by
 refine ax h ?_
 obtain⟨o1,o2,o3⟩:=aK hs.1
 obtain⟨ep,sp,_⟩:=hs.2.1
 obtain⟨p1,p2,p3⟩:=aK sp
 obtain⟨q1,q2,q3⟩:=aK hs.2.2.1
 obtain⟨et,st,_⟩:=hs.2.2.2
 obtain⟨t1,t2,t3⟩:=aK st
 have g1:=(Gr.refl ok).set c (au 31 [.i .i64 s.fr,.i .i64 s.se,va,vp,vi,vt]) (ak _) (aD _) (aA _)
 have b0:(M.set c (au 31 [.i .i64 s.fr,.i .i64 s.se,va,vp,vi,vt])).get c=some (au 31 [.i .i64 s.fr,.i .i64 s.se,va,vp,vi,vt]):=am _ _ _
 have hs1:=hs.grow g1
 simp only[WX,Nat.reduceAdd,e4,cZ3,o1,p1,q1,t3]
 generalize M.set c (au 31 [.i .i64 s.fr,.i .i64 s.se,va,vp,vi,vt])=M1 at g1 b0 hs1⊢
 have cW:=g1.ok ok
 have l2:load1 F M1 c 2=some va:=aj b0 2
 have l3:load1 F M1 c 3=some vp:=aj b0 3
 have l4:load1 F M1 c 4=some vi:=aj b0 4
 have l5:load1 F M1 c 5=some vt:=aj b0 5
 have n2:=hs1.1.len
 have n3:=hs1.2.1.len
 have n4:=hs1.2.2.1.len
 have n5:=hs1.2.2.2.len
 rw[aL]at n2
 obtain⟨NA,hA⟩:∃N,N=s.ac.length+s.pg.length:=⟨_,rfl⟩
 obtain⟨NB,hB⟩:∃N,N=NA+s.ini.length:=⟨_,rfl⟩
 obtain⟨N0,hN⟩:∃N,N=NB+s.ys.length:=⟨_,rfl⟩
 have a1:bX .add (.i .i64 (s.ac.length:Int)) (.i .i64 (s.pg.length:Int))=some (.i .i64 (NA:Int)):=by rw[aN _ _ (by omega) (by omega),hA];rfl
 have a2:bX .add (.i .i64 (NA:Int)) (.i .i64 (s.ini.length:Int))=some (.i .i64 (NB:Int)):=by rw[aN _ _ (by omega) (by omega),hB];rfl
 have a3:bX .add (.i .i64 (NB:Int)) (.i .i64 (s.ys.length:Int))=some (.i .i64 (N0:Int)):=by rw[aN _ _ (by omega) (by omega),hN];rfl
 simp only[WX,B4,l2,l3,l4,l5,n2,n3,n4,n5,a1,a2,a3]
 have hsp:=hs1.2.1
 obtain⟨I,hI⟩:∃I:Nat→St→Prop,∀n s',I n s'↔(∃(i n2:Nat) (u:List (Option V)),n=s.pg.length-i∧i≤s.pg.length∧s'= .mk ((cP6 u (.i .i64 20000) (.p c 0) (.b false) (.i .i64 (n2:Int)) (.i .i64 (i:Int)))) [] M1 (c+1)∧n2≤1000000000000000∧(n2=N0+tu ((s.pg.take i).map Dm))):=⟨fun n s'=>_,fun _ _=>Iff.rfl⟩
 refine bD I ?_ s.pg.length _ ((hI _ _).2 ⟨0,N0,(X1 (G2 (X1 (G2 (G1 (bH (cw (cj (X8 []))))))))),rfl,aE _,rfl,by omega,by rw[List.take_zero];rfl⟩)
 intro n s' hIs
 obtain⟨i,n2,u,rfl,hi,rfl,hn2,hn3⟩:=(hI _ _).1 hIs
 clear hIs
 have q8:bX .add (.i .i64 (i:Int)) (.i .i64 1)=some (.i .i64 ((i+1:Nat):Int)):=by rw[aN _ _ (by omega) (by omega)];simp
 have fin:∀(u:List (Option V)),(n2≤20000→n2=N0+tu (s.pg.map Dm))→Wp (.seq (.seq am0 (.block 2 Jd)) (.seq Je .ret)) (K Φ none 4 F) (.mk ((bp9 u (.i .i64 20000) (.p c 0) (.b false) (.i .i64 (n2:Int)))) [] M1 (c+1)) (dA F [.t (.r (.l .h))] fun r M' c'=>(∃b,r= .b b∧(b=false→Cq s≤20000))∧Gr c M c' M'):=fun u hn=>by
  have:=dj4 h15 ok g1 b0 (aD _) hs1.2.2.2 hn hn2 z4 u;have e:Cq s=N0+tu (s.pg.map Dm)+tu (s.ys.map y9):=by unfold Cq;omega
  rw[e];exact this
 by_cases hlt:i<s.pg.length
 ·have d1:decide ((i:Int)<(s.pg.length:Int))=true:=af (by omega);by_cases hle:n2≤20000
  ·have d2:decide ((n2:Int)≤20000)=true:=af (by omega);obtain⟨pb,po,w,hpb,hia,hld,sd⟩:=hsp.at i hlt;have nw:=sd.len;have q1:bX .add (.i .i64 20000) (.i .i64 1)=some (.i .i64 ((20001:Nat):Int)):=by rw[show(.i .i64 20000:V)= .i .i64 ((20000:Nat):Int)from rfl,show(.i .i64 1:V)= .i .i64 ((1:Nat):Int)from rfl,aN _ _ (by omega) (by omega)];rfl
   have m1:Y2 false (.i .i64 (s.pg[i].length:Int)) (.i .i64 ((20001:Nat):Int))=some (.i .i64 (Dm s.pg[i]:Int)):=uW s.pg[i].length 20001;have hm:=bL1 s.pg[i];have a4:bX .add (.i .i64 (n2:Int)) (.i .i64 (Dm s.pg[i]:Int))=some (.i .i64 ((n2+Dm s.pg[i]:Nat):Int)):=by rw[aN _ _ (by omega) (by omega)];rfl
   simp only[WX,B4,l3,n3,d1,d2,hia,hld,nw,q1,bq5,m1,a4,q8];exact⟨s.pg.length-(i+1),by omega,(hI _ _).2 ⟨i+1,_,(X1 (G2 (X1 (G2 (G1 (bH (cw (cj (X8 []))))))))),rfl,hlt,rfl,by omega,by rw[D6 _ _ _ hlt,hn3,Nat.add_assoc]⟩⟩
  ·have d2:decide ((n2:Int)≤20000)=false:=ah (by omega);simp only[WX,bZ9,c00,l3,n3,d1,d2];rw[←bP,←bP];exact fin ((X1 (G2 (X1 (G2 (bH (cw (cj (X8 (X1 [])))))))))) (fun h=>absurd h hle)
 ·obtain rfl:i=s.pg.length:=by omega
  have d1:decide ((s.pg.length:Int)<(s.pg.length:Int))=false:=ah (by omega);rw[List.take_length]at hn3;simp only[WX,bZ9,c00,l3,n3,d1];rw[←bP,←bP];exact fin ((X1 (G2 (X1 (G2 (bH (cw (cj (X8 (X1 [])))))))))) (fun _=>hn3)
def aS9:CC:=(.reg [(aa a1 (.bx 75 3 z0)),(qq a2 (.mv xF))])
def aT0:CC:=(.reg [(qq a3 (.fa 0 z1)),(qq a4 (.ld1 z3)),(qq a5 (.bld [(.i .i64 0),(.i .i64 0)] [(0,1,z4),(1,1,(x6 256))])),(qq a6 (.fa 1 z1)),(qq a7 (.ld1 z6)),(qq a8 (.bld [(.i .i64 0),(.i .i64 0)] [(0,1,z7),(1,1,(x6 4096))])),(qq a9 (.fa 2 z1)),(qq dp (.ld1 z9)),(qq dk (.bld [(.i .i64 0),(.i .i64 0)] [(0,1,dx),(1,1,(x6 16))])),(aa dy (.bsl 114 3 2 [(.i .i64 0),(.i .i64 0)] [(0,z5),(2,z8),(4,dC)])),(ee dN (.call 55 [dX])),(qq a2 (.mv dG))])
def c35:CF:= .mk 4 [.t a2] (.seq aS9 (.seq aT0 .ret))
theorem e35(v0:V):aU 4 [v0]=(.n iy (some v0) iy):=rfl
def B35:=ai @e35 (ai (wu aS9.eq_1) (wu aT0.eq_1))
def aS7:CC:=(.reg [(aa a1 (.bx 75 3 z0)),(qq a2 (.mv xF))])
def aS8:CC:=(.reg [(qq a3 (.ldn 3 z1)),(ee a4 (.call 35 [z3])),(qq a5 (.un .not z4)),(qq a2 (.mv z5))])
def c34:CF:= .mk 3 [.t a2] (.seq aS7 (.seq aS8 .ret))
theorem e34(v0:V):aU 3 [v0]=(.n nF (some v0) nF):=rfl
def B34:=ai @e34 (ai (wu aS7.eq_1) (wu aS8.eq_1))
def b19:CC:=(.reg [(qq a4 (.mv (x6 0)))])
def b20:CC:=(.reg [(qq a6 (.mv z0)),(qq a7 (.ln .slice z6)),(qq a8 (.mv (x6 0)))])
def b21:CC:=(.reg [(qq a9 (.bi .lss z8 z7))])
def b22:CC:=(.reg [(qq dp (.mv z8)),(qq a5 (.mv dx))])
def b23:CC:=(.reg [(qq dk (.mv z1)),(qq dy (.mv z0)),(qq dN (.mv z5)),(qq dL (.iaS 3 dX dG)),(qq dS (.ldn 3 eu)),(ee dY (.cv dC [dM]))])
def b24:CC:=(.reg [(qq eE (.mv z5)),(qq a4 (.mv eD))])
def b26:CC:=(.seq b23 (.cond eF (.seq b24 .ret) .skip))
def b27:CC:=(.reg [(qq dT (.bi .add z8 (x6 1))),(qq a8 (.mv fm))])
def b28:CC:=(.seq (.cond z9 .skip (.exit 0)) (.seq (.block 1 (.seq b22 b26)) b27))
def UX:CC:=(.reg [(qq a4 (.mv (x6 (-1))))])
def UY:CC:=(.seq (.seq b20 (.block 0 (.loop (.seq b21 b28)))) (.seq UX .ret))
def c62:CF:= .mk 5 [.t a4] (.seq b19 UY)
theorem e62(v0 v1:V):aU 5 [v0,v1]=(.n (.n iy (some v1) iy) (some v0) lj):=rfl
def B62:=ai @e62 (ai (wu b19.eq_1) (ai (wu b20.eq_1) (ai (wu b21.eq_1) (ai (wu b22.eq_1) (ai (wu b23.eq_1) (ai (wu b24.eq_1) (ai (wu b26.eq_1) (ai (wu b27.eq_1) (ai (wu b28.eq_1) (ai (wu UX.eq_1) (wu UY.eq_1)))))))))))
def aS5:CC:=(.reg [(qq a4 (.mv xF))])
def aS6:CC:=(.reg [(qq a5 (.mv z0)),(qq a6 (.mv z1)),(ee a7 (.call 62 [z5,z6])),(qq a8 (.bi .geq z7 (x6 0))),(qq a4 (.mv z8))])
def c33:CF:= .mk 4 [.t a4] (.seq aS5 (.seq aS6 .ret))
theorem e33(v0 v1:V):aU 4 [v0,v1]=(.n (.n nF (some v1) nF) (some v0) iy):=rfl
def B33:=ai @e33 (ai (wu aS5.eq_1) (wu aS6.eq_1))
def aT3:CC:=(.reg [(qq a3 (.mv z0)),(qq a4 (.ln .slice z3)),(qq a5 (.bi .gtr z4 (x6 8192))),(qq a2 (.mv z5))])
def aT4:CC:=(.seq (.reg [(qq a2 (.mv xF))]) (.seq aT3 .ret))
def c37:CF:= .mk 3 [.t a2] aT4
theorem e37(v0:V):aU 3 [v0]=(.n nF (some v0) nF):=rfl
def B37:=ai @e37 (ai (wu aT3.eq_1) (wu aT4.eq_1))
def b29:CC:=(.reg [(qq a4 (.mv (x6 0)))])
def b30:CC:=(.reg [(qq a6 (.mv z0)),(qq a7 (.ln .slice z6)),(qq a8 (.mv (x6 0)))])
def b31:CC:=(.reg [(qq a9 (.bi .lss z8 z7))])
def b32:CC:=(.reg [(qq dp (.mv z8)),(qq a5 (.mv dx))])
def b33:CC:=(.reg [(qq dk (.mv z1)),(qq dy (.mv z0)),(qq dN (.mv z5)),(qq dL (.iaS 1 dX dG)),(qq dS (.ld1 eu)),(ee dY (.cv dC [dM]))])
def b34:CC:=(.reg [(qq eE (.mv z5)),(qq a4 (.mv eD))])
def b35:CC:=(.seq b33 (.cond eF (.seq b34 .ret) .skip))
def b36:CC:=(.reg [(qq dT (.bi .add z8 (x6 1))),(qq a8 (.mv fm))])
def b37:CC:=(.seq (.cond z9 .skip (.exit 0)) (.seq (.block 1 (.seq b32 b35)) b36))
def UZ:CC:=(.reg [(qq a4 (.mv (x6 (-1))))])
def V0:CC:=(.seq (.seq b30 (.block 0 (.loop (.seq b31 b37)))) (.seq UZ .ret))
def c63:CF:= .mk 5 [.t a4] (.seq b29 V0)
theorem e63(v0 v1:V):aU 5 [v0,v1]=(.n (.n iy (some v1) iy) (some v0) lj):=rfl
def B63:=ai @e63 (ai (wu b29.eq_1) (ai (wu b30.eq_1) (ai (wu b31.eq_1) (ai (wu b32.eq_1) (ai (wu b33.eq_1) (ai (wu b34.eq_1) (ai (wu b35.eq_1) (ai (wu b36.eq_1) (ai (wu b37.eq_1) (ai (wu UZ.eq_1) (wu V0.eq_1)))))))))))
def aT1:CC:=(.reg [(qq a4 (.mv xF))])
def aT2:CC:=(.reg [(qq a5 (.mv z0)),(qq a6 (.mv z1)),(ee a7 (.call 63 [z5,z6])),(qq a8 (.bi .geq z7 (x6 0))),(qq a4 (.mv z8))])
def c36:CF:= .mk 4 [.t a4] (.seq aT1 (.seq aT2 .ret))
theorem e36(v0 v1:V):aU 4 [v0,v1]=(.n (.n nF (some v1) nF) (some v0) iy):=rfl
def B36:=ai @e36 (ai (wu aT1.eq_1) (wu aT2.eq_1))
def aS3:CC:=(.reg [(qq a4 (.mv xF))])
def aS4:CC:=(.reg [(qq a5 (.mv z0)),(qq a6 (.bi .sub z5 (x6 1))),(qq a7 (.bld [(.i .i64 0),(.i .i64 0)] [(0,1,z6),(1,1,(x6 255))])),(qq a8 (.mv z1)),(qq a9 (.bi .sub z8 (x6 1))),(qq dp (.bld [(.i .i64 0),(.i .i64 0)] [(0,1,z9),(1,1,(x6 4095))])),(aa dk (.bsl 114 2 2 [(.i .i64 0),(.i .i64 0)] [(0,z7),(2,dx)])),(ee dy (.call 55 [dC])),(qq a4 (.mv dX))])
def c32:CF:= .mk 4 [.t a4] (.seq aS3 (.seq aS4 .ret))
theorem e32(v0 v1:V):aU 4 [v0,v1]=(.n (.n nF (some v1) nF) (some v0) iy):=rfl
def B32:=ai @e32 (ai (wu aS3.eq_1) (wu aS4.eq_1))
structure BtP(Φ:Nat→Option CF):Prop where
 h55:Φ 55=some c55
 h94:Φ 94=some c94
 h121:Φ 121=some Em
 h95:Φ 95=some c95
def jF(x:Int×Int×Int):Bool:=sA (x.1,256)&&(sA (x.2.1,4096)&&sA (x.2.2,16))
theorem r35(h:Φ 35=some c35)(p:BtP Φ)(ok:cO F M c)(x y z:Int):
 Calls Φ F 35 [.g [.i .i64 x,.i .i64 y,.i .i64 z]] M c fun r M' c'=>r= .b (jF (x,y,z))∧Gr c M c' M':=by
 refine ax h ?_
 have g1:=(Gr.refl ok).set c (au 75 [.i .i64 x,.i .i64 y,.i .i64 z]) (ak _) (aD _) (aA _)
 have b0:(M.set c (au 75 [.i .i64 x,.i .i64 y,.i .i64 z])).get c=some (au 75 [.i .i64 x,.i .i64 y,.i .i64 z]):=am _ _ _
 have l0:=aj (F:=F) b0 0
 have l1:=aj (F:=F) b0 1
 have l2:=aj (F:=F) b0 2
 simp only[WX,Nat.reduceAdd,Nat.reduceLeDiff,B35,l0,l1,l2]
 generalize M.set c (au 75 [.i .i64 x,.i .i64 y,.i .i64 z])=M1 at g1⊢
 have cW:=g1.ok ok
 have gX:=(Gr.refl cW).set (c+1) (cQ [.i .i64 0,.i .i64 0] 114 [.i .i64 x,.i .i64 256,.i .i64 y,.i .i64 4096,.i .i64 z,.i .i64 16]) (ak _) (aD _) (aA _)
 have hy:bG F (M1.set (c+1) (cQ [.i .i64 0,.i .i64 0] 114 [.i .i64 x,.i .i64 256,.i .i64 y,.i .i64 4096,.i .i64 z,.i .i64 16])) (c+1+1) 2 (.l (c+1) 0 3 3) (nn [(x,256),(y,4096),(z,16)]):=qS (d:=[.i .i64 0,.i .i64 0]) (ty:=114) (am _ _ _) (by omega) (fun e he=>by obtain⟨x,_,rfl⟩:=List.mem_map.1 he;rfl) rfl
 refine aw ((r55 Φ p.h55 p.h94 p.h121 p.h95 (gX.ok cW) hy (by simp)).mono ?_)
 rintro r M2 c2 ⟨rfl,g2⟩
 simp only[WX]
 exact⟨by simp[jF],(g1.trans gX).trans g2⟩
theorem r34(h:Φ 34=some c34)(h35:Φ 35=some c35)(p:BtP Φ)(ok:cO F M c)(x y z:Int):
 Calls Φ F 34 [.g [.i .i64 x,.i .i64 y,.i .i64 z]] M c fun r M' c'=>r= .b (!jF (x,y,z))∧Gr c M c' M':=by
 refine ax h ?_
 have g1:=(Gr.refl ok).set c (au 75 [.i .i64 x,.i .i64 y,.i .i64 z]) (ak _) (aD _) (aA _)
 simp only[WX,Nat.reduceAdd,Nat.reduceLeDiff,B34]
 refine aw ((r35 h35 p (g1.ok ok) x y z).mono ?_)
 rintro r M2 c2 ⟨rfl,g2⟩
 simp only[WX]
 exact g1.trans g2
theorem r62(h:Φ 62=some c62)(h34:Φ 34=some c34)(h35:Φ 35=some c35)(p:BtP Φ){l:List (Int×Int×Int)}(ok:cO F M c)(hs:bG F M c 3 v (cY l))(hl:l.length≤1000000):
 Calls Φ F 62 [v,.f 34 [] []] M c fun r M' c'=>(∃z:Int,r= .i .i64 z∧(decide (0≤z)=l.any fun x=> !jF x))∧Gr c M c' M':=by
 refine ax h ?_
 have hln:l6 v=some (.i .i64 (l.length:Int)):=by have:=hs.len;rwa [aL]at this
 simp only[WX,B62,hln]
 obtain⟨I,hI⟩:∃I:Nat→St→Prop,∀n s',I n s'↔(∃(i c1:Nat) (M1:Mem) (u:List (Option V)),n=l.length-i∧i≤l.length∧s'= .mk ((Zb u v (.f 34 [] []) (.i .i64 (l.length:Int)) (.i .i64 (i:Int)))) [] M1 c1∧Gr c M c1 M1∧((l.take i).any fun x=> !jF x)=false):=⟨fun n s'=>_,fun _ _=>Iff.rfl⟩
 refine bD I ?_ l.length _ ((hI _ _).2 ⟨0,c,M,(G2 (X4 (X1 (G2 (cj (X4 (X2 []))))))),rfl,aE _,rfl,Gr.refl ok,rfl⟩)
 intro n s' hIs
 obtain⟨i,c1,M1,u,rfl,hi,rfl,g1,hno⟩:=(hI _ _).1 hIs
 clear hIs
 have cW:=g1.ok ok
 have q8:bX .add (.i .i64 (i:Int)) (.i .i64 1)=some (.i .i64 ((i+1:Nat):Int)):=by rw[aN _ _ (by omega) (by omega)];simp
 by_cases hlt:i<l.length
 ·have d1:decide ((i:Int)<(l.length:Int))=true:=af (by omega);obtain⟨pb,po,hpb,hia,hld⟩:=(hs.grow g1).at i (by rw[aL];exact hlt);have hia:=hia .i64;have htk:=cq hlt;have hge:(cY l)[i]'(by rw[aL];exact hlt)=[.i .i64 l[i].1,.i .i64 l[i].2.1,.i .i64 l[i].2.2]:=List.getElem_map ..;rw[hge]at hld;have hld:=hld.load (by simp);generalize l[i]=q at hld htk;have hld:loadN F M1 pb po 3=some [.i .i64 q.1,.i .i64 q.2.1,.i .i64 q.2.2]:=hld;simp only[WX,B62,d1,hia,hld];refine aw ((r34 h34 h35 p cW q.1 q.2.1 q.2.2).mono ?_);rintro r M2 c2 ⟨rfl,g2⟩;have hany:((l.take (i+1)).any fun x=> !jF x)= !jF q:=by rw[htk,List.any_append,hno];simp
  have hcat:=List.take_append_drop (i+1) l;cases hp:jF (q.1,q.2.1,q.2.2)with
  |false=>
   simp only[WX,B62];refine⟨⟨_,rfl,?_⟩,g1.trans g2⟩;rw[af (Int.natCast_nonneg i),←hcat,List.any_append,hany,show jF q=false from hp];rfl
  |true=>
   simp only[WX,B62,q8];exact⟨l.length-(i+1),by omega,(hI _ _).2 ⟨i+1,c2,M2,(G2 (X4 (X1 (G2 (cj (X4 (X2 []))))))),rfl,hlt,rfl,g1.trans g2,by rw[hany,show jF q=true from hp];rfl⟩⟩
 ·obtain rfl:i=l.length:=by omega
  have d1:decide ((l.length:Int)<(l.length:Int))=false:=ah (by omega);rw[List.take_length]at hno;simp only[WX,B62,d1];exact⟨⟨_,rfl,by rw[hno];rfl⟩,g1⟩
theorem GD(f:α→Bool)(l:List α):(!l.any fun x=> !f x)=l.all f:=by
 induction l with
 |nil=>rfl
 |cons x l ih=>rw[List.any_cons,List.all_cons,←ih,Bool.not_or,Bool.not_not]
theorem r33(h:Φ 33=some c33)(h62:Φ 62=some c62)(h34:Φ 34=some c34)(h35:Φ 35=some c35)(p:BtP Φ){l:List (Int×Int×Int)}(ok:cO F M c)(hs:bG F M c 3 v (cY l))(hl:l.length≤1000000):
 Calls Φ F 33 [v,.f 34 [] []] M c fun r M' c'=>r= .b (l.any fun x=> !jF x)∧Gr c M c' M':=by
 refine ax h ?_
 simp only[WX,B33]
 refine aw ((r62 h62 h34 h35 p ok hs hl).mono ?_)
 rintro r M1 c1 ⟨⟨z,rfl,hz⟩,g1⟩
 simp only[WX,hz]
 exact g1
theorem r37(h:Φ 37=some c37)(hs:fC F M c v l):
 Calls Φ F 37 [v] M c fun r M' c'=>r= .b (!decide (l.length≤8192))∧M'=M∧c'=c:=by
 refine ax h ?_
 have hln:=hs.len
 have e:decide ((8192:Int)<(l.length:Int))= !decide (l.length≤8192):=by rw[←decide_not];congr 1;apply propext;omega
 simp only[WX,B37,hln,e]
theorem r63(h:Φ 63=some c63)(h37:Φ 37=some c37){l:List (List UInt8)}(ok:cO F M c)(hs:cH F M c v l)(hl:l.length≤1000000):
 Calls Φ F 63 [v,.f 37 [] []] M c fun r M' c'=>(∃z:Int,r= .i .i64 z∧(decide (0≤z)=l.any fun x=> !decide (x.length≤8192)))∧M'=M∧c'=c:=by
 refine ax h ?_
 have hln:=hs.len
 simp only[WX,B63,hln]
 obtain⟨I,hI⟩:∃I:Nat→St→Prop,∀n s',I n s'↔(∃(i:Nat) (u:List (Option V)),n=l.length-i∧i≤l.length∧s'= .mk ((Zb u v (.f 37 [] []) (.i .i64 (l.length:Int)) (.i .i64 (i:Int)))) [] M c∧((l.take i).any fun x=> !decide (x.length≤8192))=false):=⟨fun n s'=>_,fun _ _=>Iff.rfl⟩
 refine bD I ?_ l.length _ ((hI _ _).2 ⟨0,(G2 (X4 (X1 (G2 (cj (X4 (X2 []))))))),rfl,aE _,rfl,rfl⟩)
 intro n s' hIs
 obtain⟨i,u,rfl,hi,rfl,hno⟩:=(hI _ _).1 hIs
 clear hIs
 have q8:bX .add (.i .i64 (i:Int)) (.i .i64 1)=some (.i .i64 ((i+1:Nat):Int)):=by rw[aN _ _ (by omega) (by omega)];simp
 by_cases hlt:i<l.length
 ·have d1:decide ((i:Int)<(l.length:Int))=true:=af (by omega);obtain⟨pb,po,w,hpb,hia,hld,sd⟩:=hs.at i hlt;have htk:=cq hlt;generalize l[i]=q at sd htk;simp only[WX,B63,d1,hia,hld];refine aw ((r37 h37 sd).mono ?_);rintro r M2 c2 ⟨rfl,rfl,rfl⟩;have hany:((l.take (i+1)).any fun x=> !decide (x.length≤8192))= !decide (q.length≤8192):=by rw[htk,List.any_append,hno];simp
  have hcat:=List.take_append_drop (i+1) l;cases hp:decide (q.length≤8192)with
  |false=>
   simp only[WX,B63];refine⟨_,rfl,?_⟩;rw[af (Int.natCast_nonneg i),←hcat,List.any_append,hany,hp];rfl
  |true=>
   simp only[WX,B63,q8];exact⟨l.length-(i+1),by omega,(hI _ _).2 ⟨i+1,(G2 (X4 (X1 (G2 (cj (X4 (X2 []))))))),rfl,hlt,rfl,by rw[hany,hp];rfl⟩⟩
 ·obtain rfl:i=l.length:=by omega
  have d1:decide ((l.length:Int)<(l.length:Int))=false:=ah (by omega);rw[List.take_length]at hno;simp only[WX,B63,d1];exact⟨_,rfl,by rw[hno];rfl⟩
theorem r36(h:Φ 36=some c36)(h63:Φ 63=some c63)(h37:Φ 37=some c37){l:List (List UInt8)}(ok:cO F M c)(hs:cH F M c v l)(hl:l.length≤1000000):
 Calls Φ F 36 [v,.f 37 [] []] M c fun r M' c'=>r= .b (l.any fun x=> !decide (x.length≤8192))∧M'=M∧c'=c:=by
 refine ax h ?_
 simp only[WX,B36]
 refine aw ((r63 h63 h37 ok hs hl).mono ?_)
 rintro r M1 c1 ⟨⟨z,rfl,hz⟩,rfl,rfl⟩
 simp only[WX,hz]
def aI5:CC:=(.reg [(aa a1 (.bx 28 5 z0)),(qq a2 (.mv xF))])
def br1:=wu aI5.eq_1
def aI6:CC:=(.reg [(qq a4 (.fa 0 z1)),(qq a5 (.ldn 4 z4)),(aa a3 (.al 25 [(.i .i64 0),(.i .i64 0),.l0,.l0])),(ez (.st 4 z3 z5))])
def br2:=wu aI6.eq_1
def aI7:CC:=(.reg [(qq a6 (.fa 0 z3)),(qq a7 (.ld1 z6)),(qq a8 (.fa 1 z3)),(qq a9 (.ld1 z8)),(ee dp (.call 32 [z7,z9])),(qq dk (.un .not dx)),(qq dy (.mv dC)),(aH dN (.fa 2 z3) dy),(aH dL (.ld1 dG) dy),(aH dS (.ln .slice eu) dy),(aH dY (.bi .lss dM (x6 1)) dy),(qq eE (.pk dX xT eF)),(qq dT (.mv eD)),(aH eG (.fa 2 z3) dT),(aH fF (.ld1 fS) dT),(aH eR (.ln .slice fD) dT),(aH fv (.bi .gtr gv (x6 8)) dT),(qq fl (.pk fm xT gb)),(qq dU (.mv gH)),(aH eV (.fa 3 z3) dU),(aH eb (.ld1 gO) dU),(aH fG (.ln .slice gw) dU),(aH gi (.fa 2 z3) dU),(aH gg (.ld1 iz) dU),(aH gQ (.ln .slice iA) dU),(aH j4 (.bi .geq gy iE) dU),(qq gj (.pk gM xT jh)),(qq iG (.mv jL)),(aH fT (.fa 4 z1) iG),(aH j5 (.ld1 kC) iG),(aH kv (.ln .slice kD) iG),(aH jq (.bi .gtr ll (x6 32768)) iG),(qq gR (.pk kz xT kr))])
def br3:=wu aI7.eq_1
def aI8:CC:=(.seq (.reg [(qq a2 (.mv xF))]) .ret)
def cU0:=wu aI8.eq_1
def aI9:CC:=(.seq aI7 (.cond kW aI8 .skip))
def br4:=wu aI9.eq_1
def aJ0:CC:=(.reg [(qq j6 (.fa 2 z3)),(qq jr (.ld1 lh)),(ee kF (.call 33 [lm,(.c (.f 34 [] []))])),(qq jM (.un .not lq)),(qq j7 (.mv lr)),(av ky (.fa 3 z3) j7),(av js (.ld1 ny) j7),(eU kX (.call 36 [nG,(.c (.f 37 [] []))]) j7),(av kY (.un .not oD) j7),(qq kB (.pk mW nA xF)),(qq a2 (.mv oE))])
def cU1:=wu aJ0.eq_1
def c12:CF:= .mk 6 [.t a2] (.seq aI5 (.seq aI6 (.seq aI9 (.seq aJ0 .ret))))
theorem e12(v0:V):aU 6 [v0]=(.n mM (some v0) mM):=rfl
def B12:=ai @e12 (ai @br1 (ai @br2 (ai @br3 (ai @cU0 (ai @br4 (@cU1))))))
theorem cN9{z:Int}(h:bZ z):∃z',bX .sub (.i .i64 z) (.i .i64 1)=some (.i .i64 z')∧ ∀k:Int,0≤k→k≤100000→sA (z',k)=decide (1≤z∧z≤k+1):=by
 obtain⟨h1,h2⟩:=h
 by_cases hm:z= -9223372036854775808
 ·subst hm;refine⟨9223372036854775807,by rw[sJ];rfl,fun k h0 hk=>?_⟩;unfold sA;rw[ah (by show¬((0:Int)≤9223372036854775807∧(9223372036854775807:Int)≤k);omega),ah (by omega)]
 ·refine⟨z-1,by rw[sJ,eQ (by omega) (by omega)],fun k h0 hk=>?_⟩;unfold sA;show decide (0≤z-1∧z-1≤k)=_
  congr 1;apply propext;omega
theorem da{l:List V}(h:M.get b=some (au ty l))(a r:List V)(e:l=a++r)(ha:a≠[]):loadN F M b 0 a.length=some a:=by
 have hc:cK F M b 0 a:=fun k hk=>by
  rw[Nat.zero_add,aj h k,e,List.getElem?_append_left hk]
 exact hc.load ha
def Oc(f s:Int):Bool:=decide (1≤f∧f≤256)&&decide (1≤s∧s≤4096)
theorem r32(h:Φ 32=some c32)(p:BtP Φ)(ok:cO F M c){x y:Int}(hx:bZ x)(hy:bZ y):
 Calls Φ F 32 [.i .i64 x,.i .i64 y] M c fun r M' c'=>r= .b (Oc x y)∧Gr c M c' M':=by
 refine ax h ?_
 obtain⟨x',s1,e1⟩:=cN9 hx
 obtain⟨y',s2,e2⟩:=cN9 hy
 simp only[WX,Nat.reduceAdd,Nat.reduceLeDiff,B32,s1,s2]
 have gX:=(Gr.refl ok).set c (cQ [.i .i64 0,.i .i64 0] 114 [.i .i64 x',.i .i64 255,.i .i64 y',.i .i64 4095]) (ak _) (aD _) (aA _)
 have hyy:bG F (M.set c (cQ [.i .i64 0,.i .i64 0] 114 [.i .i64 x',.i .i64 255,.i .i64 y',.i .i64 4095])) (c+1) 2 (.l c 0 2 2) (nn [(x',255),(y',4095)]):=qS (d:=[.i .i64 0,.i .i64 0]) (ty:=114) (am _ _ _) (by omega) (fun e he=>by obtain⟨x,_,rfl⟩:=List.mem_map.1 he;rfl) rfl
 refine aw ((r55 Φ p.h55 p.h94 p.h121 p.h95 (gX.ok ok) hyy (by simp)).mono ?_)
 rintro r M2 c2 ⟨rfl,g2⟩
 simp only[WX]
 refine⟨?_,gX.trans g2⟩
 rw[List.all_cons,List.all_cons,List.all_nil,Bool.and_true,e1 255 (by omega) (by omega),e2 4095 (by omega) (by omega)];rfl
def t7(s:SC):Bool:=decide (1≤s.ac.length)&&(decide (s.ac.length≤8)&&(decide (s.pg.length<s.ac.length)&&decide (s.ini.length≤32768)))
def rK(s:SC):Bool:=Oc s.fr s.se&&(t7 s&&(s.ac.all jF&&s.pg.all fun x=>decide (x.length≤8192)))
structure SuP(Φ:Nat→Option CF):Prop extends BtP Φ where
 h12:Φ 12=some c12
 h32:Φ 32=some c32
 h33:Φ 33=some c33
 h62:Φ 62=some c62
 h34:Φ 34=some c34
 h35:Φ 35=some c35
 h36:Φ 36=some c36
 h63:Φ 63=some c63
 h37:Φ 37=some c37
theorem r12(p:SuP Φ)(ok:cO F M c)(ha:bG F M c 3 va (cY s.ac))(hp:cH F M c vp s.pg)(hi:fC F M c vi s.ini)(hf:bZ s.fr)(hs:bZ s.se)(z1:s.ac.length≤1000000)(z2:s.pg.length≤1000000):
 Calls Φ F 12 [.g [.i .i64 s.fr,.i .i64 s.se,va,vp,vi]] M c fun r M' c'=>r= .b (rK s)∧Gr c M c' M':=by
 refine ax p.h12 ?_
 obtain⟨o1,o2,o3⟩:=aK ha
 obtain⟨ep,sp,_⟩:=hp
 obtain⟨p1,p2,p3⟩:=aK sp
 obtain⟨q1,q2,q3⟩:=aK hi
 have hp:cH F M c vp s.pg:=⟨ep,sp,‹_›⟩
 have g1:=(Gr.refl ok).set c (au 28 [.i .i64 s.fr,.i .i64 s.se,va,vp,vi]) (ak _) (aD _) (aA _)
 have b0:(M.set c (au 28 [.i .i64 s.fr,.i .i64 s.se,va,vp,vi])).get c=some (au 28 [.i .i64 s.fr,.i .i64 s.se,va,vp,vi]):=am _ _ _
 have ld:loadN F (M.set c (au 28 [.i .i64 s.fr,.i .i64 s.se,va,vp,vi])) c 0 4=some [.i .i64 s.fr,.i .i64 s.se,va,vp]:=da b0 [.i .i64 s.fr,.i .i64 s.se,va,vp] [vi] rfl (by simp)
 have g2:=g1.set (c+1) (au 25 [.i .i64 s.fr,.i .i64 s.se,va,vp]) (by omega) (aD _) (aA _)
 have b1:((M.set c (au 28 [.i .i64 s.fr,.i .i64 s.se,va,vp,vi])).set (c+1) (au 25 [.i .i64 s.fr,.i .i64 s.se,va,vp])).get (c+1)=some (au 25 [.i .i64 s.fr,.i .i64 s.se,va,vp]):=am _ _ _
 have b2:((M.set c (au 28 [.i .i64 s.fr,.i .i64 s.se,va,vp,vi])).set (c+1) (au 25 [.i .i64 s.fr,.i .i64 s.se,va,vp])).get c=some (au 28 [.i .i64 s.fr,.i .i64 s.se,va,vp,vi]):=(az _ _ (by omega)).trans b0
 simp only[WX,Nat.reduceAdd,Nat.reduceLeDiff,e12,br1,br2,o1,p1,p3,q3,ld]
 generalize(M.set c (au 28 [.i .i64 s.fr,.i .i64 s.se,va,vp,vi])).set (c+1) (au 25 [.i .i64 s.fr,.i .i64 s.se,va,vp])=M1 at g2 b1 b2⊢
 have cW:=g2.ok ok
 have k0:load1 F M1 (c+1) 0=some (.i .i64 s.fr):=aj b1 0
 have k1:load1 F M1 (c+1) 1=some (.i .i64 s.se):=aj b1 1
 simp only[WX,br3,br4,k0,k1]
 refine aw ((r32 p.h32 p.toBtP cW hf hs).mono ?_)
 rintro r M2 c2 ⟨rfl,g3⟩
 have ok2:=g3.ok cW
 have g4:=g2.trans g3
 have k2:load1 F M2 (c+1) 2=some va:=by rw[g3.load1 (by omega)];exact aj b1 2
 have k3:load1 F M2 (c+1) 3=some vp:=by rw[g3.load1 (by omega)];exact aj b1 3
 have k4:load1 F M2 c 4=some vi:=by rw[g3.load1 (by omega)];exact aj b2 4
 have na:=(ha.grow g4).len
 have np:=(hp.grow g4).len
 have ni:l6 vi=some (.i .i64 (s.ini.length:Int)):=by have:=(hi.grow g4).len;rwa [List.length_map]at this
 rw[aL]at na
 cases hM:Oc s.fr s.se with
 |false=>
  simp only[WX,B12];exact⟨by unfold rK;rw[hM];rfl,g4⟩
 |true=>
 by_cases h1:1≤s.ac.length
 rotate_left
 ·have d1:decide ((s.ac.length:Int)<1)=true:=af (by omega);simp only[WX,B12,k2,na,d1];exact⟨by unfold rK t7;rw[ah h1,Bool.false_and,Bool.false_and,Bool.and_false],g4⟩
 have d1:decide ((s.ac.length:Int)<1)=false:=ah (by omega)
 by_cases h2:s.ac.length≤8
 rotate_left
 ·have d2:decide ((8:Int)<(s.ac.length:Int))=true:=af (by omega);simp only[WX,B12,k2,na,d1,d2];exact⟨by unfold rK t7;rw[ah h2,Bool.false_and,Bool.and_false,Bool.false_and,Bool.and_false],g4⟩
 have d2:decide ((8:Int)<(s.ac.length:Int))=false:=ah (by omega)
 by_cases h3:s.pg.length<s.ac.length
 rotate_left
 ·have d3:decide ((s.ac.length:Int)≤(s.pg.length:Int))=true:=af (by omega);simp only[WX,B12,k2,k3,na,np,d1,d2,d3];exact⟨by unfold rK t7;rw[ah h3,Bool.false_and,Bool.and_false,Bool.and_false,Bool.false_and,Bool.and_false],g4⟩
 have d3:decide ((s.ac.length:Int)≤(s.pg.length:Int))=false:=ah (by omega)
 by_cases h4:s.ini.length≤32768
 rotate_left
 ·have d4:decide ((32768:Int)<(s.ini.length:Int))=true:=af (by omega);simp only[WX,B12,k2,k3,k4,na,np,ni,d1,d2,d3,d4];exact⟨by unfold rK t7;rw[ah h4,Bool.and_false,Bool.and_false,Bool.and_false,Bool.false_and,Bool.and_false],g4⟩
 have d4:decide ((32768:Int)<(s.ini.length:Int))=false:=ah (by omega)
 have eS:rK s=(s.ac.all jF&&s.pg.all fun x=>decide (x.length≤8192)):=by
  unfold rK t7;rw[hM,af h1,af h2,af h3,af h4];rfl
 simp only[WX,B12,k2,k3,k4,na,np,ni,d1,d2,d3,d4]
 refine aw ((r33 p.h33 p.h62 p.h34 p.h35 p.toBtP ok2 (ha.grow g4) z1).mono ?_)
 rintro r M3 c3 ⟨rfl,g5⟩
 have hA:=GD jF s.ac
 have k3':load1 F M3 (c+1) 3=some vp:=by rw[g5.load1 (by have:=g3.le;omega)];exact k3
 cases hAc:s.ac.any fun x=> !jF x with
 |true=>
  rw[hAc]at hA;simp only[WX];exact⟨by rw[eS,←hA];rfl,g4.trans g5⟩
 |false=>
  rw[hAc]at hA;simp only[WX,k3'];refine aw ((r36 p.h36 p.h63 p.h37 (g5.ok ok2) (hp.grow (g4.trans g5)) z2).mono ?_);rintro r M4 c4 ⟨rfl,rfl,rfl⟩;have hB:=GD (fun x:List UInt8=>decide (x.length≤8192)) s.pg;simp only[WX,hB];exact⟨by rw[eS,←hA];rfl,g4.trans g5⟩
abbrev cP7(u:List (Option V))(x2 x3:V):T:=(.n (.n (.n (.n (aq u 63 31 95 15 79 47 111) (uO u 7) (aq u 71 39 103 23 87 55 119)) (some x3) (.n (aq u 67 35 99 19 83 51 115) (uO u 11) (aq u 75 43 107 27 91 59 123))) (uO u 1) (.n (.n (aq u 65 33 97 17 81 49 113) (uO u 9) (aq u 73 41 105 25 89 57 121)) (uO u 5) (.n (aq u 69 37 101 21 85 53 117) (uO u 13) (aq u 77 45 109 29 93 61 125)))) (uO u 0) (.n (.n (.n (aq u 64 32 96 16 80 48 112) (uO u 8) (aq u 72 40 104 24 88 56 120)) (uO u 4) (.n (aq u 68 36 100 20 84 52 116) (uO u 12) (aq u 76 44 108 28 92 60 124))) (some x2) (.n (.n (aq u 66 34 98 18 82 50 114) (uO u 10) (aq u 74 42 106 26 90 58 122)) (uO u 6) (.n (aq u 70 38 102 22 86 54 118) (uO u 14) (aq u 78 46 110 30 94 62 126)))))
abbrev cP8(u:List (Option V))(x2 x3 x4:V):T:=(.n (.n (.n (.n (aq u 63 31 95 15 79 47 111) (uO u 7) (aq u 71 39 103 23 87 55 119)) (some x3) (.n (aq u 67 35 99 19 83 51 115) (uO u 11) (aq u 75 43 107 27 91 59 123))) (uO u 1) (.n (.n (aq u 65 33 97 17 81 49 113) (uO u 9) (aq u 73 41 105 25 89 57 121)) (uO u 5) (.n (aq u 69 37 101 21 85 53 117) (uO u 13) (aq u 77 45 109 29 93 61 125)))) (uO u 0) (.n (.n (.n (aq u 64 32 96 16 80 48 112) (uO u 8) (aq u 72 40 104 24 88 56 120)) (some x4) (.n (aq u 68 36 100 20 84 52 116) (uO u 12) (aq u 76 44 108 28 92 60 124))) (some x2) (.n (.n (aq u 66 34 98 18 82 50 114) (uO u 10) (aq u 74 42 106 26 90 58 122)) (uO u 6) (.n (aq u 70 38 102 22 86 54 118) (uO u 14) (aq u 78 46 110 30 94 62 126)))))
abbrev cP9(u:List (Option V))(x2 x3 x5:V):T:=(.n (.n (.n (.n (aq u 63 31 95 15 79 47 111) (uO u 7) (aq u 71 39 103 23 87 55 119)) (some x3) (.n (aq u 67 35 99 19 83 51 115) (uO u 11) (aq u 75 43 107 27 91 59 123))) (uO u 1) (.n (.n (aq u 65 33 97 17 81 49 113) (uO u 9) (aq u 73 41 105 25 89 57 121)) (some x5) (.n (aq u 69 37 101 21 85 53 117) (uO u 13) (aq u 77 45 109 29 93 61 125)))) (uO u 0) (.n (.n (.n (aq u 64 32 96 16 80 48 112) (uO u 8) (aq u 72 40 104 24 88 56 120)) (uO u 4) (.n (aq u 68 36 100 20 84 52 116) (uO u 12) (aq u 76 44 108 28 92 60 124))) (some x2) (.n (.n (aq u 66 34 98 18 82 50 114) (uO u 10) (aq u 74 42 106 26 90 58 122)) (uO u 6) (.n (aq u 70 38 102 22 86 54 118) (uO u 14) (aq u 78 46 110 30 94 62 126)))))
def aT5:CC:=(.reg [(aa a1 (.bx 75 3 z0)),(qq a2 (.mv xF))])
def aT6:CC:=(.reg [(qq a3 (.fa 0 z1)),(qq a4 (.ld1 z3)),(qq a5 (.bi .geq z4 (x6 0))),(qq a6 (.mv z5)),(av a7 (.fa 0 z1) a6),(av a8 (.ld1 z7) a6),(av a9 (.bi .leq z8 (x6 256)) a6),(qq dp (.pk z6 z9 xF)),(qq dk (.mv dx)),(av dy (.fa 1 z1) dk),(av dN (.ld1 dX) dk),(av dL (.bi .geq dG (x6 0)) dk),(qq dS (.pk dC eu xF)),(qq dY (.mv dM)),(av eE (.fa 1 z1) dY),(av dT (.ld1 eD) dY),(av eG (.bi .leq fm (x6 4096)) dY),(qq fF (.pk eF fS xF)),(qq eR (.mv fD)),(av fv (.fa 2 z1) eR),(av fl (.ld1 gb) eR),(av dU (.bi .geq gH (x6 0)) eR),(qq eV (.pk gv gM xF)),(qq eb (.mv gO)),(av fG (.fa 2 z1) eb),(av gi (.ld1 gy) eb),(av gg (.bi .leq iz (x6 16)) eb),(qq gQ (.pk gw iA xF)),(qq a2 (.mv iE))])
def c38:CF:= .mk 5 [.t a2] (.seq aT5 (.seq aT6 .ret))
theorem e38(v0:V):aU 5 [v0]=(.n lj (some v0) lj):=rfl
def B38:=ai @e38 (ai (wu aT5.eq_1) (wu aT6.eq_1))
def aJ1:CC:=(.reg [(aa a1 (.bx 28 5 z0)),(qq a2 (.mv xF))])
def br5:=wu aJ1.eq_1
def aJ2:CC:=(.reg [(qq a6 (.fa 0 z1)),(qq a7 (.ldn 4 z6)),(aa a3 (.al 25 [(.i .i64 0),(.i .i64 0),.l0,.l0])),(ez (.st 4 z3 z7))])
def br6:=wu aJ2.eq_1
def aJ3:CC:=(.reg [(qq a8 (.fa 0 z3)),(qq a9 (.ld1 z8)),(qq dp (.bi .lss z9 (x6 1))),(qq dk (.mv dx)),(aH dy (.fa 0 z3) dk),(aH dN (.ld1 dX) dk),(aH dL (.bi .gtr dG (x6 256)) dk),(qq dS (.pk dC xT eu)),(qq dY (.mv dM)),(aH eE (.fa 1 z3) dY),(aH dT (.ld1 eD) dY),(aH eG (.bi .lss fm (x6 1)) dY),(qq fF (.pk eF xT fS)),(qq eR (.mv fD)),(aH fv (.fa 1 z3) eR),(aH fl (.ld1 gb) eR),(aH dU (.bi .gtr gH (x6 4096)) eR),(qq eV (.pk gv xT gM)),(qq eb (.mv gO)),(aH fG (.fa 2 z3) eb),(aH gi (.ld1 gy) eb),(aH gg (.ln .slice iz) eb),(aH gQ (.bi .lss iA (x6 1)) eb),(qq j4 (.pk gw xT iE)),(qq gj (.mv jh)),(aH iG (.fa 2 z3) gj),(aH fT (.ld1 kz) gj),(aH j5 (.ln .slice kC) gj),(aH kv (.bi .gtr kD (x6 8)) gj),(qq jq (.pk jL xT ll)),(qq gR (.mv kr)),(aH j6 (.fa 3 z3) gR),(aH jr (.ld1 lh) gR),(aH kF (.ln .slice lm) gR),(aH jM (.fa 2 z3) gR),(aH j7 (.ld1 lr) gR),(aH ky (.ln .slice mW) gR),(aH js (.bi .geq lq ny) gR),(qq kX (.pk kW xT nG)),(qq kY (.mv oD)),(aH kB (.fa 4 z1) kY),(aH iB (.ld1 oE) kY),(aH nC (.ln .slice nH) kY),(aH kG (.bi .gtr oF (x6 32768)) kY),(qq kH (.pk nA xT pl))])
def pO:=wu aJ3.eq_1
def aJ4:CC:=(.seq (.reg [(qq a2 (.mv xF))]) .ret)
def ss:=wu aJ4.eq_1
def aJ5:CC:=(.seq aJ3 (.cond pS aJ4 .skip))
def pP:=wu aJ5.eq_1
def aJ6:CC:=(.reg [(qq a4 (.mv (x6 0)))])
def cU2:=wu aJ6.eq_1
def aJ7:CC:=(.reg [(qq j8 (.mv z4)),(qq nK (.fa 2 z3)),(qq nL (.ld1 pU)),(qq kI (.ln .slice qO)),(qq lx (.bi .lss pm pn))])
def cU3:=wu aJ7.eq_1
def aJ8:CC:=(.seq aJ7 (.cond qT .skip (.exit 0)))
def cU4:=wu aJ8.eq_1
def aJ9:CC:=(.reg [(qq oI (.fa 2 z3)),(qq qb (.ld1 sw)),(qq pq (.mv z4)),(qq pj (.iaS 3 ug sy)),(qq qc (.ldn 3 tC)),(ee qd (.call 38 [yA])),(qq tG (.un .not uM))])
def cU5:=wu aJ9.eq_1
def Qx:CC:=(.seq (.reg [(qq a2 (.mv xF))]) .ret)
def bQ3:=wu Qx.eq_1
def Qy:CC:=(.seq aJ9 (.cond vn Qx .skip))
def bQ4:=wu Qy.eq_1
def Qz:CC:=(.reg [(qq lT (.mv z4)),(qq qa (.bi .add qU (x6 1))),(qq a4 (.mv sB))])
def bQ5:=wu Qz.eq_1
def QA:CC:=(.block 0 (.loop (.seq aJ8 (.seq (.block 1 Qy) Qz))))
def bQ6:=wu QA.eq_1
def QB:CC:=(.reg [(qq a5 (.mv (x6 0)))])
def bQ7:=wu QB.eq_1
def QC:CC:=(.reg [(qq tH (.mv z5)),(qq qQ (.fa 3 z3)),(qq um (.ld1 xY)),(qq uo (.ln .slice ya)),(qq qX (.bi .lss xX yb))])
def bQ8:=wu QC.eq_1
def QD:CC:=(.cond yc .skip (.exit 2))
def bQ9:=wu QD.eq_1
def QE:CC:=(.reg [(qq y7 (.fa 3 z3)),(qq yl (.ld1 BB)),(qq y8 (.mv z5)),(qq zT (.iaS 1 BC BD)),(qq BN (.ld1 Dp)),(qq Gx (.ln .slice Gq)),(qq Dl (.bi .gtr z79 (x6 8192)))])
def bR0:=wu QE.eq_1
def QF:CC:=(.seq (.reg [(qq a2 (.mv xF))]) .ret)
def bR1:=wu QF.eq_1
def QG:CC:=(.seq QE (.cond z80 QF .skip))
def bR2:=wu QG.eq_1
def QH:CC:=(.reg [(qq vE (.mv z5)),(qq y6 (.bi .add Bz (x6 1))),(qq a5 (.mv zL))])
def bR3:=wu QH.eq_1
def QI:CC:=(.loop (.seq (.seq QC QD) (.seq (.block 3 QG) QH)))
def bR4:=wu QI.eq_1
def QJ:CC:=(.seq (.reg [(qq a2 (.mv xT))]) .ret)
def bR5:=wu QJ.eq_1
def DR:CC:=(.seq (.seq aJ6 QA) (.seq (.seq QB (.block 2 QI)) QJ))
def bR6:=wu DR.eq_1
def c13:CF:= .mk 7 [.t a2] (.seq aJ1 (.seq aJ2 (.seq aJ5 DR)))
theorem e13(v0:V):aU 7 [v0]=(.n sc (some v0) sc):=rfl
def B13:=ai @e13 (ai @br5 (ai @br6 (ai @pO (ai @ss (ai @pP (ai @cU2 (ai @cU3 (ai @cU4 (ai @cU5 (ai @bQ3 (ai @bQ4 (ai @bQ5 (ai @bQ6 (ai @bQ7 (ai @bQ8 (ai @bQ9 (ai @bR0 (ai @bR1 (ai @bR2 (ai @bR3 (ai @bR4 (ai @bR5 (@bR6)))))))))))))))))))))))
theorem r38(h:Φ 38=some c38)(ok:cO F M c)(x y z:Int):
 Calls Φ F 38 [.g [.i .i64 x,.i .i64 y,.i .i64 z]] M c fun r M' c'=>r= .b (jF (x,y,z))∧Gr c M c' M':=by
 refine ax h ?_
 have g1:=(Gr.refl ok).set c (au 75 [.i .i64 x,.i .i64 y,.i .i64 z]) (ak _) (aD _) (aA _)
 have b0:(M.set c (au 75 [.i .i64 x,.i .i64 y,.i .i64 z])).get c=some (au 75 [.i .i64 x,.i .i64 y,.i .i64 z]):=am _ _ _
 have l0:=aj (F:=F) b0 0
 have l1:=aj (F:=F) b0 1
 have l2:=aj (F:=F) b0 2
 unfold jF sA
 by_cases h1:0≤x
 rotate_left
 ·have d1:decide (0≤x)=false:=ah h1;simp only[WX,Nat.reduceAdd,B38,l0,d1];exact⟨by rw[ah (by omega:¬(0≤x∧x≤256))];rfl,g1⟩
 have d1:decide (0≤x)=true:=af h1
 by_cases h2:x≤256
 rotate_left
 ·have d2:decide (x≤256)=false:=ah h2;simp only[WX,Nat.reduceAdd,B38,l0,d1,d2];exact⟨by rw[ah (by omega:¬(0≤x∧x≤256))];rfl,g1⟩
 have d2:decide (x≤256)=true:=af h2
 rw[show decide (0≤(x,(256:Int)).1∧(x,(256:Int)).1≤(x,(256:Int)).2)=true from af ⟨h1,h2⟩,Bool.true_and]
 by_cases h3:0≤y
 rotate_left
 ·have d3:decide (0≤y)=false:=ah h3;simp only[WX,Nat.reduceAdd,B38,l0,l1,d1,d2,d3];exact⟨by rw[ah (by omega:¬(0≤y∧y≤4096))];rfl,g1⟩
 have d3:decide (0≤y)=true:=af h3
 by_cases h4:y≤4096
 rotate_left
 ·have d4:decide (y≤4096)=false:=ah h4;simp only[WX,Nat.reduceAdd,B38,l0,l1,d1,d2,d3,d4];exact⟨by rw[ah (by omega:¬(0≤y∧y≤4096))];rfl,g1⟩
 have d4:decide (y≤4096)=true:=af h4
 rw[show decide (0≤(y,(4096:Int)).1∧(y,(4096:Int)).1≤(y,(4096:Int)).2)=true from af ⟨h3,h4⟩,Bool.true_and]
 by_cases h5:0≤z
 rotate_left
 ·have d5:decide (0≤z)=false:=ah h5;simp only[WX,Nat.reduceAdd,B38,l0,l1,l2,d1,d2,d3,d4,d5];exact⟨by rw[ah (by omega:¬(0≤z∧z≤16))],g1⟩
 have d5:decide (0≤z)=true:=af h5
 have d6:decide (0≤z∧z≤16)=decide (z≤16):=by congr 1;apply propext;omega
 simp only[WX,Nat.reduceAdd,B38,l0,l1,l2,d1,d2,d3,d4,d5]
 exact⟨by rw[d6],g1⟩
theorem JY(h:Oc s.fr s.se=false):rK s=false:=by unfold rK;rw[h];rfl
theorem JZ(h:t7 s=false):rK s=false:=by unfold rK;rw[h,Bool.false_and,Bool.and_false]
theorem k13(h38:Φ 38=some c38){b':Nat}{vi:V}{x0 x1:V}(ok:cO F M0 c0)(g0:Gr c0 M0 c M)(b1:M.get b=some (au 25 [x0,x1,va,vp]))(hb:b<c)(ha:bG F M c 3 va (cY s.ac))(hp:cH F M c vp s.pg)(z1:s.ac.length≤1000000)(z2:s.pg.length≤1000000)(eS:rK s=(s.ac.all jF&&s.pg.all fun x=>decide (x.length≤8192)))(u:List (Option V)):
 Wp DR (K Φ none 13 F) (.mk ((cP7 u (.b false) (.p b 0))) [] M c) (dA F [.t (.r .h)] fun r M' c'=>r= .b (rK s)∧Gr c0 M0 c' M'):=by
 simp only[WX,B13]
 obtain⟨I,hI⟩:∃I:Nat→St→Prop,∀n s',I n s'↔(∃(i c1:Nat) (M1:Mem) (u:List (Option V)),n=s.ac.length-i∧i≤s.ac.length∧s'= .mk ((cP8 u (.b false) (.p b 0) (.i .i64 (i:Int)))) [] M1 c1∧Gr c M c1 M1∧(s.ac.take i).all jF=true):=⟨fun n s'=>_,fun _ _=>Iff.rfl⟩
 refine bD I ?_ s.ac.length _ ((hI _ _).2 ⟨0,c,M,(X2 (G2 (G1 (bH (cw (cj (X8 (X2 [])))))))),rfl,aE _,rfl,Gr.refl (g0.ok ok),rfl⟩)
 intro n s' hIs
 obtain⟨i,c1,M1,u,rfl,hi,rfl,g1,hall⟩:=(hI _ _).1 hIs
 clear hIs
 have cW:=g1.ok (g0.ok ok)
 have k2:load1 F M1 b 2=some va:=by rw[g1.load1 hb];exact aj b1 2
 have na:=(ha.grow g1).len
 rw[aL]at na
 have q8:bX .add (.i .i64 (i:Int)) (.i .i64 1)=some (.i .i64 ((i+1:Nat):Int)):=by rw[aN _ _ (by omega) (by omega)];simp
 by_cases hlt:i<s.ac.length
 ·have d1:decide ((i:Int)<(s.ac.length:Int))=true:=af (by omega);obtain⟨pb,po,hpb,hia,hld⟩:=(ha.grow g1).at i (by rw[aL];exact hlt);have hia:=hia .i64;have htk:=cq hlt;have hge:(cY s.ac)[i]'(by rw[aL];exact hlt)=[.i .i64 s.ac[i].1,.i .i64 s.ac[i].2.1,.i .i64 s.ac[i].2.2]:=List.getElem_map ..;rw[hge]at hld;have hld:=hld.load (by simp);have hcat:=List.take_append_drop (i+1) s.ac;generalize s.ac[i]=q at hld htk;have hld:loadN F M1 pb po 3=some [.i .i64 q.1,.i .i64 q.2.1,.i .i64 q.2.2]:=hld;simp only[WX,B13,k2,na,d1,hia,hld];refine aw ((r38 h38 cW q.1 q.2.1 q.2.2).mono ?_);rintro r M2 c2 ⟨rfl,g2⟩;have hA:(s.ac.take (i+1)).all jF=jF q:=by rw[htk,List.all_append,hall];simp
  cases hp:jF (q.1,q.2.1,q.2.2)with
  |false=>
   simp only[WX,B13];refine⟨?_,(g0.trans g1).trans g2⟩;rw[eS,←hcat,List.all_append,hA,show jF q=false from hp];rfl
  |true=>
   simp only[WX,B13,q8];exact⟨s.ac.length-(i+1),by omega,(hI _ _).2 ⟨i+1,c2,M2,(X2 (G2 (G1 (bH (cw (cj (X8 (X2 [])))))))),rfl,hlt,rfl,g1.trans g2,hA.trans hp⟩⟩
 ·obtain rfl:i=s.ac.length:=by omega
  have d1:decide ((s.ac.length:Int)<(s.ac.length:Int))=false:=ah (by omega);rw[List.take_length]at hall;rw[hall,Bool.true_and]at eS;have g5:=g0.trans g1;have k3:load1 F M1 b 3=some vp:=by rw[g1.load1 hb];exact aj b1 3
  have hp1:=hp.grow g1;have np:=hp1.len;simp only[WX,B13,k2,na,d1];obtain⟨J,hJ⟩:∃J:Nat→St→Prop,∀n s',J n s'↔(∃(i:Nat) (u:List (Option V)),n=s.pg.length-i∧i≤s.pg.length∧s'= .mk ((cP9 u (.b false) (.p b 0) (.i .i64 (i:Int)))) [] M1 c1∧((s.pg.take i).all fun x=>decide (x.length≤8192))=true):=⟨fun n s'=>_,fun _ _=>Iff.rfl⟩
  refine bD J ?_ s.pg.length _ ((hJ _ _).2 ⟨0,(X2 (G2 (X1 (G1 (bH (cw (cj (X8 (X1 []))))))))),rfl,aE _,rfl,rfl⟩);intro n s' hJs;obtain⟨i,u,rfl,hi,rfl,hall⟩:=(hJ _ _).1 hJs;clear hJs;have q8:bX .add (.i .i64 (i:Int)) (.i .i64 1)=some (.i .i64 ((i+1:Nat):Int)):=by rw[aN _ _ (by omega) (by omega)];simp
  by_cases hlt:i<s.pg.length
  ·have d1:decide ((i:Int)<(s.pg.length:Int))=true:=af (by omega);obtain⟨pb,po,w,hpb,hia,hld,sd⟩:=hp1.at i hlt;have htk:=cq hlt;have hcat:=List.take_append_drop (i+1) s.pg;generalize s.pg[i]=q at sd htk;have nw:=sd.len;have hA:((s.pg.take (i+1)).all fun x=>decide (x.length≤8192))=decide (q.length≤8192):=by rw[htk,List.all_append,hall];simp
   by_cases hq:q.length≤8192
   ·have d2:decide ((8192:Int)<(q.length:Int))=false:=ah (by omega);simp only[WX,B13,k3,np,d1,hia,hld,nw,d2,q8];exact⟨s.pg.length-(i+1),by omega,(hJ _ _).2 ⟨i+1,(X2 (G2 (X1 (G1 (bH (cw (cj (X8 (X1 []))))))))),rfl,hlt,rfl,hA.trans (af hq)⟩⟩
   ·have d2:decide ((8192:Int)<(q.length:Int))=true:=af (by omega);simp only[WX,B13,k3,np,d1,hia,hld,nw,d2];refine⟨?_,g5⟩;rw[eS,←hcat,List.all_append,hA,ah hq];rfl
  ·obtain rfl:i=s.pg.length:=by omega
   have d1:decide ((s.pg.length:Int)<(s.pg.length:Int))=false:=ah (by omega);rw[List.take_length]at hall;simp only[WX,B13,k3,np,d1];exact⟨by rw[eS,hall],g5⟩
theorem r13(h:Φ 13=some c13)(h38:Φ 38=some c38)(ok:cO F M c)(ha:bG F M c 3 va (cY s.ac))(hp:cH F M c vp s.pg)(hi:fC F M c vi s.ini)(z1:s.ac.length≤1000000)(z2:s.pg.length≤1000000):
 Calls Φ F 13 [.g [.i .i64 s.fr,.i .i64 s.se,va,vp,vi]] M c fun r M' c'=>r= .b (rK s)∧Gr c M c' M':=by
 refine ax h ?_
 obtain⟨o1,o2,o3⟩:=aK ha
 obtain⟨ep,sp,_⟩:=hp
 obtain⟨p1,p2,p3⟩:=aK sp
 obtain⟨q1,q2,q3⟩:=aK hi
 have hp:cH F M c vp s.pg:=⟨ep,sp,‹_›⟩
 have g1:=(Gr.refl ok).set c (au 28 [.i .i64 s.fr,.i .i64 s.se,va,vp,vi]) (ak _) (aD _) (aA _)
 have b0:(M.set c (au 28 [.i .i64 s.fr,.i .i64 s.se,va,vp,vi])).get c=some (au 28 [.i .i64 s.fr,.i .i64 s.se,va,vp,vi]):=am _ _ _
 have ld:loadN F (M.set c (au 28 [.i .i64 s.fr,.i .i64 s.se,va,vp,vi])) c 0 4=some [.i .i64 s.fr,.i .i64 s.se,va,vp]:=da b0 [.i .i64 s.fr,.i .i64 s.se,va,vp] [vi] rfl (by simp)
 have g2:=g1.set (c+1) (au 25 [.i .i64 s.fr,.i .i64 s.se,va,vp]) (by omega) (aD _) (aA _)
 have b1:((M.set c (au 28 [.i .i64 s.fr,.i .i64 s.se,va,vp,vi])).set (c+1) (au 25 [.i .i64 s.fr,.i .i64 s.se,va,vp])).get (c+1)=some (au 25 [.i .i64 s.fr,.i .i64 s.se,va,vp]):=am _ _ _
 have b2:((M.set c (au 28 [.i .i64 s.fr,.i .i64 s.se,va,vp,vi])).set (c+1) (au 25 [.i .i64 s.fr,.i .i64 s.se,va,vp])).get c=some (au 28 [.i .i64 s.fr,.i .i64 s.se,va,vp,vi]):=(az _ _ (by omega)).trans b0
 simp only[WX,Nat.reduceAdd,Nat.reduceLeDiff,e13,br5,br6,o1,p1,p3,q3,ld]
 generalize(M.set c (au 28 [.i .i64 s.fr,.i .i64 s.se,va,vp,vi])).set (c+1) (au 25 [.i .i64 s.fr,.i .i64 s.se,va,vp])=M1 at g2 b1 b2⊢
 have k0:load1 F M1 (c+1) 0=some (.i .i64 s.fr):=aj b1 0
 have k1:load1 F M1 (c+1) 1=some (.i .i64 s.se):=aj b1 1
 have k2:load1 F M1 (c+1) 2=some va:=aj b1 2
 have k3:load1 F M1 (c+1) 3=some vp:=aj b1 3
 have k4:load1 F M1 c 4=some vi:=aj b2 4
 have na:=(ha.grow g2).len
 have np:=(hp.grow g2).len
 have ni:l6 vi=some (.i .i64 (s.ini.length:Int)):=by have:=(hi.grow g2).len;rwa [List.length_map]at this
 rw[aL]at na
 by_cases e1:1≤s.fr
 rotate_left
 ·have x1:decide (s.fr<1)=true:=af (by omega);simp only[WX,pO,ss,pP,k0,x1];exact⟨congrArg V.b (Eq.symm (JY (by unfold Oc;rw[ah (by omega:¬(1≤s.fr∧s.fr≤256))];rfl))),g2⟩
 have x1:decide (s.fr<1)=false:=ah (by omega)
 by_cases e2:s.fr≤256
 rotate_left
 ·have x2:decide (256<s.fr)=true:=af (by omega);simp only[WX,pO,ss,pP,k0,x1,x2];exact⟨congrArg V.b (Eq.symm (JY (by unfold Oc;rw[ah (by omega:¬(1≤s.fr∧s.fr≤256))];rfl))),g2⟩
 have x2:decide (256<s.fr)=false:=ah (by omega)
 by_cases e3:1≤s.se
 rotate_left
 ·have x3:decide (s.se<1)=true:=af (by omega);simp only[WX,pO,ss,pP,k0,k1,x1,x2,x3];exact⟨congrArg V.b (Eq.symm (JY (by unfold Oc;rw[ah (by omega:¬(1≤s.se∧s.se≤4096)),Bool.and_false]))),g2⟩
 have x3:decide (s.se<1)=false:=ah (by omega)
 by_cases e4:s.se≤4096
 rotate_left
 ·have x4:decide (4096<s.se)=true:=af (by omega);simp only[WX,pO,ss,pP,k0,k1,x1,x2,x3,x4];exact⟨congrArg V.b (Eq.symm (JY (by unfold Oc;rw[ah (by omega:¬(1≤s.se∧s.se≤4096)),Bool.and_false]))),g2⟩
 have x4:decide (4096<s.se)=false:=ah (by omega)
 have hM:Oc s.fr s.se=true:=by unfold Oc;rw[af ⟨e1,e2⟩,af ⟨e3,e4⟩];rfl
 by_cases h1:1≤s.ac.length
 rotate_left
 ·have d1:decide ((s.ac.length:Int)<1)=true:=af (by omega);simp only[WX,pO,ss,pP,k0,k1,x1,x2,x3,x4,k2,na,d1];exact⟨congrArg V.b (Eq.symm (JZ (by unfold t7;rw[ah h1,Bool.false_and]))),g2⟩
 have d1:decide ((s.ac.length:Int)<1)=false:=ah (by omega)
 by_cases h2:s.ac.length≤8
 rotate_left
 ·have d2:decide ((8:Int)<(s.ac.length:Int))=true:=af (by omega);simp only[WX,pO,ss,pP,k0,k1,x1,x2,x3,x4,k2,na,d1,d2];exact⟨congrArg V.b (Eq.symm (JZ (by unfold t7;rw[ah h2,Bool.false_and,Bool.and_false]))),g2⟩
 have d2:decide ((8:Int)<(s.ac.length:Int))=false:=ah (by omega)
 by_cases h3:s.pg.length<s.ac.length
 rotate_left
 ·have d3:decide ((s.ac.length:Int)≤(s.pg.length:Int))=true:=af (by omega);simp only[WX,pO,ss,pP,k0,k1,x1,x2,x3,x4,k2,k3,na,np,d1,d2,d3];exact⟨congrArg V.b (Eq.symm (JZ (by unfold t7;rw[ah h3,Bool.false_and,Bool.and_false,Bool.and_false]))),g2⟩
 have d3:decide ((s.ac.length:Int)≤(s.pg.length:Int))=false:=ah (by omega)
 by_cases h4:s.ini.length≤32768
 rotate_left
 ·have d4:decide ((32768:Int)<(s.ini.length:Int))=true:=af (by omega);simp only[WX,pO,ss,pP,k0,k1,x1,x2,x3,x4,k2,k3,k4,na,np,ni,d1,d2,d3,d4];exact⟨congrArg V.b (Eq.symm (JZ (by unfold t7;rw[ah h4,Bool.and_false,Bool.and_false,Bool.and_false]))),g2⟩
 have d4:decide ((32768:Int)<(s.ini.length:Int))=false:=ah (by omega)
 have eS:rK s=(s.ac.all jF&&s.pg.all fun x=>decide (x.length≤8192)):=by
  unfold rK t7;rw[hM,af h1,af h2,af h3,af h4];rfl
 simp only[WX,pO,pP,k0,k1,x1,x2,x3,x4,k2,k3,k4,na,np,ni,d1,d2,d3,d4]
 exact k13 (b':=0) (vi:=vi) h38 ok g2 b1 (by omega) (ha.grow g2) (hp.grow g2) z1 z2 eS (X2 (G2 (bH (cw (cj (X8 (X2 (X1 []))))))))
abbrev cQ0(u:List (Option V))(x1 x2 x3 x4:V):T:=(.n (.n (.n (fu u 15 7 23) (some x3) (fu u 19 11 27)) (some x1) (aq u 17 9 25 5 21 13 29)) (uO u 0) (.n (.n (fu u 16 8 24) (some x4) (fu u 20 12 28)) (some x2) (aq u 18 10 26 6 22 14 30)))
def cv2:CC:=(.reg [(aa a1 (.bx 31 6 z0)),(qq a2 (.mv (x6 0))),(qq a3 (.mv (x6 0)))])
def d69:=wu cv2.eq_1
def cv3:CC:=(.reg [(qq a5 (.fa 0 z1)),(qq a6 (.ldn 5 z5)),(ee a7 (.call 13 [z6])),(qq a8 (.un .not z7))])
def d77:=wu cv3.eq_1
def cv4:CC:=(.reg [(qq a2 (.mv (x6 0))),(qq a3 (.mv (x6 2)))])
def d78:=wu cv4.eq_1
def cv5:CC:=(.seq cv3 (.cond z8 (.seq cv4 .ret) .skip))
def d79:=wu cv5.eq_1
def cv6:CC:=(.reg [(qq a4 (.mv (x6 0)))])
def dB0:=wu cv6.eq_1
def cv7:CC:=(.reg [(qq a9 (.mv z4)),(qq dp (.fa 5 z1)),(qq dk (.ld1 dx)),(qq dy (.ln .slice dC)),(qq dN (.bi .lss z9 dX))])
def dB1:=wu cv7.eq_1
def cv8:CC:=(.reg [(qq dY (.fa 5 z1)),(qq eE (.ld1 eF)),(qq dT (.mv z4)),(qq eG (.iaS 5 eD fm)),(qq fF (.ldn 5 fS)),(ee eR (.call 29 [fD])),(qq fv (.un .not gv))])
def dB2:=wu cv8.eq_1
def cv9:CC:=(.reg [(qq fl (.mv z4)),(qq a2 (.mv gH)),(qq a3 (.mv (x6 2)))])
def dB3:=wu cv9.eq_1
def cw0:CC:=(.seq cv8 (.cond gb (.seq cv9 .ret) .skip))
def dB4:=wu cw0.eq_1
def bk6:CC:=(.reg [(qq dL (.mv z4)),(qq dS (.bi .add eu (x6 1))),(qq a4 (.mv dM))])
def d70:=wu bk6.eq_1
def bk7:CC:=(.seq (.seq cv7 (.cond dG .skip (.exit 0))) (.seq (.block 1 cw0) bk6))
def d71:=wu bk7.eq_1
def bk8:CC:=(.reg [(qq dU (.fa 5 z1)),(qq eV (.ld1 gM)),(qq eb (.ln .slice gO)),(qq fG (.bi .gtr gw (x6 4096)))])
def d72:=wu bk8.eq_1
def bk9:CC:=(.reg [(qq a2 (.mv (x6 0))),(qq a3 (.mv (x6 3)))])
def d73:=wu bk9.eq_1
def bl0:CC:=(.seq bk8 (.cond gy (.seq bk9 .ret) .skip))
def d74:=wu bl0.eq_1
def bl1:CC:=(.reg [(qq a2 (.mv (x6 0))),(qq a3 (.mv (x6 0)))])
def d75:=wu bl1.eq_1
def bl2:CC:=(.seq (.seq cv6 (.block 0 (.loop bk7))) (.seq bl0 (.seq bl1 .ret)))
def d76:=wu bl2.eq_1
def c9:CF:= .mk 5 [.t a2,.t a3] (.seq cv2 (.seq cv5 bl2))
theorem e9(v0:V):aU 5 [v0]=(.n lj (some v0) lj):=rfl
def B9:=ai @e9 (ai @d69 (ai @d77 (ai @d78 (ai @d79 (ai @dB0 (ai @dB1 (ai @dB2 (ai @dB3 (ai @dB4 (ai @d70 (ai @d71 (ai @d72 (ai @d73 (ai @d74 (ai @d75 (@d76))))))))))))))))
def sI:List AC→Option Nat
 |[]=>none
 |y::r=>if nk y=true then(sI r).map (· +1)else some 0
theorem A5:∀{ys:List AC} {i:Nat} (h:i<ys.length),(ys.take i).all nk=true→nk ys[i]=false→sI ys=some i
 |y::r,0,h,_,h2=>by
  have h2:nk y=false:=h2;show(if nk y=true then _ else some 0)=_;rw[h2];rfl
 |y::r,i+1,h,h1,h2=>by
  rw[List.take_succ_cons,List.all_cons,aC]at h1;show(if nk y=true then(sI r).map (· +1)else some 0)=_;rw[ae h1.1,A5 (ys:=r) (i:=i) (by simpa using h) h1.2 h2];rfl
theorem re:∀{ys:List AC},ys.all nk=true→sI ys=none
 |[],_=>rfl
 |y::r,h=>by
  rw[List.all_cons,aC]at h;show(if nk y=true then(sI r).map (· +1)else some 0)=_;rw[ae h.1,re h.2];rfl
def fV(s:SC):Int×Int:=if rK s=true then(match sI s.ys with|some i=>((i:Int),2)|none=>if s.ys.length≤4096 then(0,0)else(0,3))else(0,2)
def sM(s:SC):V:= .t [.i .i64 (fV s).1,.i .i64 (fV s).2]
theorem X9(h:rK s=false):sM s= .t [.i .i64 0,.i .i64 2]:=by
 unfold sM fV;rw[h];rfl
theorem Jh(h:rK s=true)(hb:sI s.ys=some i):sM s= .t [.i .i64 (i:Int),.i .i64 2]:=by
 unfold sM fV;rw[ae h,hb]
theorem Xa(h:rK s=true)(hb:sI s.ys=none)(hl:s.ys.length≤4096):sM s= .t [.i .i64 0,.i .i64 0]:=by
 unfold sM fV;rw[ae h,hb]
 show V.t [.i .i64 (if s.ys.length≤4096 then((0:Int),(0:Int))else(0,3)).1,_]=_
 rw[ae hl]
theorem C2(h:rK s=true)(hb:sI s.ys=none)(hl:¬s.ys.length≤4096):sM s= .t [.i .i64 0,.i .i64 3]:=by
 unfold sM fV;rw[ae h,hb]
 show V.t [.i .i64 (if s.ys.length≤4096 then((0:Int),(0:Int))else(0,3)).1,_]=_
 rw[ab hl]
theorem r9(h:Φ 9=some c9)(h13:Φ 13=some c13)(h38:Φ 38=some c38)(h29:Φ 29=some c29)(h61:Φ 61=some LL)(ok:cO F M c)(hs:qV F M c va vp vi vt s)(hb:∀y∈s.ys,pV y)(z1:s.ac.length≤1000000)(z2:s.pg.length≤1000000)(z4:s.ys.length≤1000000):
 Calls Φ F 9 [.g [.i .i64 s.fr,.i .i64 s.se,va,vp,vi,vt]] M c fun r M' c'=>r=sM s∧Gr c M c' M':=by
 refine ax h ?_
 obtain⟨o1,o2,o3⟩:=aK hs.1
 obtain⟨ep,sp,_⟩:=hs.2.1
 obtain⟨p1,p2,p3⟩:=aK sp
 obtain⟨q1,q2,q3⟩:=aK hs.2.2.1
 obtain⟨et,st,_⟩:=hs.2.2.2
 obtain⟨t1,t2,t3⟩:=aK st
 have g1:=(Gr.refl ok).set c (au 31 [.i .i64 s.fr,.i .i64 s.se,va,vp,vi,vt]) (ak _) (aD _) (aA _)
 have b0:(M.set c (au 31 [.i .i64 s.fr,.i .i64 s.se,va,vp,vi,vt])).get c=some (au 31 [.i .i64 s.fr,.i .i64 s.se,va,vp,vi,vt]):=am _ _ _
 have hs1:=hs.grow g1
 simp only[WX,Nat.reduceAdd,e9,d69,o1,p1,q1,t3]
 generalize M.set c (au 31 [.i .i64 s.fr,.i .i64 s.se,va,vp,vi,vt])=M1 at g1 b0 hs1⊢
 have cW:=g1.ok ok
 have ld:loadN F M1 c 0 5=some [.i .i64 s.fr,.i .i64 s.se,va,vp,vi]:=da b0 [.i .i64 s.fr,.i .i64 s.se,va,vp,vi] [vt] rfl (by simp)
 simp only[WX,d77,d79,ld]
 refine aw ((r13 h13 h38 cW hs1.1 hs1.2.1 hs1.2.2.1 z1 z2).mono ?_)
 rintro r M2 c2 ⟨rfl,g2⟩
 have g3:=g1.trans g2
 have ok2:=g2.ok cW
 have ht:=hs1.2.2.2.grow g2
 cases hS:rK s with
 |false=>
  simp only[WX,d78];exact⟨(X9 hS).symm,g3⟩
 |true=>
 simp only[WX,B9]
 obtain⟨I,hI⟩:∃I:Nat→St→Prop,∀n s',I n s'↔(∃(i c1:Nat) (N:Mem) (u:List (Option V)),n=s.ys.length-i∧i≤s.ys.length∧s'= .mk ((cQ0 u (.p c 0) (.i .i64 0) (.i .i64 0) (.i .i64 (i:Int)))) [] N c1∧Gr c2 M2 c1 N∧(s.ys.take i).all nk=true):=⟨fun n s'=>_,fun _ _=>Iff.rfl⟩
 refine bD I ?_ s.ys.length _ ((hI _ _).2 ⟨0,c2,M2,(X1 (G4 (cj (X8 (X2 []))))),rfl,aE _,rfl,Gr.refl ok2,rfl⟩)
 intro n s' hIs
 obtain⟨i,c1,N,u,rfl,hi,rfl,g4,hall⟩:=(hI _ _).1 hIs
 clear hIs
 have hcb:c<c2:=by have:=g2.le;omega
 have l5:load1 F N c 5=some vt:=by rw[g4.load1 hcb,g2.load1 (by omega)];exact aj b0 5
 have ht1:=ht.grow g4
 have n5:=ht1.len
 have q8:bX .add (.i .i64 (i:Int)) (.i .i64 1)=some (.i .i64 ((i+1:Nat):Int)):=by rw[aN _ _ (by omega) (by omega)];simp
 by_cases hlt:i<s.ys.length
 ·have d1:decide ((i:Int)<(s.ys.length:Int))=true:=af (by omega);obtain⟨pb,po,vd,vl,hpb,hia,hld,sd,sl⟩:=ht1.at i hlt;simp only[WX,B9,l5,n5,d1,hia,hld];refine aw ((r29 h29 h61 (g4.ok ok2) (hb _ (List.getElem_mem hlt)) sd sl).mono ?_);rintro r N2 c3 ⟨rfl,g5⟩;cases hA:nk s.ys[i]with
  |false=>
   simp only[WX,B9];exact⟨(Jh hS (A5 hlt hall hA)).symm,(g3.trans g4).trans g5⟩
  |true=>
   simp only[WX,B9,q8];exact⟨s.ys.length-(i+1),by omega,(hI _ _).2 ⟨i+1,c3,N2,(X1 (G4 (cj (X8 (X2 []))))),rfl,hlt,rfl,g4.trans g5,by rw[cq hlt,List.all_append,hall];simp[hA]⟩⟩
 ·obtain rfl:i=s.ys.length:=by omega
  have d1:decide ((s.ys.length:Int)<(s.ys.length:Int))=false:=ah (by omega);rw[List.take_length]at hall;by_cases hl:s.ys.length≤4096
  ·have d2:decide ((4096:Int)<(s.ys.length:Int))=false:=ah (by omega);simp only[WX,B9,l5,n5,d1,d2];exact⟨(Xa hS (re hall) hl).symm,g3.trans g4⟩
  ·have d2:decide ((4096:Int)<(s.ys.length:Int))=true:=af (by omega);simp only[WX,B9,l5,n5,d1,d2];exact⟨(C2 hS (re hall) hl).symm,g3.trans g4⟩
abbrev cQ1(u:List (Option V))(x1 x13 x14 x15:V):T:=(.n (.n (.n (.n (.n (ia u 31) (some x15) (ia u 47)) (uO u 7) (fu u 39 23 55)) (uO u 3) (aq u 35 19 51 11 43 27 59)) (some x1) (.n (aq u 33 17 49 9 41 25 57) (uO u 5) (.n (fu u 37 21 53) (some x13) (fu u 45 29 61)))) (uO u 0) (.n (.n (aq u 32 16 48 8 40 24 56) (uO u 4) (aq u 36 20 52 12 44 28 60)) (uO u 2) (.n (aq u 34 18 50 10 42 26 58) (uO u 6) (.n (fu u 38 22 54) (some x14) (fu u 46 30 62)))))
def cs6:CC:=(.reg [(aa a1 (.bx 31 6 z0)),(qq a2 (.mv (x6 0))),(qq a3 (.mv (x6 0)))])
def d21:=wu cs6.eq_1
def cs7:CC:=(.reg [(qq a8 (.fa 0 z1)),(qq a9 (.ldn 5 z8)),(ee dp (.call 12 [z9])),(qq dk (.un .not dx))])
def d31:=wu cs7.eq_1
def cs8:CC:=(.reg [(qq a2 (.mv (x6 0))),(qq a3 (.mv (x6 2)))])
def d32:=wu cs8.eq_1
def cs9:CC:=(.seq cs7 (.cond dC (.seq cs8 .ret) .skip))
def d33:=wu cs9.eq_1
def ct0:CC:=(.reg [(qq dy (.fa 5 z1)),(qq dN (.ld1 dX)),(qq dL (.ln .slice dG)),(qq dS (.mv (x6 0)))])
def dA4:=wu ct0.eq_1
def ct3:CC:=(.reg [(qq dY (.bi .lss dM eu))])
def dA5:=wu ct3.eq_1
def ct4:CC:=(.reg [(qq eE (.mv dM)),(qq dT (.iaS 5 dG dM)),(qq eG (.ldn 5 fm)),(aa a5 (.al 51 [(.i .i64 0),(.i .i64 0),(.s 0 0),.l0,.l0])),(qq a4 (.mv eD)),(ez (.st 5 z5 fS))])
def dA6:=wu ct4.eq_1
def ct5:CC:=(.reg [(qq eR (.ldn 5 z5)),(ee fv (.call 21 [gv])),(qq fF (.mv gb)),(qq fl (.ex 0 fD)),(qq dU (.ex 1 fD)),(qq a6 (.mv gH)),(qq a7 (.mv gM))])
def dA7:=wu ct5.eq_1
def ct6:CC:=(.reg [(qq eV (.mv z7)),(qq eb (.un .not gO))])
def dA8:=wu ct6.eq_1
def b87:CC:=(.reg [(qq fG (.mv z4)),(qq a2 (.mv gy)),(qq a3 (.mv (x6 2)))])
def d22:=wu b87.eq_1
def b88:CC:=(.seq ct6 (.cond gw (.seq b87 .ret) .skip))
def d23:=wu b88.eq_1
def b89:CC:=(.reg [(qq gi (.bi .add dM (x6 1))),(qq dS (.mv iz))])
def d24:=wu b89.eq_1
def b90:CC:=(.seq (.cond eF .skip (.exit 0)) (.seq (.block 1 (.seq ct4 (.seq ct5 b88))) b89))
def d25:=wu b90.eq_1
def b91:CC:=(.reg [(qq gg (.fa 5 z1)),(qq gQ (.ld1 iA)),(qq j4 (.ln .slice iE)),(qq gj (.bi .gtr jh (x6 4096)))])
def d26:=wu b91.eq_1
def b92:CC:=(.reg [(qq a2 (.mv (x6 0))),(qq a3 (.mv (x6 3)))])
def d27:=wu b92.eq_1
def b93:CC:=(.cond jL (.seq b92 .ret) .skip)
def d28:=wu b93.eq_1
def b94:CC:=(.reg [(qq a2 (.mv (x6 0))),(qq a3 (.mv (x6 0)))])
def d29:=wu b94.eq_1
def b95:CC:=(.seq (.seq ct0 (.block 0 (.loop (.seq ct3 b90)))) (.seq (.seq b91 b93) (.seq b94 .ret)))
def d30:=wu b95.eq_1
def c7:CF:= .mk 6 [.t a2,.t a3] (.seq cs6 (.seq cs9 b95))
theorem e7(v0:V):aU 6 [v0]=(.n mM (some v0) mM):=rfl
def B7:=ai @e7 (ai @d21 (ai @d31 (ai @d32 (ai @d33 (ai @dA4 (ai @dA5 (ai @dA6 (ai @dA7 (ai @dA8 (ai @d22 (ai @d23 (ai @d24 (ai @d25 (ai @d26 (ai @d27 (ai @d28 (ai @d29 (@d30))))))))))))))))))
theorem r7(h:Φ 7=some c7)(p:SuP Φ)(w:BA Φ L)(ok:cO F M c)(htb:bn F L=true)(hs:qV F M c va vp vi vt s)(hb:∀y∈s.ys,pV y)(hf:bZ s.fr)(hse:bZ s.se)(z1:s.ac.length≤1000000)(z2:s.pg.length≤1000000)(z4:s.ys.length≤1000000):
 Calls Φ F 7 [.g [.i .i64 s.fr,.i .i64 s.se,va,vp,vi,vt]] M c fun r M' c'=>r=sM s∧Gr c M c' M':=by
 refine ax h ?_
 obtain⟨o1,o2,o3⟩:=aK hs.1
 obtain⟨ep,sp,_⟩:=hs.2.1
 obtain⟨p1,p2,p3⟩:=aK sp
 obtain⟨q1,q2,q3⟩:=aK hs.2.2.1
 obtain⟨et,st,_⟩:=hs.2.2.2
 obtain⟨t1,t2,t3⟩:=aK st
 have g1:=(Gr.refl ok).set c (au 31 [.i .i64 s.fr,.i .i64 s.se,va,vp,vi,vt]) (ak _) (aD _) (aA _)
 have b0:(M.set c (au 31 [.i .i64 s.fr,.i .i64 s.se,va,vp,vi,vt])).get c=some (au 31 [.i .i64 s.fr,.i .i64 s.se,va,vp,vi,vt]):=am _ _ _
 have hs1:=hs.grow g1
 simp only[WX,Nat.reduceAdd,e7,d21,o1,p1,q1,t3]
 generalize M.set c (au 31 [.i .i64 s.fr,.i .i64 s.se,va,vp,vi,vt])=M1 at g1 b0 hs1⊢
 have cW:=g1.ok ok
 have ld:loadN F M1 c 0 5=some [.i .i64 s.fr,.i .i64 s.se,va,vp,vi]:=da b0 [.i .i64 s.fr,.i .i64 s.se,va,vp,vi] [vt] rfl (by simp)
 simp only[WX,d31,d33,ld]
 refine aw ((r12 p cW hs1.1 hs1.2.1 hs1.2.2.1 hf hse z1 z2).mono ?_)
 rintro r M2 c2 ⟨rfl,g2⟩
 have g3:=g1.trans g2
 have ok2:=g2.ok cW
 have ht:=hs1.2.2.2.grow g2
 have l5':load1 F M2 c 5=some vt:=by rw[g2.load1 (by omega)];exact aj b0 5
 have n5':=ht.len
 cases hS:rK s with
 |false=>
  simp only[WX,d32];exact⟨(X9 hS).symm,g3⟩
 |true=>
 simp only[WX,B7,l5',n5']
 obtain⟨I,hI⟩:∃I:Nat→St→Prop,∀n s',I n s'↔(∃(i c1:Nat) (N:Mem) (u:List (Option V)),n=s.ys.length-i∧i≤s.ys.length∧s'= .mk ((cQ1 u (.p c 0) vt (.i .i64 (s.ys.length:Int)) (.i .i64 (i:Int)))) [] N c1∧Gr c2 M2 c1 N∧(s.ys.take i).all nk=true):=⟨fun n s'=>_,fun _ _=>Iff.rfl⟩
 refine bD I ?_ s.ys.length _ ((hI _ _).2 ⟨0,c2,M2,(X1 (G1 (X8 (X2 (X1 (G2 (G1 (cw (X8 (X4 (X2 (X1 [])))))))))))),rfl,aE _,rfl,Gr.refl ok2,rfl⟩)
 intro n s' hIs
 obtain⟨i,c1,N,u,rfl,hi,rfl,g4,hall⟩:=(hI _ _).1 hIs
 clear hIs
 have hcb:c<c2:=by have:=g2.le;omega
 have l5:load1 F N c 5=some vt:=by rw[g4.load1 hcb];exact l5'
 have ht1:=ht.grow g4
 have n5:=ht1.len
 have q8:bX .add (.i .i64 (i:Int)) (.i .i64 1)=some (.i .i64 ((i+1:Nat):Int)):=by rw[aN _ _ (by omega) (by omega)];simp
 by_cases hlt:i<s.ys.length
 ·have d1:decide ((i:Int)<(s.ys.length:Int))=true:=af (by omega);obtain⟨pb,po,vd,vl,hpb,hia,hld,sd,sl⟩:=ht1.at i hlt;obtain⟨u1,u2,u3⟩:=aK sd;obtain⟨u4,u5,u6⟩:=aK sl;have gB:=(Gr.refl (g4.ok ok2)).set c1 (au 51 [.i .i64 s.ys[i].k,.i .i64 s.ys[i].a,sV s.ys[i].tx,vd,vl]) (ak _) (aD _) (aA _);simp only[WX,Nat.reduceAdd,Nat.reduceLeDiff,B7,d1,hia,hld,gq,u1,u6];refine aw ((r21 w (gB.ok (g4.ok ok2)) htb (hb _ (List.getElem_mem hlt)) (sd.grow gB) (sl.grow gB)).mono ?_);rintro r N2 c3 ⟨⟨ln,rfl,_⟩,g5⟩;cases hA:nk s.ys[i]with
  |false=>
   simp only[WX,B7];exact⟨(Jh hS (A5 hlt hall hA)).symm,((g3.trans g4).trans gB).trans g5⟩
  |true=>
   simp only[WX,B7,q8];exact⟨s.ys.length-(i+1),by omega,(hI _ _).2 ⟨i+1,c3,N2,(X1 (G1 (X8 (X2 (X1 (G2 (G1 (cw (X8 (X4 (X2 (X1 [])))))))))))),rfl,hlt,rfl,(g4.trans gB).trans g5,by rw[cq hlt,List.all_append,hall];simp[hA]⟩⟩
 ·obtain rfl:i=s.ys.length:=by omega
  have d1:decide ((s.ys.length:Int)<(s.ys.length:Int))=false:=ah (by omega);rw[List.take_length]at hall;by_cases hl:s.ys.length≤4096
  ·have d2:decide ((4096:Int)<(s.ys.length:Int))=false:=ah (by omega);simp only[WX,B7,l5,n5,d1,d2];exact⟨(Xa hS (re hall) hl).symm,g3.trans g4⟩
  ·have d2:decide ((4096:Int)<(s.ys.length:Int))=true:=af (by omega);simp only[WX,B7,l5,n5,d1,d2];exact⟨(C2 hS (re hall) hl).symm,g3.trans g4⟩
abbrev cQ2(u:List (Option V))(x0 x7 x8 x9:V):T:=(.n (.n (.n (.n (ia u 15) (some x7) (ia u 23)) (uO u 3) (fu u 19 11 27)) (uO u 1) (.n (.n (ia u 17) (some x9) (ia u 25)) (uO u 5) (fu u 21 13 29))) (some x0) (.n (.n (.n (ia u 16) (some x8) (ia u 24)) (uO u 4) (fu u 20 12 28)) (uO u 2) (aq u 18 10 26 6 22 14 30)))
abbrev cQ3(u:List (Option V))(x0 x1 x5:V):T:=(.n (.n (aq u 15 7 23 3 19 11 27) (some x1) (.n (fu u 17 9 25) (some x5) (fu u 21 13 29))) (some x0) (.n (aq u 16 8 24 4 20 12 28) (uO u 2) (aq u 18 10 26 6 22 14 30)))
def aN3:CC:=(.reg [(qq a4 (.mv (.c (.s 0 0))))])
def aN4:CC:=(.reg [(qq a7 (.mv z1)),(qq a8 (.ln .slice z7)),(qq a9 (.mv (x6 0)))])
def aN5:CC:=(.reg [(qq dp (.bi .lss z9 z8))])
def aN6:CC:=(.reg [(qq dk (.iaS 1 z7 z9)),(qq dy (.ld1 dC)),(qq a6 (.mv dX))])
def aN7:CC:=(.reg [(qq dN (.mv z0)),(qq dL (.mv z6)),(ee dS (.call 56 [eu])),(qq dY (.bi .add (.c (.s 1 32)) dM)),(qq eE (.bi .add dG eF)),(qq a0 (.mv eD))])
def aN8:CC:=(.reg [(qq dT (.bi .add z9 (x6 1))),(qq a9 (.mv fm))])
def aN9:CC:=(.seq (.cond dx .skip (.exit 0)) (.seq (.block 1 (.seq aN6 aN7)) aN8))
def aO0:CC:=(.reg [(qq eG (.mv z0)),(qq a4 (.mv fS))])
def aO1:CC:=(.seq (.seq aN4 (.block 0 (.loop (.seq aN5 aN9)))) (.seq aO0 .ret))
def c25:CF:= .mk 5 [.t a4] (.seq aN3 aO1)
theorem e25(v0 v1:V):aU 5 [v0,v1]=(.n (.n iy (some v1) iy) (some v0) lj):=rfl
def B25:=ai @e25 (ai (wu aN3.eq_1) (ai (wu aN4.eq_1) (ai (wu aN5.eq_1) (ai (wu aN6.eq_1) (ai (wu aN7.eq_1) (ai (wu aN8.eq_1) (ai (wu aN9.eq_1) (ai (wu aO0.eq_1) (wu aO1.eq_1)))))))))
def b38:CC:=(.reg [(qq a4 (.mv (.c (.s 0 0))))])
def b39:CC:=(.reg [(qq a5 (.mv (x6 0)))])
def b40:CC:=(.reg [(qq a6 (.mv z5)),(qq a7 (.mv z1)),(qq a8 (.ln .slice z7)),(qq a9 (.bi .lss z6 z8))])
def b41:CC:=(.reg [(qq dy (.mv z0)),(qq dN (.bi .add dX (.c (.s 1 32)))),(qq dL (.mv z1)),(qq dS (.mv z5)),(qq dY (.iaS 1 eu dM)),(qq eE (.ld1 eF)),(ee dT (.call 56 [eD])),(qq eG (.bi .add dG fm)),(qq a0 (.mv fS))])
def b42:CC:=(.reg [(qq dp (.mv z5)),(qq dk (.bi .add dx (x6 1))),(qq a5 (.mv dC))])
def b43:CC:=(.seq (.seq b40 (.cond z9 .skip (.exit 0))) (.seq (.block 1 b41) b42))
def b44:CC:=(.reg [(qq fF (.mv z0)),(qq a4 (.mv fD))])
def b45:CC:=(.seq (.seq b39 (.block 0 (.loop b43))) (.seq b44 .ret))
def c64:CF:= .mk 5 [.t a4] (.seq b38 b45)
theorem e64(v0 v1:V):aU 5 [v0,v1]=(.n (.n iy (some v1) iy) (some v0) lj):=rfl
def B64:=ai @e64 (ai (wu b38.eq_1) (ai (wu b39.eq_1) (ai (wu b40.eq_1) (ai (wu b41.eq_1) (ai (wu b42.eq_1) (ai (wu b43.eq_1) (ai (wu b44.eq_1) (wu b45.eq_1))))))))
theorem uV{m:Int}(h:bZ m):(bT m).length≤21:=eJ h
def wM(w:List UInt8)(l:List Int):List UInt8:=l.foldl (fun a n=>a++32::bT n) w
def ET(l:List Int):List (List V):=l.map fun n=>[.i .i64 n]
theorem rE(l:List Int):(ET l).length=l.length:=List.length_map _
theorem Ct(w:List UInt8)(l:List Int)(n:Int):wM w (l++[n])=wM w l++(32::bT n):=by
 unfold wM;rw[List.foldl_append];rfl
theorem my:∀(l:List Int) (w:List UInt8),(∀n∈l,bZ n)→(wM w l).length≤w.length+40*l.length
 |[],w,_=>by show w.length≤_;omega
 |n::l,w,h=>by
  have h1:=my l (w++32::bT n) fun n hn=>h n (bN _ hn);have h2:=uV (h n (ck ..));rw[aG,aP]at h1;show(wM (w++32::bT n) l).length≤_;rw[aP];omega
theorem r25(h:Φ 25=some c25)(h56:Φ 56=some (.orc (cI L qR))){w:List UInt8}{l:List Int}(ok:cO F M c)(ht:bn F L=true)(hs:bG F M c 1 v (ET l))(hr:∀n∈l,bZ n)(hl:l.length≤1000000)(hw:w.length≤1000000):
 Calls Φ F 25 [sV w,v] M c fun r M' c'=>r=sV (wM w l)∧M'=M∧c'=c:=by
 refine ax h ?_
 have hT:=fun h args M c=>cP ht h args M c
 have hln:l6 v=some (.i .i64 (l.length:Int)):=by have:=hs.len;rwa [rE]at this
 simp only[WX,B25,hln]
 obtain⟨I,hI⟩:∃I:Nat→St→Prop,∀n s',I n s'↔(∃(i:Nat) (u:List (Option V)),n=l.length-i∧i≤l.length∧s'= .mk ((cQ2 u (sV (wM w (l.take i))) v (.i .i64 (l.length:Int)) (.i .i64 (i:Int)))) [] M c):=⟨fun n s'=>_,fun _ _=>Iff.rfl⟩
 refine bD I ?_ l.length _ ((hI _ _).2 ⟨0,(G1 (X4 (X2 (G2 (G1 (cj (X4 (X1 [])))))))),rfl,aE _,rfl⟩)
 intro n s' hIs
 obtain⟨i,u,rfl,hi,rfl⟩:=(hI _ _).1 hIs
 clear hIs
 have q8:bX .add (.i .i64 (i:Int)) (.i .i64 1)=some (.i .i64 ((i+1:Nat):Int)):=by rw[aN _ _ (by omega) (by omega)];simp
 by_cases hlt:i<l.length
 ·have d1:decide ((i:Int)<(l.length:Int))=true:=af (by omega);obtain⟨pb,po,hpb,hia,hld⟩:=hs.one i (by rw[rE];exact hlt) (x:= .i .i64 l[i]) (List.getElem_map ..);have hia:=hia .i64;have hrg:=hr _ (List.getElem_mem hlt);have hit:=fg hrg.1 hrg.2;have s1:bX .add (.s 1 32) (sV (bT l[i]))=some (sV (32::bT l[i])):=cL [32] _ (by have:=uV hrg;simp;omega);have hln2:=my (l.take i) w (fun n hn=>hr n (List.mem_of_mem_take hn));have hln3:(l.take i).length≤l.length:=by rw[List.length_take];omega
  have hln4:=uV hrg;have s2:=cL (wM w (l.take i)) (32::bT l[i]) (by rw[aP];omega);rw[←Ct,←cq hlt]at s2;simp only[WX,B25,d1,hia,hld,h56,hT,hit,s1,s2,q8];exact⟨l.length-(i+1),by omega,(hI _ _).2 ⟨i+1,(G1 (X4 (X2 (G2 (G1 (cj (X4 (X1 [])))))))),rfl,hlt,rfl⟩⟩
 ·obtain rfl:i=l.length:=by omega
  have d1:decide ((l.length:Int)<(l.length:Int))=false:=ah (by omega);rw[List.take_length];simp only[WX,B25,d1]
theorem r64(h:Φ 64=some c64)(h56:Φ 56=some (.orc (cI L qR))){w:List UInt8}{l:List Int}(ok:cO F M c)(ht:bn F L=true)(hs:bG F M c 1 v (ET l))(hr:∀n∈l,bZ n)(hl:l.length≤1000000)(hw:w.length≤1000000):
 Calls Φ F 64 [sV w,v] M c fun r M' c'=>r=sV (wM w l)∧M'=M∧c'=c:=by
 refine ax h ?_
 have hT:=fun h args M c=>cP ht h args M c
 have hln:l6 v=some (.i .i64 (l.length:Int)):=by have:=hs.len;rwa [rE]at this
 simp only[WX,B64]
 obtain⟨I,hI⟩:∃I:Nat→St→Prop,∀n s',I n s'↔(∃(i:Nat) (u:List (Option V)),n=l.length-i∧i≤l.length∧s'= .mk ((cQ3 u (sV (wM w (l.take i))) v (.i .i64 (i:Int)))) [] M c):=⟨fun n s'=>_,fun _ _=>Iff.rfl⟩
 refine bD I ?_ l.length _ ((hI _ _).2 ⟨0,(G2 (X2 (X1 (G1 (cj (X8 (X1 []))))))),rfl,aE _,rfl⟩)
 intro n s' hIs
 obtain⟨i,u,rfl,hi,rfl⟩:=(hI _ _).1 hIs
 clear hIs
 have q8:bX .add (.i .i64 (i:Int)) (.i .i64 1)=some (.i .i64 ((i+1:Nat):Int)):=by rw[aN _ _ (by omega) (by omega)];simp
 by_cases hlt:i<l.length
 ·have d1:decide ((i:Int)<(l.length:Int))=true:=af (by omega);obtain⟨pb,po,hpb,hia,hld⟩:=hs.one i (by rw[rE];exact hlt) (x:= .i .i64 l[i]) (List.getElem_map ..);have hia:=hia .i64;have hrg:=hr _ (List.getElem_mem hlt);have hit:=fg hrg.1 hrg.2;have hln2:=my (l.take i) w (fun n hn=>hr n (List.mem_of_mem_take hn));have hln3:(l.take i).length≤l.length:=by rw[List.length_take];omega
  have hln4:=uV hrg;have s1:bX .add (sV (wM w (l.take i))) (.s 1 32)=some (sV (wM w (l.take i)++[32])):=cL _ [32] (by simp only[aP,bo];omega);have s2:=cL (wM w (l.take i)++[32]) (bT l[i]) (by rw[aG,aP,bo];omega);rw[cB,List.singleton_append,←Ct,←cq hlt]at s2;simp only[WX,B64,hln,d1,hia,hld,h56,hT,hit,s1,s2,q8];exact⟨l.length-(i+1),by omega,(hI _ _).2 ⟨i+1,(G2 (X2 (X1 (G1 (cj (X8 (X1 []))))))),rfl,hlt,rfl⟩⟩
 ·obtain rfl:i=l.length:=by omega
  have d1:decide ((l.length:Int)<(l.length:Int))=false:=ah (by omega);rw[List.take_length];simp only[WX,B64,hln,d1]
abbrev Ze(u:List (Option V))(x1 x3:V):T:=(.n (.n (.n (.n (aq u 63 31 95 15 79 47 111) (uO u 7) (aq u 71 39 103 23 87 55 119)) (some x3) (.n (aq u 67 35 99 19 83 51 115) (uO u 11) (aq u 75 43 107 27 91 59 123))) (some x1) (.n (.n (aq u 65 33 97 17 81 49 113) (uO u 9) (aq u 73 41 105 25 89 57 121)) (uO u 5) (.n (aq u 69 37 101 21 85 53 117) (uO u 13) (aq u 77 45 109 29 93 61 125)))) (uO u 0) (.n (.n (.n (aq u 64 32 96 16 80 48 112) (uO u 8) (aq u 72 40 104 24 88 56 120)) (uO u 4) (.n (aq u 68 36 100 20 84 52 116) (uO u 12) (aq u 76 44 108 28 92 60 124))) (uO u 2) (.n (.n (aq u 66 34 98 18 82 50 114) (uO u 10) (aq u 74 42 106 26 90 58 122)) (uO u 6) (.n (aq u 70 38 102 22 86 54 118) (uO u 14) (aq u 78 46 110 30 94 62 126)))))
abbrev cQ4(u:List (Option V))(x1 x3 x6:V):T:=(.n (.n (.n (.n (aq u 63 31 95 15 79 47 111) (uO u 7) (aq u 71 39 103 23 87 55 119)) (some x3) (.n (aq u 67 35 99 19 83 51 115) (uO u 11) (aq u 75 43 107 27 91 59 123))) (some x1) (.n (.n (aq u 65 33 97 17 81 49 113) (uO u 9) (aq u 73 41 105 25 89 57 121)) (uO u 5) (.n (aq u 69 37 101 21 85 53 117) (uO u 13) (aq u 77 45 109 29 93 61 125)))) (uO u 0) (.n (.n (.n (aq u 64 32 96 16 80 48 112) (uO u 8) (aq u 72 40 104 24 88 56 120)) (uO u 4) (.n (aq u 68 36 100 20 84 52 116) (uO u 12) (aq u 76 44 108 28 92 60 124))) (uO u 2) (.n (.n (aq u 66 34 98 18 82 50 114) (uO u 10) (aq u 74 42 106 26 90 58 122)) (some x6) (.n (aq u 70 38 102 22 86 54 118) (uO u 14) (aq u 78 46 110 30 94 62 126)))))
def aT7:CC:=(.reg [(aa a1 (.bx 28 5 z0)),(qq a2 (.mv (.c .l0)))])
def bu4:=wu aT7.eq_1
def aT8:CC:=(.reg [(qq a7 (.fa 0 z1)),(qq a8 (.fa 0 z7)),(qq a9 (.ld1 z8)),(qq dp (.fa 0 z1)),(qq dk (.fa 1 dx)),(qq dy (.ld1 dC)),(aa dN (.bsl 3 2 1 [(.i .i64 0)] [(0,z9),(1,dX)])),(ee dL (.call 64 [(.c (.s 7 28550371649741165)),dG])),(aa dS (.bsl 9 1 1 [(.s 0 0)] [(0,eu)])),(qq a3 (.mv dM))])
def bu5:=wu aT8.eq_1
def TS:CC:=(.reg [(qq a4 (.mv (x6 0)))])
def bu6:=wu TS.eq_1
def aT9:CC:=(.reg [(qq dY (.mv z4)),(qq eE (.fa 0 z1)),(qq dT (.fa 2 eD)),(qq eG (.ld1 fm)),(qq fF (.ln .slice fS)),(qq eR (.bi .lss eF fD))])
def ZY:=wu aT9.eq_1
def aU0:CC:=(.seq aT9 (.cond gv .skip (.exit 0)))
def ZZ:=wu aU0.eq_1
def aU1:CC:=(.reg [(qq dU (.fa 0 z1)),(qq eV (.fa 2 gM)),(qq eb (.ld1 gO)),(qq fG (.mv z4)),(qq gi (.iaS 3 gw gy)),(qq gg (.ldn 3 iz)),(aa a5 (.al 75 [(.i .i64 0),(.i .i64 0),(.i .i64 0)])),(ez (.st 3 z5 iA))])
def bu7:=wu aU1.eq_1
def aU2:CC:=(.reg [(qq gQ (.mv z3)),(qq j4 (.fa 0 z5)),(qq gj (.ld1 jh)),(qq iG (.fa 1 z5)),(qq fT (.ld1 kz)),(qq j5 (.fa 2 z5)),(qq kv (.ld1 kD)),(aa jq (.bsl 3 3 1 [(.i .i64 0)] [(0,jL),(1,kC),(2,ll)])),(ee gR (.call 64 [(.c (.s 7 32772547957449569)),kr])),(aa j6 (.bsl 9 1 1 [(.s 0 0)] [(0,kW)])),(ee jr (.app 9 1 16 iE lh)),(qq a3 (.mv lm))])
def cX2:=wu aU2.eq_1
def aU3:CC:=(.reg [(qq fv (.mv z4)),(qq fl (.bi .add gb (x6 1))),(qq a4 (.mv gH))])
def cX3:=wu aU3.eq_1
def TT:CC:=(.loop (.seq aU0 (.seq (.block 1 (.seq aU1 aU2)) aU3)))
def bu8:=wu TT.eq_1
def TJ:CC:=(.reg [(qq a6 (.mv (x6 0)))])
def ZS:=wu TJ.eq_1
def TK:CC:=(.reg [(qq kF (.mv z6)),(qq jM (.fa 0 z1)),(qq j7 (.fa 3 lr)),(qq ky (.ld1 mW)),(qq js (.ln .slice ny)),(qq kX (.bi .lss lq nG))])
def ZT:=wu TK.eq_1
def TL:CC:=(.seq TK (.cond oD .skip (.exit 2)))
def ZU:=wu TL.eq_1
def TM:CC:=(.reg [(qq iB (.mv z3)),(qq nC (.fa 0 z1)),(qq kG (.fa 3 oF)),(qq kH (.ld1 pl)),(qq j8 (.mv z6)),(qq nK (.iaS 1 pS pm)),(qq nL (.ld1 pU)),(ee kI (.call 65 [qO])),(qq lx (.bi .add (.c (.s 8 2336630925664678512)) pn)),(aa lT (.bsl 9 1 1 [(.s 0 0)] [(0,qT)])),(ee qa (.app 9 1 16 nH qU)),(qq a3 (.mv sB))])
def bX5:=wu TM.eq_1
def TN:CC:=(.reg [(qq kY (.mv z6)),(qq kB (.bi .add nA (x6 1))),(qq a6 (.mv oE))])
def bX6:=wu TN.eq_1
def TO:CC:=(.block 2 (.loop (.seq TL (.seq (.block 3 TM) TN))))
def ZV:=wu TO.eq_1
def TP:CC:=(.reg [(qq oI (.fa 4 z1)),(qq qb (.ld1 sw)),(qq pq (.ln .slice ug)),(qq pj (.bi .gtr sy (x6 0)))])
def bX7:=wu TP.eq_1
def TQ:CC:=(.reg [(qq qc (.mv z3)),(qq qd (.fa 4 z1)),(qq tG (.ld1 uM)),(ee tH (.call 66 [vn])),(qq qQ (.bi .add (.c (.s 5 139392020073)) xX)),(aa um (.bsl 9 1 1 [(.s 0 0)] [(0,xY)])),(ee uo (.app 9 1 16 yA ya)),(qq a3 (.mv yb))])
def bX8:=wu TQ.eq_1
def E4:CC:=(.seq TP (.cond tC TQ .skip))
def bX9:=wu E4.eq_1
def E5:CC:=(.reg [(qq qX (.mv z3)),(qq a2 (.mv yc))])
def bY0:=wu E5.eq_1
def A2:CC:=(.seq (.seq TJ TO) (.seq E4 (.seq E5 .ret)))
def ZW:=wu A2.eq_1
def TR:CC:=(.seq aT7 (.seq aT8 (.seq (.seq TS (.block 0 TT)) A2)))
def ZX:=wu TR.eq_1
def c39:CF:= .mk 7 [.t a2] TR
theorem e39(v0:V):aU 7 [v0]=(.n sc (some v0) sc):=rfl
def B39:=ai @e39 (ai @bu4 (ai @bu5 (ai @bu6 (ai @ZY (ai @ZZ (ai @bu7 (ai @cX2 (ai @cX3 (ai @bu8 (ai @ZS (ai @ZT (ai @ZU (ai @bX5 (ai @bX6 (ai @ZV (ai @bX7 (ai @bX8 (ai @bX9 (ai @bY0 (ai @ZW (@ZX)))))))))))))))))))))
def nJ(F:RO)(M:Mem)(lo c:Nat)(v:V)(ls:List (List UInt8)):Prop:=(∃b,ls.length=1∧v= .l b 0 1 1∧lo≤b∧bG F M c 1 v (cR ls))∨ ∃b,lo≤b∧cA M lo c b 9 1 v (cR ls)∧ls≠[]
theorem jf(l:List (List UInt8)):(cR l).length=l.length:=List.length_map _
theorem nJ.grow{lo:Nat}{ls:List (List UInt8)}(h:nJ F M lo c v ls)(g:Gr c M c' M'):nJ F M' lo c' v ls:=by
 rcases h with⟨b,h1,h2,h3,h4⟩|⟨b,h1,h2,h3⟩
 ·exact .inl ⟨b,h1,h2,h3,h4.grow g⟩
 ·exact .inr ⟨b,h1,h2.gr g,h3⟩
theorem nJ.sl{lo:Nat}{ls:List (List UInt8)}(h:nJ F M lo c v ls):bG F M c 1 v (cR ls):=by
 rcases h with⟨b,_,_,_,h⟩|⟨b,_,h,_⟩
 ·exact h
 ·exact h.sl
theorem DN{lo:Nat}{ls:List (List UInt8)}(ok0:cO F M0 lo)(g:Gr lo M0 c M)(h:nJ F M lo c v ls)(w:List UInt8)(hr:ls.length≤60000):
 tF (kZ F (M.set c (cQ [.s 0 0] 9 [sV w])) (c+1) 9 1 16 v (.l c 0 1 1)) fun v' M' c'=>nJ F M' lo c' v' (ls++[w])∧Gr lo M0 c' M'∧(∀x ty l,x<c→M.get x=some (au ty l)→M'.get x=some (au ty l))∧c≤c':=by
 have gY:=(Gr.refl (g.ok ok0)).set c (cQ [.s 0 0] 9 [sV w]) (ak _) (aD _) (aA _)
 have g2:=g.trans gY
 have hy:bG F (M.set c (cQ [.s 0 0] 9 [sV w])) (c+1) 1 (.l c 0 1 1) (cR [w]):=qS (d:=[.s 0 0]) (ty:=9) (am _ _ _) (by omega) (fun e he=>by rw[List.mem_singleton.1 he];rfl) rfl
 have hcat:cR (ls++[w])=cR ls++cR [w]:=List.map_append ..
 have hlo:=g.le
 rcases h with⟨b,h1,rfl,h3,h4⟩|⟨b,h1,h2,hne⟩
 ·refine(zW (bytes:=16) (h4.grow gY) (by rw[jf];exact h1) Nat.one_pos hy (by simp[cR]) rfl (db (by rw[jf,h1];show(3*(1+1)+2000)*16≤_;omega) (by rw[jf,h1];show 1+1≤_;omega))).mono ?_;rintro v' M' c' ⟨rfl,rfl,rfl⟩;rw[←hcat];refine⟨.inr ⟨c+1,by omega,⟨fun e he=>by obtain⟨x,_,rfl⟩:=List.mem_map.1 he;rfl,.inr ⟨by omega,by omega,rfl,am _ _ _⟩⟩,by simp⟩,g2.set (c+1) _ (by omega) (by omega) (by omega),fun x ty l hx hg=>by rw[az _ _ (by omega),az _ _ (by omega)];exact hg,by omega⟩
 ·refine(eH (bytes:=16) (h2.gr gY) g2 Nat.one_pos hy rfl (db (by rw[jf];show(3*(ls.length+1)+2000)*16≤_;omega) (by rw[jf];show ls.length+1≤_;omega))).mono ?_;rintro v' M' c' ⟨b',h5,h6,h7,h8,hb⟩;rw[←hcat]at h5;refine⟨.inr ⟨b',by rcases hb with h|h<;>omega,h5,by simp⟩,h6,fun x ty l hx hg=>?_,by omega⟩;have hxb:x≠b:=by
   rintro rfl;rcases h2.2 with⟨h9,_⟩|⟨_,_,_,h9⟩
   ·exact hne (List.map_eq_nil_iff.1 h9)
   ·rw[h9]at hg;have:=ag hg;unfold qF au at this;injection this with _ _ e
    cases e
  rw[h8 x (by omega) hxb,az _ _ (by omega)];exact hg
def eP:List UInt8:=[109,97,99,104,105,110,101]
def oB:List UInt8:=[97,99,99,111,117,110,116]
def cm:List UInt8:=[112,114,111,103,114,97,109,32]
def kq:List UInt8:=[105,110,105,116,32]
def ym(x:Int×Int×Int):List UInt8:=wM oB [x.1,x.2.1,x.2.2]
def wC(pT:List UInt8→List UInt8)(s:SC):List (List UInt8):=wM eP [s.fr,s.se]::(s.ac.map ym++(s.pg.map (fun p=>cm++pT p)++(if s.ini=[]then[]else[kq++fh s.ini])))
theorem cF6(h66:Φ 66=some LM){ls:List (List UInt8)}{x0 x1 x2 x3:V}(ok:cO F M0 c0)(g0:Gr c0 M0 c M)(b1:M.get b=some (au 28 [x0,x1,x2,x3,vi]))(hb:b<c)(hi:fC F M c vi s.ini)(zi:s.ini.length≤100000)(hl:nJ F M c0 c v ls)(hr:ls.length≤60000)(u:List (Option V)):
 Wp (.seq E4 (.seq E5 .ret)) (K Φ none 39 F) (.mk ((Ze u (.p b 0) v)) [] M c) (dA F [.t (.r .h)] fun r M' c'=>nJ F M' c0 c' r (ls++(if s.ini=[]then[]else[kq++fh s.ini]))∧Gr c0 M0 c' M'):=by
 have k4:load1 F M b 4=some vi:=aj b1 4
 have ni:=hi.len
 by_cases h0:s.ini=[]
 ·have d1:decide ((0:Int)<(s.ini.length:Int))=false:=ah (by rw[h0];decide);simp only[WX,B39,k4,ni,d1];rw[ae h0,cu];exact⟨hl,g0⟩
 ·have hp:0<s.ini.length:=List.length_pos_iff.2 h0;have d1:decide ((0:Int)<(s.ini.length:Int))=true:=af (by omega);simp only[WX,B39,k4,ni,d1];refine aw ((r66 Φ h66 (g0.ok ok) hi zi).mono ?_);rintro r M2 c2 ⟨rfl,g2⟩;have hx:=jb s.ini;have s1:bX .add (.s 5 139392020073) (sV (fh s.ini))=some (sV (kq++fh s.ini)):=cL kq _ (by show 5+_≤_;omega);simp only[WX,s1,nU,gq];refine aw ((DN ok (g0.trans g2) (hl.grow g2) (kq++fh s.ini) hr).mono ?_);rintro r M3 c3 ⟨h5,g3,_⟩;simp only[WX,B39];rw[ab h0];exact⟨h5,g3⟩
theorem cF5{pT:List UInt8→List UInt8}(h66:Φ 66=some LM)(h65:∀M c v l,cO F M c→fC F M c v l→Calls Φ F 65 [v] M c fun r M' c'=>r=sV (pT l)∧Gr c M c' M')(hpl:∀l,(pT l).length≤1000000){ls:List (List UInt8)}{x0 x1 x2:V}(ok:cO F M0 c0)(g0:Gr c0 M0 c M)(b1:M.get b=some (au 28 [x0,x1,x2,vp,vi]))(hb:b<c)(hp:cH F M0 c0 vp s.pg)(hi:fC F M0 c0 vi s.ini)(zi:s.ini.length≤100000)(hl:nJ F M c0 c v ls)(hr:ls.length+s.pg.length≤60000)(u:List (Option V)):
 Wp A2 (K Φ none 39 F) (.mk ((Ze u (.p b 0) v)) [] M c) (dA F [.t (.r .h)] fun r M' c'=>nJ F M' c0 c' r (ls++(s.pg.map (fun p=>cm++pT p)++(if s.ini=[]then[]else[kq++fh s.ini])))∧Gr c0 M0 c' M'):=by
 simp only[WX,ZS,ZV,ZW]
 obtain⟨I,hI⟩:∃I:Nat→St→Prop,∀n s',I n s'↔(∃(i c1:Nat) (N:Mem) (v:V) (u:List (Option V)),n=s.pg.length-i∧i≤s.pg.length∧s'= .mk ((cQ4 u (.p b 0) v (.i .i64 (i:Int)))) [] N c1∧c≤c1∧N.get b=some (au 28 [x0,x1,x2,vp,vi])∧Gr c0 M0 c1 N∧nJ F N c0 c1 v (ls++(s.pg.take i).map (fun p=>cm++pT p))):=⟨fun n s'=>_,fun _ _=>Iff.rfl⟩
 refine bD I ?_ s.pg.length _ ((hI _ _).2 ⟨0,c,M,v,(X1 (G1 (X1 (G1 (X2 (G1 (bH (cw (cj (X8 [])))))))))),rfl,aE _,rfl,ak _,b1,g0,by rw[List.take_zero,List.map_nil,cu];exact hl⟩)
 intro n s' hIs
 obtain⟨i,c1,N,v1,u,rfl,hi',rfl,hc1,b2,g2,hl1⟩:=(hI _ _).1 hIs
 clear hIs
 have k3:load1 F N b 3=some vp:=aj b2 3
 have hp1:=hp.grow g2
 have np:=hp1.len
 have q8:bX .add (.i .i64 (i:Int)) (.i .i64 1)=some (.i .i64 ((i+1:Nat):Int)):=by rw[aN _ _ (by omega) (by omega)];simp
 by_cases hlt:i<s.pg.length
 ·have d1:decide ((i:Int)<(s.pg.length:Int))=true:=af (by omega);obtain⟨pb,po,w,hpb,hia,hld,sd⟩:=hp1.at i hlt;have htk:=cq hlt;generalize s.pg[i]=p at sd htk;simp only[WX,B39,k3,np,d1,hia,hld];refine aw ((h65 N c1 w p (g2.ok ok) sd).mono ?_);rintro r M2 c2 ⟨rfl,g3⟩;have hx:=hpl p;have s1:bX .add (.s 8 2336630925664678512) (sV (pT p))=some (sV (cm++pT p)):=cL cm _ (by show 8+_≤_;omega);simp only[WX,s1,nU,gq];have hlen:(ls++(s.pg.take i).map fun p=>cm++pT p).length≤60000:=by rw[aG,List.length_map,List.length_take];omega
  have hc2:=g3.le;refine aw ((DN ok (g2.trans g3) (hl1.grow g3) (cm++pT p) hlen).mono ?_);rintro r M3 c3 ⟨h5,g4,hkp,hc4⟩;have b3:=hkp b 28 _ (by omega) ((g3.old b (by omega)).trans b2);have hc3:c≤c3:=by omega
  simp only[WX,B39,q8];exact⟨s.pg.length-(i+1),by omega,(hI _ _).2 ⟨i+1,c3,M3,r,(X1 (G1 (X1 (G1 (X2 (G1 (bH (cw (cj (X8 [])))))))))),rfl,hlt,rfl,hc3,b3,g4,by rw[htk,List.map_append,←cB];exact h5⟩⟩
 ·obtain rfl:i=s.pg.length:=by omega
  have d1:decide ((s.pg.length:Int)<(s.pg.length:Int))=false:=ah (by omega);rw[List.take_length]at hl1;simp only[WX,ZT,ZU,k3,np,d1];rw[←bP];simp only[←cB];exact cF6 (s:=s) h66 ok g2 b2 (by omega) (hi.grow g2) zi hl1 (by rw[aG,List.length_map];omega) (X1 (G1 (X1 (G1 (bH (cw (cj (X8 (X2 (X1 []))))))))))
abbrev cQ5(u:List (Option V))(x1 x3 x4:V):T:=(.n (.n (.n (.n (aq u 63 31 95 15 79 47 111) (uO u 7) (aq u 71 39 103 23 87 55 119)) (some x3) (.n (aq u 67 35 99 19 83 51 115) (uO u 11) (aq u 75 43 107 27 91 59 123))) (some x1) (.n (.n (aq u 65 33 97 17 81 49 113) (uO u 9) (aq u 73 41 105 25 89 57 121)) (uO u 5) (.n (aq u 69 37 101 21 85 53 117) (uO u 13) (aq u 77 45 109 29 93 61 125)))) (uO u 0) (.n (.n (.n (aq u 64 32 96 16 80 48 112) (uO u 8) (aq u 72 40 104 24 88 56 120)) (some x4) (.n (aq u 68 36 100 20 84 52 116) (uO u 12) (aq u 76 44 108 28 92 60 124))) (uO u 2) (.n (.n (aq u 66 34 98 18 82 50 114) (uO u 10) (aq u 74 42 106 26 90 58 122)) (uO u 6) (.n (aq u 70 38 102 22 86 54 118) (uO u 14) (aq u 78 46 110 30 94 62 126)))))
theorem cF4{pT:List UInt8→List UInt8}(h66:Φ 66=some LM)(h64:Φ 64=some c64)(h56:Φ 56=some (.orc (cI L qR)))(ht:bn F L=true)(h65:∀M c v l,cO F M c→fC F M c v l→Calls Φ F 65 [v] M c fun r M' c'=>r=sV (pT l)∧Gr c M c' M')(hpl:∀l,(pT l).length≤1000000){ls:List (List UInt8)}{x0 x1:V}(ok:cO F M0 c0)(g0:Gr c0 M0 c M)(b1:M.get b=some (au 28 [x0,x1,va,vp,vi]))(hb:b<c)(ha:bG F M0 c0 3 va (cY s.ac))(hra:∀a∈s.ac,bZ a.1∧bZ a.2.1∧bZ a.2.2)(hp:cH F M0 c0 vp s.pg)(hi:fC F M0 c0 vi s.ini)(zi:s.ini.length≤100000)(hl:nJ F M c0 c v ls)(hr:ls.length+s.ac.length+s.pg.length≤60000)(u:List (Option V)):
 Wp (.seq (.seq TS (.block 0 TT)) A2) (K Φ none 39 F) (.mk ((Ze u (.p b 0) v)) [] M c) (dA F [.t (.r .h)] fun r M' c'=>nJ F M' c0 c' r (ls++(s.ac.map ym++(s.pg.map (fun p=>cm++pT p)++(if s.ini=[]then[]else[kq++fh s.ini]))))∧Gr c0 M0 c' M'):=by
 simp only[WX,bu6,bu8]
 obtain⟨I,hI⟩:∃I:Nat→St→Prop,∀n s',I n s'↔(∃(i c1:Nat) (N:Mem) (v:V) (u:List (Option V)),n=s.ac.length-i∧i≤s.ac.length∧s'= .mk ((cQ5 u (.p b 0) v (.i .i64 (i:Int)))) [] N c1∧c≤c1∧N.get b=some (au 28 [x0,x1,va,vp,vi])∧Gr c0 M0 c1 N∧nJ F N c0 c1 v (ls++(s.ac.take i).map ym)):=⟨fun n s'=>_,fun _ _=>Iff.rfl⟩
 refine bD I ?_ s.ac.length _ ((hI _ _).2 ⟨0,c,M,v,(X1 (G1 (X1 (G2 (bH (cw (cj (X8 (X2 []))))))))),rfl,aE _,rfl,ak _,b1,g0,by rw[List.take_zero,List.map_nil,cu];exact hl⟩)
 intro n s' hIs
 obtain⟨i,c1,N,v1,u,rfl,hi',rfl,hc1,b2,g2,hl1⟩:=(hI _ _).1 hIs
 clear hIs
 have k2:load1 F N b 2=some va:=aj b2 2
 have ha1:=ha.grow g2
 have na:=ha1.len
 rw[aL]at na
 have q8:bX .add (.i .i64 (i:Int)) (.i .i64 1)=some (.i .i64 ((i+1:Nat):Int)):=by rw[aN _ _ (by omega) (by omega)];simp
 by_cases hlt:i<s.ac.length
 ·have d1:decide ((i:Int)<(s.ac.length:Int))=true:=af (by omega);obtain⟨pb,po,hpb,hia,hld⟩:=ha1.at i (by rw[aL];exact hlt);have hia:=hia .i64;have htk:=cq hlt;have hrg:=hra _ (List.getElem_mem hlt);have hge:(cY s.ac)[i]'(by rw[aL];exact hlt)=[.i .i64 s.ac[i].1,.i .i64 s.ac[i].2.1,.i .i64 s.ac[i].2.2]:=List.getElem_map ..;rw[hge]at hld;have hld:=hld.load (by simp);generalize s.ac[i]=q at hld htk hrg;have hld:loadN F N pb po 3=some [.i .i64 q.1,.i .i64 q.2.1,.i .i64 q.2.2]:=hld;simp only[WX,Nat.reduceAdd,Nat.reduceLeDiff,ZY,ZZ,bu7,k2,na,d1,hia,hld];have gA:=(Gr.refl (g2.ok ok)).set c1 (au 75 [.i .i64 q.1,.i .i64 q.2.1,.i .i64 q.2.2]) (ak _) (aD _) (aA _);have bA:(N.set c1 (au 75 [.i .i64 q.1,.i .i64 q.2.1,.i .i64 q.2.2])).get c1=some (au 75 [.i .i64 q.1,.i .i64 q.2.1,.i .i64 q.2.2]):=am _ _ _;have bB:=(gA.old b (by omega)).trans b2;have hlA:=hl1.grow gA;have gT:=g2.trans gA;generalize N.set c1 (au 75 [.i .i64 q.1,.i .i64 q.2.1,.i .i64 q.2.2])=N1 at gA bA bB hlA gT⊢;have l0:load1 F N1 c1 0=some (.i .i64 q.1):=aj bA 0;have l1:load1 F N1 c1 1=some (.i .i64 q.2.1):=aj bA 1;have l2:load1 F N1 c1 2=some (.i .i64 q.2.2):=aj bA 2;simp only[WX,Nat.reduceAdd,B39,l0,l1,l2];have gC:=(Gr.refl (gT.ok ok)).set (c1+1) (cQ [.i .i64 0] 3 [.i .i64 q.1,.i .i64 q.2.1,.i .i64 q.2.2]) (ak _) (aD _) (aA _);have hsl:bG F (N1.set (c1+1) (cQ [.i .i64 0] 3 [.i .i64 q.1,.i .i64 q.2.1,.i .i64 q.2.2])) (c1+1+1) 1 (.l (c1+1) 0 3 3) (ET [q.1,q.2.1,q.2.2]):=qS (d:=[.i .i64 0]) (ty:=3) (am _ _ _) (by omega) (fun e he=>by obtain⟨x,_,rfl⟩:=List.mem_map.1 he;rfl) rfl;have hrl:∀n∈[q.1,q.2.1,q.2.2],bZ n:=by
   intro n hn;simp only[bv,List.not_mem_nil,or_false]at hn;rcases hn with rfl|rfl|rfl
   ·exact hrg.1
   ·exact hrg.2.1
   ·exact hrg.2.2
  refine aw ((r64 (w:=oB) h64 h56 (gC.ok (gT.ok ok)) ht hsl hrl (by simp) (by decide)).mono ?_);rintro r M2 c2 ⟨rfl,rfl,rfl⟩;have hw:=my [q.1,q.2.1,q.2.2] oB hrl;have hlen:(ls++(s.ac.take i).map ym).length≤60000:=by rw[aG,List.length_map,List.length_take];omega
  simp only[WX,nU,gq];refine aw ((DN ok (gT.trans gC) (hlA.grow gC) (ym q) hlen).mono ?_);rintro r M3 c3 ⟨h5,g4,hkp,hc4⟩;have b3:=hkp b 28 _ (by omega) ((gC.old b (by omega)).trans bB);simp only[WX,B39,q8];exact⟨s.ac.length-(i+1),by omega,(hI _ _).2 ⟨i+1,c3,M3,r,(X1 (G1 (X1 (G2 (bH (cw (cj (X8 (X2 []))))))))),rfl,hlt,rfl,by omega,b3,g4,by rw[htk,List.map_append,←cB];exact h5⟩⟩
 ·obtain rfl:i=s.ac.length:=by omega
  have d1:decide ((s.ac.length:Int)<(s.ac.length:Int))=false:=ah (by omega);rw[List.take_length]at hl1;simp only[WX,ZY,ZZ,k2,na,d1];rw[←cB ls (s.ac.map ym)];exact cF5 (s:=s) h66 h65 hpl ok g2 b2 (by omega) hp hi zi hl1 (by rw[aG,List.length_map];omega) (X1 (G1 (X1 (G1 (bH (cw (cj (X8 (X2 (X1 []))))))))))
theorem r39{pT:List UInt8→List UInt8}(h:Φ 39=some c39)(h66:Φ 66=some LM)(h64:Φ 64=some c64)(h56:Φ 56=some (.orc (cI L qR)))(ht:bn F L=true)(h65:∀M c v l,cO F M c→fC F M c v l→Calls Φ F 65 [v] M c fun r M' c'=>r=sV (pT l)∧Gr c M c' M')(hpl:∀l,(pT l).length≤1000000)(ok:cO F M c)(hf:bZ s.fr)(hs:bZ s.se)(ha:bG F M c 3 va (cY s.ac))(hra:∀a∈s.ac,bZ a.1∧bZ a.2.1∧bZ a.2.2)(hp:cH F M c vp s.pg)(hi:fC F M c vi s.ini)(zi:s.ini.length≤100000)(hr:s.ac.length+s.pg.length≤50000):
 Calls Φ F 39 [.g [.i .i64 s.fr,.i .i64 s.se,va,vp,vi]] M c fun r M' c'=>nJ F M' c c' r (wC pT s)∧Gr c M c' M':=by
 refine ax h ?_
 obtain⟨o1,o2,o3⟩:=aK ha
 obtain⟨ep,sp,_⟩:=id hp
 obtain⟨p1,p2,p3⟩:=aK sp
 obtain⟨q1,q2,q3⟩:=aK hi
 have g1:=(Gr.refl ok).set c (au 28 [.i .i64 s.fr,.i .i64 s.se,va,vp,vi]) (ak _) (aD _) (aA _)
 have b0:(M.set c (au 28 [.i .i64 s.fr,.i .i64 s.se,va,vp,vi])).get c=some (au 28 [.i .i64 s.fr,.i .i64 s.se,va,vp,vi]):=am _ _ _
 simp only[WX,Nat.reduceAdd,e39,bu4,ZX,o1,p1,q3]
 generalize M.set c (au 28 [.i .i64 s.fr,.i .i64 s.se,va,vp,vi])=M1 at g1 b0⊢
 have l0:load1 F M1 c 0=some (.i .i64 s.fr):=aj b0 0
 have l1:load1 F M1 c 1=some (.i .i64 s.se):=aj b0 1
 simp only[WX,Nat.reduceAdd,bu5,l0,l1]
 have gC:=(Gr.refl (g1.ok ok)).set (c+1) (cQ [.i .i64 0] 3 [.i .i64 s.fr,.i .i64 s.se]) (ak _) (aD _) (aA _)
 have hsl:bG F (M1.set (c+1) (cQ [.i .i64 0] 3 [.i .i64 s.fr,.i .i64 s.se])) (c+1+1) 1 (.l (c+1) 0 2 2) (ET [s.fr,s.se]):=qS (d:=[.i .i64 0]) (ty:=3) (am _ _ _) (by omega) (fun e he=>by obtain⟨x,_,rfl⟩:=List.mem_map.1 he;rfl) rfl
 have hrl:∀n∈[s.fr,s.se],bZ n:=by
  intro n hn;simp only[bv,List.not_mem_nil,or_false]at hn;rcases hn with rfl|rfl
  ·exact hf
  ·exact hs
 refine aw ((r64 (w:=eP) h64 h56 (gC.ok (g1.ok ok)) ht hsl hrl (by simp) (by decide)).mono ?_)
 rintro r M2 c2 ⟨rfl,rfl,rfl⟩
 simp only[WX,nU,gq]
 rw[←bP,←bP]
 have gY:=(Gr.refl (gC.ok (g1.ok ok))).set (c+1).succ (cQ [.s 0 0] 9 [sV (wM eP [s.fr,s.se])]) (ak _) (aD _) (aA _)
 have hy:nJ F ((M1.set (c+1) (cQ [.i .i64 0] 3 [.i .i64 s.fr,.i .i64 s.se])).set (c+1).succ (cQ [.s 0 0] 9 [sV (wM eP [s.fr,s.se])])) c ((c+1).succ+1) (.l (c+1).succ 0 1 1) [wM eP [s.fr,s.se]]:= .inl ⟨(c+1).succ,rfl,rfl,by omega,qS (d:=[.s 0 0]) (ty:=9) (am _ _ _) (by omega) (fun e he=>by rw[List.mem_singleton.1 he];rfl) rfl⟩
 have b3:=(gY.old c (by omega)).trans ((gC.old c (by omega)).trans b0)
 exact cF4 (s:=s) h66 h64 h56 ht h65 hpl ok ((g1.trans gC).trans gY) b3 (by omega) ha hra hp hi zi hy (by show 1+_+_≤_;omega) (X1 (G1 (X1 (G1 (bH (cw (cj (X8 (X2 (X1 []))))))))))
abbrev bq0(u:List (Option V))(x1 x3 x4:V):T:=(.n (.n (.n (aq u 31 15 47 7 39 23 55) (some x3) (aq u 35 19 51 11 43 27 59)) (some x1) (.n (aq u 33 17 49 9 41 25 57) (uO u 5) (aq u 37 21 53 13 45 29 61))) (uO u 0) (.n (.n (aq u 32 16 48 8 40 24 56) (some x4) (aq u 36 20 52 12 44 28 60)) (uO u 2) (.n (aq u 34 18 50 10 42 26 58) (uO u 6) (aq u 38 22 54 14 46 30 62))))
abbrev cQ6(u:List (Option V))(x1 x3 x4 x6:V):T:=(.n (.n (.n (aq u 31 15 47 7 39 23 55) (some x3) (aq u 35 19 51 11 43 27 59)) (some x1) (.n (aq u 33 17 49 9 41 25 57) (uO u 5) (aq u 37 21 53 13 45 29 61))) (uO u 0) (.n (.n (aq u 32 16 48 8 40 24 56) (some x4) (aq u 36 20 52 12 44 28 60)) (uO u 2) (.n (aq u 34 18 50 10 42 26 58) (some x6) (aq u 38 22 54 14 46 30 62))))
abbrev cQ7(u:List (Option V))(x1 x3 x4 x5:V):T:=(.n (.n (.n (aq u 31 15 47 7 39 23 55) (some x3) (aq u 35 19 51 11 43 27 59)) (some x1) (.n (aq u 33 17 49 9 41 25 57) (some x5) (aq u 37 21 53 13 45 29 61))) (uO u 0) (.n (.n (aq u 32 16 48 8 40 24 56) (some x4) (aq u 36 20 52 12 44 28 60)) (uO u 2) (.n (aq u 34 18 50 10 42 26 58) (uO u 6) (aq u 38 22 54 14 46 30 62))))
def aK0:CC:=(.reg [(aa a1 (.bx 31 6 z0)),(qq a2 (.mv (.c (.s 0 0))))])
def br7:=wu aK0.eq_1
def aK1:CC:=(.reg [(qq a7 (.fa 0 z1)),(qq a8 (.ldn 5 z7)),(ee a9 (.call 39 [z8])),(qq a4 (.mv z9))])
def br8:=wu aK1.eq_1
def aK2:CC:=(.reg [(qq a5 (.mv (x6 0)))])
def br9:=wu aK2.eq_1
def aK3:CC:=(.reg [(qq dp (.mv z5)),(qq dk (.mv z4)),(qq dy (.ln .slice dC)),(qq dN (.bi .lss dx dX))])
def bs0:=wu aK3.eq_1
def aK4:CC:=(.reg [(qq dY (.mv z3)),(qq eE (.mv z4)),(qq dT (.mv z5)),(qq eG (.iaS 1 eD fm)),(qq fF (.ld1 fS)),(ee eR (.app 5 1 1 eF fD)),(aa fv (.bsl 5 1 1 [(.i .u8 0)] [(0,(.c (.i .u8 10)))])),(ee fl (.app 5 1 1 gv gb)),(qq a3 (.mv gH))])
def cU6:=wu aK4.eq_1
def aK5:CC:=(.reg [(qq dL (.mv z5)),(qq dS (.bi .add eu (x6 1))),(qq a5 (.mv dM))])
def cU7:=wu aK5.eq_1
def aK6:CC:=(.seq (.seq aK3 (.cond dG .skip (.exit 0))) (.seq (.block 1 aK4) aK5))
def bs5:=wu aK6.eq_1
def QW:CC:=(.reg [(qq a6 (.mv (x6 0)))])
def cU8:=wu QW.eq_1
def aK7:CC:=(.reg [(qq dU (.mv z6)),(qq eV (.fa 5 z1)),(qq eb (.ld1 gO)),(qq fG (.ln .slice gw)),(qq gi (.bi .lss gM gy))])
def cU9:=wu aK7.eq_1
def QQ:CC:=(.seq aK7 (.cond iz .skip (.exit 2)))
def bR7:=wu QQ.eq_1
def QS:CC:=(.reg [(qq j4 (.mv z3)),(qq gj (.fa 5 z1)),(qq iG (.ld1 jL)),(qq fT (.mv z6)),(qq j5 (.iaS 5 kz kC)),(qq kv (.ldn 5 kD)),(ee jq (.call 40 [ll])),(ee gR (.app 5 1 1 jh kr)),(aa j6 (.bsl 5 1 1 [(.i .u8 0)] [(0,(.c (.i .u8 10)))])),(ee jr (.app 5 1 1 kW lh)),(qq a3 (.mv lm))])
def bR8:=wu QS.eq_1
def QT:CC:=(.reg [(qq gg (.mv z6)),(qq gQ (.bi .add iA (x6 1))),(qq a6 (.mv iE))])
def bR9:=wu QT.eq_1
def DT:CC:=(.block 2 (.loop (.seq QQ (.seq (.block 3 QS) QT))))
def bS0:=wu DT.eq_1
def DU:CC:=(.reg [(qq kF (.mv z3)),(qq jM (.bs lq)),(qq a2 (.mv lr))])
def bS1:=wu DU.eq_1
def DV:CC:=(.seq (.seq aK2 (.block 0 (.loop aK6))) (.seq (.seq QW DT) (.seq DU .ret)))
def Zt:=wu DV.eq_1
def QU:CC:=(.seq (.reg [(qq a3 (.mv (.c .l0)))]) (.seq aK1 DV))
def Zu:=wu QU.eq_1
def c14:CF:= .mk 6 [.t a2] (.seq aK0 QU)
theorem e14(v0:V):aU 6 [v0]=(.n mM (some v0) mM):=rfl
def B14:=ai @e14 (ai @br7 (ai @br8 (ai @br9 (ai @bs0 (ai @cU6 (ai @cU7 (ai @bs5 (ai @cU8 (ai @cU9 (ai @bR7 (ai @bR8 (ai @bR9 (ai @bS0 (ai @bS1 (ai @Zt (@Zu))))))))))))))))
def gp(ls:List (List UInt8)):List UInt8:=ls.flatMap fun l=>l++[10]
theorem bU(a b:List (List UInt8)):gp (a++b)=gp a++gp b:=List.flatMap_append ..
theorem gF(w:List UInt8):gp [w]=w++[10]:=by unfold gp;simp
theorem o8(ls:List (List UInt8))(i:Nat):(gp (ls.take i)).length≤(gp ls).length:=by
 have:=congrArg (fun l=>(gp l).length) (List.take_append_drop i ls)
 simp only[bU,aG]at this
 omega
def scT(pT:List UInt8→List UInt8)(s:SC):List UInt8:=gp (wC pT s++s.ys.map cd)
def bB(l:List UInt8):List (List V):=l.map fun x=>[bV x]
theorem ji(l:List UInt8):(bB l).length=l.length:=List.length_map _
theorem nN(a b:List UInt8):bB (a++b)=bB a++bB b:=List.map_append ..
theorem da2(h40:Φ 40=some c40)(h67:Φ 67=some c67)(h56:Φ 56=some (.orc (cI L qR)))(h66:Φ 66=some LM)(h68:Φ 68=some c68)(ht:bn F L=true){bb:Nat}{v4:V}{pre:List UInt8}{x0 x1 x2 x3 x4:V}{Mz:Mem}{cz:Nat}(gz:Gr cz Mz c0 M0)(ok:cO F M0 c0)(g0:Gr c0 M0 c M)(b1:M0.get b=some (au 31 [x0,x1,x2,x3,x4,vt]))(hb:b<c0)(hs:fE F M0 c0 vt s.ys)(hA:∀y∈s.ys,pV y)(hY:∀y∈s.ys,nk y=true)(hl:cA M c0 c bb 5 1 v (bB pre))(hr:pre.length+(gp (s.ys.map cd)).length≤1000000000)(u:List (Option V)):
 Wp (.seq (.seq QW DT) (.seq DU .ret)) (K Φ none 14 F) (.mk ((bq0 u (.p b 0) v v4)) [] M c) (dA F [.t (.r .h)] fun r M' c'=>r=sV (pre++gp (s.ys.map cd))∧Gr cz Mz c' M'):=by
 have nt:=hs.len
 have zt:s.ys.length≤1000000000:=by
  have:s.ys.length≤(gp (s.ys.map cd)).length:=by
   clear hr hs hA hY nt
   induction s.ys with
   |nil=>exact ak _
   |cons y l ih=>rw[List.map_cons,show cd y::l.map cd=[cd y]++l.map cd from rfl,bU,gF];simp only[aG,aP,bo];omega
  omega
 simp only[WX,B14]
 obtain⟨I,hI⟩:∃I:Nat→St→Prop,∀n s',I n s'↔(∃(i c1 b':Nat) (N:Mem) (v:V) (u:List (Option V)),n=s.ys.length-i∧i≤s.ys.length∧s'= .mk ((cQ6 u (.p b 0) v v4 (.i .i64 (i:Int)))) [] N c1∧Gr c0 M0 c1 N∧cA N c0 c1 b' 5 1 v (bB (pre++gp ((s.ys.take i).map cd)))):=⟨fun n s'=>_,fun _ _=>Iff.rfl⟩
 refine bD I ?_ s.ys.length _ ((hI _ _).2 ⟨0,c,bb,M,v,(X1 (G1 (X1 (G2 (X1 (G1 (cw (cj (X8 []))))))))),rfl,aE _,rfl,g0,by rw[List.take_zero,List.map_nil,show gp []=[]from rfl,cu];exact hl⟩)
 intro n s' hIs
 obtain⟨i,c1,b',N,v1,u,rfl,hi',rfl,g2,hl1⟩:=(hI _ _).1 hIs
 clear hIs
 have hcl:=g2.le
 have b2:=(g2.old b hb).trans b1
 have k5:load1 F N b 5=some vt:=aj b2 5
 have hs1:=hs.grow g2
 have q8:bX .add (.i .i64 (i:Int)) (.i .i64 1)=some (.i .i64 ((i+1:Nat):Int)):=by rw[aN _ _ (by omega) (by omega)];simp
 by_cases hlt:i<s.ys.length
 ·have d1:decide ((i:Int)<(s.ys.length:Int))=true:=af (by omega);obtain⟨pb,po,vd,vl,hpb,hia,hld,sd,sl⟩:=hs1.at i hlt;have htk:=cq hlt;have hy1:=hA _ (List.getElem_mem hlt);have hy2:=hY _ (List.getElem_mem hlt);generalize s.ys[i]=y at hld sd sl htk hy1 hy2;have hns:gp ((s.ys.take (i+1)).map cd)=gp ((s.ys.take i).map cd)++(cd y++[10]):=by rw[htk,List.map_append,bU,show[y].map cd=[cd y]from rfl,gF]
  have hle:(gp ((s.ys.take (i+1)).map cd)).length≤(gp (s.ys.map cd)).length:=by rw[List.map_take];exact o8 _ _
  rw[hns]at hle;simp only[aG,aP,bo]at hle;simp only[WX,B14,k5,nt,d1,hia,hld];refine aw ((r40 (y:=y) h40 h67 h56 h66 h68 (g2.ok ok) ht hy1 hy2 sd sl).mono ?_);rintro r M2 c2 ⟨rfl,g3⟩;simp only[WX];refine aw ((BU (bytes:=1) (hl1.gr g3) (g2.trans g3) (db (by rw[ji,aG];omega) (by rw[ji,aG];omega))).mono ?_);rintro r M3 c3 ⟨b3,h5,g4,hc4,_,_⟩;simp only[WX];have gC:=(Gr.refl (g4.ok ok)).set c3 (cQ [.i .u8 0] 5 [.i .u8 10]) (ak _) (aD _) (aA _);have hy:bG F (M3.set c3 (cQ [.i .u8 0] 5 [.i .u8 10])) (c3+1) 1 (.l c3 0 1 1) (bB [10]):=qS (d:=[.i .u8 0]) (ty:=5) (am _ _ _) (by omega) (fun e he=>by rw[List.mem_singleton.1 he];rfl) rfl;refine aw ((eH (bytes:=1) (h5.gr gC) (g4.trans gC) Nat.one_pos hy rfl (db (by rw[←bB,←nN,ji,ji];simp only[aG,aP,bo];omega) (by rw[←bB,←nN,ji,ji];simp only[aG,aP,bo];omega))).mono ?_);rintro r M4 c4 ⟨b4,h6,g5,hc5,_,_⟩;simp only[WX,B14,q8];refine⟨s.ys.length-(i+1),by omega,(hI _ _).2 ⟨i+1,c4,b4,M4,r,(X1 (G1 (X1 (G2 (X1 (G1 (cw (cj (X8 []))))))))),rfl,hlt,rfl,g5,?_⟩⟩;rw[hns,←cB,←cB,nN,nN];exact h6
 ·obtain rfl:i=s.ys.length:=by omega
  have d1:decide ((s.ys.length:Int)<(s.ys.length:Int))=false:=ah (by omega);rw[List.take_length]at hl1;have hbs:=ri (F:=F) (show fC F N c1 v1 (pre++gp (s.ys.map cd))from hl1.sl);simp only[WX,B14,k5,nt,d1,hbs];exact gz.trans g2
theorem aA2{ls:List (List UInt8)}(i:Nat)(h:i<ls.length):(cR ls)[i]'(by rw[jf];exact h)=[sV ls[i]]:=List.getElem_map ..
theorem da1(h40:Φ 40=some c40)(h67:Φ 67=some c67)(h56:Φ 56=some (.orc (cI L qR)))(h66:Φ 66=some LM)(h68:Φ 68=some c68)(ht:bn F L=true){v4:V}{ls:List (List UInt8)}{x0 x1 x2 x3 x4:V}(g:Gr c0 M0 c M)(ok:cO F M c)(b1:M.get b=some (au 31 [x0,x1,x2,x3,x4,vt]))(hb:b<c)(hl:bG F M c 1 v4 (cR ls))(hs:fE F M c vt s.ys)(hA:∀y∈s.ys,pV y)(hY:∀y∈s.ys,nk y=true)(hr:(gp (ls++s.ys.map cd)).length≤1000000000)(hz:ls.length≤1000000)(u:List (Option V)):
 Wp DV (K Φ none 14 F) (.mk ((bq0 u (.p b 0) .l0 v4)) [] M c) (dA F [.t (.r .h)] fun r M' c'=>r=sV (gp (ls++s.ys.map cd))∧Gr c0 M0 c' M'):=by
 have nt:=hl.len
 rw[jf]at nt
 rw[bU]at hr⊢
 rw[aG]at hr
 simp only[WX,br9,Zt]
 obtain⟨I,hI⟩:∃I:Nat→St→Prop,∀n s',I n s'↔(∃(i c1 b':Nat) (N:Mem) (v:V) (u:List (Option V)),n=ls.length-i∧i≤ls.length∧s'= .mk ((cQ7 u (.p b 0) v v4 (.i .i64 (i:Int)))) [] N c1∧Gr c M c1 N∧cA N c c1 b' 5 1 v (bB (gp (ls.take i)))):=⟨fun n s'=>_,fun _ _=>Iff.rfl⟩
 refine bD I ?_ ls.length _ ((hI _ _).2 ⟨0,c,0,M,.l0,(X1 (G1 (X1 (G2 (G1 (cw (cj (X8 (X1 []))))))))),rfl,aE _,rfl,Gr.refl ok,cA.nil⟩)
 intro n s' hIs
 obtain⟨i,c1,b',N,v1,u,rfl,hi',rfl,g2,hl1⟩:=(hI _ _).1 hIs
 clear hIs
 have hcl:=g2.le
 have hs1:=hl.grow g2
 have q8:bX .add (.i .i64 (i:Int)) (.i .i64 1)=some (.i .i64 ((i+1:Nat):Int)):=by rw[aN _ _ (by omega) (by omega)];simp
 by_cases hlt:i<ls.length
 ·have d1:decide ((i:Int)<(ls.length:Int))=true:=af (by omega);obtain⟨pb,po,hpb,hia,hld⟩:=hs1.one i (by rw[jf];exact hlt) (x:=sV ls[i]) (aA2 i hlt);have hia:=hia .i64;have htk:=cq hlt;generalize ls[i]=y at hld htk;have hns:gp (ls.take (i+1))=gp (ls.take i)++(y++[10]):=by rw[htk,bU,gF]
  have hle:=o8 ls (i+1);rw[hns]at hle;simp only[aG,aP,bo]at hle;simp only[WX,B14,nt,d1,hia,hld];refine aw ((BU (bytes:=1) hl1 g2 (db (by rw[ji];omega) (by rw[ji];omega))).mono ?_);rintro r M3 c3 ⟨b3,h5,g4,hc4,_,_⟩;simp only[WX];have gC:=(Gr.refl (g4.ok ok)).set c3 (cQ [.i .u8 0] 5 [.i .u8 10]) (ak _) (aD _) (aA _);have hy:bG F (M3.set c3 (cQ [.i .u8 0] 5 [.i .u8 10])) (c3+1) 1 (.l c3 0 1 1) (bB [10]):=qS (d:=[.i .u8 0]) (ty:=5) (am _ _ _) (by omega) (fun e he=>by rw[List.mem_singleton.1 he];rfl) rfl;refine aw ((eH (bytes:=1) (h5.gr gC) (g4.trans gC) Nat.one_pos hy rfl (db (by rw[←bB,←nN,ji,ji];simp only[aG,aP,bo];omega) (by rw[←bB,←nN,ji,ji];simp only[aG,aP,bo];omega))).mono ?_);rintro r M4 c4 ⟨b4,h6,g5,hc5,_,_⟩;simp only[WX,B14,q8];refine⟨ls.length-(i+1),by omega,(hI _ _).2 ⟨i+1,c4,b4,M4,r,(X1 (G1 (X1 (G2 (G1 (cw (cj (X8 (X1 []))))))))),rfl,hlt,rfl,g5,?_⟩⟩;rw[hns,←cB,nN,nN];exact h6
 ·obtain rfl:i=ls.length:=by omega
  have d1:decide ((ls.length:Int)<(ls.length:Int))=false:=ah (by omega);rw[List.take_length]at hl1;simp only[WX,bs0,bs5,nt,d1];rw[←bP,←bP];exact da2 (s:=s) h40 h67 h56 h66 h68 ht g ok g2 b1 hb hs hA hY hl1 hr (X1 (G1 (X1 (G2 (cw (cj (X8 (X2 []))))))))
theorem r14{pT:List UInt8→List UInt8}(h:Φ 14=some c14)(h39:Φ 39=some c39)(h64:Φ 64=some c64)(h40:Φ 40=some c40)(h67:Φ 67=some c67)(h56:Φ 56=some (.orc (cI L qR)))(h66:Φ 66=some LM)(h68:Φ 68=some c68)(ht:bn F L=true)(h65:∀M c v l,cO F M c→fC F M c v l→Calls Φ F 65 [v] M c fun r M' c'=>r=sV (pT l)∧Gr c M c' M')(hpl:∀l,(pT l).length≤1000000)(ok:cO F M c)(hs:qV F M c va vp vi vt s)(hf:bZ s.fr)(hse:bZ s.se)(hra:∀a∈s.ac,bZ a.1∧bZ a.2.1∧bZ a.2.2)(zi:s.ini.length≤100000)(hz:s.ac.length+s.pg.length≤50000)(hA:∀y∈s.ys,pV y)(hY:∀y∈s.ys,nk y=true)(hr:(scT pT s).length≤1000000000):
 Calls Φ F 14 [.g [.i .i64 s.fr,.i .i64 s.se,va,vp,vi,vt]] M c fun r M' c'=>r=sV (scT pT s)∧Gr c M c' M':=by
 refine ax h ?_
 obtain⟨o1,o2,o3⟩:=aK hs.1
 obtain⟨ep,sp,_⟩:=hs.2.1
 obtain⟨p1,p2,p3⟩:=aK sp
 obtain⟨q1,q2,q3⟩:=aK hs.2.2.1
 obtain⟨et,st,_⟩:=hs.2.2.2
 obtain⟨t1,t2,t3⟩:=aK st
 have g1:=(Gr.refl ok).set c (au 31 [.i .i64 s.fr,.i .i64 s.se,va,vp,vi,vt]) (ak _) (aD _) (aA _)
 have b0:(M.set c (au 31 [.i .i64 s.fr,.i .i64 s.se,va,vp,vi,vt])).get c=some (au 31 [.i .i64 s.fr,.i .i64 s.se,va,vp,vi,vt]):=am _ _ _
 have hs1:=hs.grow g1
 simp only[WX,Nat.reduceAdd,e14,br7,Zu,o1,p1,q1,t3]
 generalize M.set c (au 31 [.i .i64 s.fr,.i .i64 s.se,va,vp,vi,vt])=M1 at g1 b0 hs1⊢
 have l5:loadN F M1 c 0 5=some [.i .i64 s.fr,.i .i64 s.se,va,vp,vi]:=da b0 [.i .i64 s.fr,.i .i64 s.se,va,vp,vi] [vt] rfl (by simp)
 simp only[WX,br8,l5]
 refine aw ((r39 (s:=s) h39 h66 h64 h56 ht h65 hpl (g1.ok ok) hf hse hs1.1 hra hs1.2.1 hs1.2.2.1 zi hz).mono ?_)
 rintro r M2 c2 ⟨hln,g2⟩
 simp only[WX]
 have hg:=g1.trans g2
 have hz2:(wC pT s).length≤1000000:=by
  unfold wC;simp only[aP,aG,List.length_map];split<;>simp only[aP,bo]<;>omega
 exact da1 (s:=s) h40 h67 h56 h66 h68 ht hg (hg.ok ok) ((g2.old c (by omega)).trans b0) (by have:=g2.le;omega) hln.sl (hs1.2.2.2.grow g2) hA hY hr hz2 (X1 (G1 (X1 (G2 (cw (cj (X8 (X2 []))))))))
abbrev KC(u:List (Option V))(x1 x6 x7:V):T:=(.n (.n (.n (.n (aq u 63 31 95 15 79 47 111) (some x7) (aq u 71 39 103 23 87 55 119)) (uO u 3) (.n (aq u 67 35 99 19 83 51 115) (uO u 11) (aq u 75 43 107 27 91 59 123))) (some x1) (.n (.n (aq u 65 33 97 17 81 49 113) (uO u 9) (aq u 73 41 105 25 89 57 121)) (uO u 5) (.n (aq u 69 37 101 21 85 53 117) (uO u 13) (aq u 77 45 109 29 93 61 125)))) (uO u 0) (.n (.n (.n (aq u 64 32 96 16 80 48 112) (uO u 8) (aq u 72 40 104 24 88 56 120)) (uO u 4) (.n (aq u 68 36 100 20 84 52 116) (uO u 12) (aq u 76 44 108 28 92 60 124))) (uO u 2) (.n (.n (aq u 66 34 98 18 82 50 114) (uO u 10) (aq u 74 42 106 26 90 58 122)) (some x6) (.n (aq u 70 38 102 22 86 54 118) (uO u 14) (aq u 78 46 110 30 94 62 126)))))
abbrev cQ8(u:List (Option V))(x6 x7 x85 x86 x87:V):T:=(.n (.n (.n (.n (aq u 63 31 95 15 79 47 111) (some x7) (.n (fu u 71 39 103) (uO u 23) (.n (.n .e (some x87) .e) (uO u 55) (ia u 119)))) (uO u 3) (.n (aq u 67 35 99 19 83 51 115) (uO u 11) (aq u 75 43 107 27 91 59 123))) (uO u 1) (.n (.n (aq u 65 33 97 17 81 49 113) (uO u 9) (aq u 73 41 105 25 89 57 121)) (uO u 5) (.n (.n (fu u 69 37 101) (uO u 21) (.n (.n .e (some x85) .e) (uO u 53) (ia u 117))) (uO u 13) (aq u 77 45 109 29 93 61 125)))) (uO u 0) (.n (.n (.n (aq u 64 32 96 16 80 48 112) (uO u 8) (aq u 72 40 104 24 88 56 120)) (uO u 4) (.n (aq u 68 36 100 20 84 52 116) (uO u 12) (aq u 76 44 108 28 92 60 124))) (uO u 2) (.n (.n (aq u 66 34 98 18 82 50 114) (uO u 10) (aq u 74 42 106 26 90 58 122)) (some x6) (.n (.n (fu u 70 38 102) (uO u 22) (.n (.n .e (some x86) .e) (uO u 54) (ia u 118))) (uO u 14) (aq u 78 46 110 30 94 62 126)))))
def aM3:CC:=(.reg [(qq a3 (.mv z0)),(ee a4 (.call 23 [z1,z3]))])
def aM4:CC:=(.reg [(ee a5 (.call 24 [z1,(.c (.i .u8 10))]))])
def c22:CF:= .mk 3 [] (.seq aM3 aM4)
theorem e22(v0 v1:V):aU 3 [v0,v1]=(.n (.n sk1 (some v1) sk1) (some v0) nF):=rfl
def B22:=ai @e22 (ai (wu aM3.eq_1) (wu aM4.eq_1))
def aP1:CC:=(.reg [(qq a3 (.mv z0)),(qq a4 (.nck z3)),(qq a5 (.fa 1 z4)),(qq a6 (.ld1 z5)),(qq a7 (.ln .slice z6)),(qq a2 (.mv z7))])
def aP2:CC:=(.seq (.reg [(qq a2 (.mv (x6 0)))]) (.seq aP1 .ret))
def c27:CF:= .mk 4 [.t a2] aP2
theorem e27(v0:V):aU 4 [v0]=(.n iy (some v0) iy):=rfl
def B27:=ai @e27 (ai (wu aP1.eq_1) (wu aP2.eq_1))
def cu3:CC:=(.reg [(aa a1 (.bx 31 6 z0)),(qq a2 (.mv (.c (.s 0 0)))),(qq a3 (.mv (x6 0)))])
def d34:=wu cu3.eq_1
def cu4:CC:=(.reg [(qq eE (.ldn 6 z1)),(ee dT (.call 7 [eD])),(qq dY (.mv fm)),(qq eG (.ex 0 eF)),(qq fF (.ex 1 eF)),(qq a4 (.mv fS)),(qq a5 (.mv fD))])
def d39:=wu cu4.eq_1
def cu5:CC:=(.reg [(qq eR (.mv z5)),(qq fv (.bi .neq gv (x6 0)))])
def d46:=wu cu5.eq_1
def cu6:CC:=(.reg [(qq fl (.mv z5)),(qq a2 (.mv (.c (.s 0 0)))),(qq a3 (.mv gH))])
def dA9:=wu cu6.eq_1
def cu7:CC:=(.seq cu5 (.cond gb (.seq cu6 .ret) .skip))
def d55:=wu cu7.eq_1
def cu8:CC:=(.reg [(aa a6 (.al 66 [.p0,.l0]))])
def d56:=wu cu8.eq_1
def cu9:CC:=(.reg [(qq dU (.mkf 22 [] [z6])),(qq a7 (.mv gM))])
def d57:=wu cu9.eq_1
def cv0:CC:=(.reg [(qq eV (.mv z7)),(qq eb (.fa 0 z1)),(qq fG (.fa 0 gw)),(qq gi (.fa 0 gy)),(qq gg (.ld1 iz)),(qq gQ (.fa 0 z1)),(qq j4 (.fa 0 iE)),(qq gj (.fa 1 jh)),(qq iG (.ld1 jL)),(aa fT (.bsl 3 2 1 [(.i .i64 0)] [(0,iA),(1,kz)])),(ee j5 (.call 25 [(.c (.s 7 28550371649741165)),kC])),(ee kv (.cv gO [kD]))])
def d58:=wu cv0.eq_1
def cv1:CC:=(.reg [(qq jq (.fa 0 z1)),(qq gR (.fa 0 kr)),(qq j6 (.fa 2 kW)),(qq jr (.ld1 lh)),(qq kF (.ln .slice lm)),(qq jM (.mv (x6 0)))])
def d59:=wu cv1.eq_1
def bd6:CC:=(.reg [(qq j7 (.bi .lss lr lq))])
def a03:=wu bd6.eq_1
def bd7:CC:=(.reg [(qq ky (.iaS 3 lm lr)),(qq js (.ldn 3 ny)),(aa a9 (.al 75 [(.i .i64 0),(.i .i64 0),(.i .i64 0)])),(ez (.st 3 z9 nG))])
def bw5:=wu bd7.eq_1
def bd8:CC:=(.reg [(qq kX (.mv z7)),(qq kY (.fa 0 z9)),(qq kB (.ld1 nA)),(qq iB (.fa 1 z9)),(qq nC (.ld1 nH)),(qq kG (.fa 2 z9)),(qq kH (.ld1 pl)),(aa j8 (.bsl 3 3 1 [(.i .i64 0)] [(0,oE),(1,oF),(2,pS)])),(ee nK (.call 25 [(.c (.s 7 32772547957449569)),pm])),(ee nL (.cv oD [pU]))])
def d35:=wu bd8.eq_1
def bd9:CC:=(.reg [(qq kI (.bi .add lr (x6 1))),(qq jM (.mv pn))])
def d36:=wu bd9.eq_1
def be0:CC:=(.seq (.cond mW .skip (.exit 0)) (.seq (.block 1 (.seq bd7 bd8)) bd9))
def a04:=wu be0.eq_1
def be1:CC:=(.reg [(qq lx (.fa 0 z1)),(qq lT (.fa 0 qT)),(qq qa (.fa 3 qU)),(qq oI (.ld1 sB)),(qq qb (.ln .slice sw)),(qq pq (.mv (x6 0)))])
def bw6:=wu be1.eq_1
def be2:CC:=(.reg [(qq pj (.bi .lss sy ug))])
def bw7:=wu be2.eq_1
def be3:CC:=(.cond tC .skip (.exit 2))
def bw8:=wu be3.eq_1
def be4:CC:=(.reg [(qq qc (.iaS 1 sw sy)),(qq qd (.ld1 yA)),(qq dk (.mv uM))])
def d37:=wu be4.eq_1
def be5:CC:=(.reg [(qq tG (.mv z7)),(qq tH (.mv dC)),(ee qQ (.call 20 [xX])),(qq um (.bi .add (.c (.s 8 2336630925664678512)) xY)),(ee uo (.cv vn [ya]))])
def d38:=wu be5.eq_1
def be6:CC:=(.reg [(qq qX (.bi .add sy (x6 1))),(qq pq (.mv yc))])
def d40:=wu be6.eq_1
def be7:CC:=(.seq be2 (.seq be3 (.seq (.block 3 (.seq be4 be5)) be6)))
def bw9:=wu be7.eq_1
def be8:CC:=(.reg [(qq vE (.fa 0 z1)),(qq y6 (.fa 4 Bz)),(qq y7 (.ld1 zL)),(qq yl (.ln .slice BB)),(qq y8 (.bi .gtr BC (x6 0)))])
def a05:=wu be8.eq_1
def be9:CC:=(.reg [(qq zT (.mv z7)),(qq BN (.fa 0 z1)),(qq Gx (.fa 4 Gq)),(qq Dl (.ld1 z79)),(ee O3 (.call 26 [z80])),(qq O4 (.bi .add (.c (.s 5 139392020073)) z81)),(ee O5 (.cv Dp [z82]))])
def bx0:=wu be9.eq_1
def VU:CC:=(.seq be8 (.cond BD be9 .skip))
def a06:=wu VU.eq_1
def bf0:CC:=(.reg [(qq vF (.fa 5 z1)),(qq O6 (.ld1 z84)),(qq O7 (.ln .slice z85)),(qq Ls (.mv (x6 0)))])
def d41:=wu bf0.eq_1
def bf1:CC:=(.reg [(qq O8 (.bi .lss z87 z86))])
def d42:=wu bf1.eq_1
def bf2:CC:=(.cond z88 .skip (.exit 4))
def d43:=wu bf2.eq_1
def bf3:CC:=(.reg [(qq zU (.iaS 5 z85 z87)),(qq OM (.ldn 5 z89)),(aa dN (.al 51 [(.i .i64 0),(.i .i64 0),(.s 0 0),.l0,.l0])),(ez (.st 5 dG z90))])
def d44:=wu bf3.eq_1
def bf4:CC:=(.reg [(qq OO (.ldn 5 dG)),(ee OP (.call 21 [z92])),(qq ON (.mv z93)),(qq Gy (.ex 0 z91)),(qq OQ (.ex 1 z91)),(qq dL (.mv z94)),(qq dS (.mv z95))])
def d45:=wu bf4.eq_1
def bf5:CC:=(.reg [(qq OR (.mv z7)),(qq OS (.mv eu)),(ee OT (.cv z96 [z97]))])
def d47:=wu bf5.eq_1
def bf6:CC:=(.reg [(qq Gz (.bi .add z87 (x6 1))),(qq Ls (.mv z99))])
def d48:=wu bf6.eq_1
def bf7:CC:=(.seq bf2 (.seq (.block 5 (.seq bf3 (.seq bf4 bf5))) bf6))
def d49:=wu bf7.eq_1
def bf8:CC:=(.reg [(ee vw (.call 27 [z6])),(qq pY (.bi .gtr Dg (x6 1048576)))])
def d50:=wu bf8.eq_1
def bf9:CC:=(.reg [(qq a2 (.mv (.c (.s 0 0)))),(qq a3 (.mv (x6 3)))])
def d51:=wu bf9.eq_1
def bg0:CC:=(.cond yz (.seq bf9 .ret) .skip)
def d52:=wu bg0.eq_1
def bg1:CC:=(.reg [(ee pZ (.call 28 [z6])),(qq a2 (.mv Dh)),(qq a3 (.mv (x6 0)))])
def d53:=wu bg1.eq_1
def Jf:CC:=(.seq (.seq bf0 (.block 4 (.loop (.seq bf1 bf7)))) (.seq (.seq bf8 bg0) (.seq bg1 .ret)))
def d54:=wu Jf.eq_1
def VV:CC:=(.seq (.seq be1 (.block 2 (.loop be7))) (.seq VU Jf))
def bx1:=wu VV.eq_1
def VW:CC:=(.seq (.seq cv1 (.block 0 (.loop (.seq bd6 be0)))) VV)
def bx2:=wu VW.eq_1
def bg2:CC:=(.seq (.seq cu4 cu7) (.seq cu8 (.seq cu9 (.seq cv0 VW))))
def bx3:=wu bg2.eq_1
def c8:CF:= .mk 7 [.t a2,.t a3] (.seq cu3 bg2)
theorem e8(v0:V):aU 7 [v0]=(.n sc (some v0) sc):=rfl
def B8:=ai @e8 (ai @d34 (ai @d39 (ai @d46 (ai @dA9 (ai @d55 (ai @d56 (ai @d57 (ai @d58 (ai @d59 (ai @a03 (ai @bw5 (ai @d35 (ai @d36 (ai @a04 (ai @bw6 (ai @bw7 (ai @bw8 (ai @d37 (ai @d38 (ai @d40 (ai @bw9 (ai @a05 (ai @bx0 (ai @a06 (ai @d41 (ai @d42 (ai @d43 (ai @d44 (ai @d45 (ai @d47 (ai @d48 (ai @d49 (ai @d50 (ai @d51 (ai @d52 (ai @d53 (ai @d54 (ai @bx1 (ai @bx2 (@bx3))))))))))))))))))))))))))))))))))))))))
theorem r22(h:Φ 22=some c22)(h23:Φ 23=some O9)(h24:Φ 24=some c24)(h60:Φ 60=some En){bb:Nat}(ok:cO F M0 c0)(hg:Gr c0 M0 c M)(hb:eB M c0 c b bb l)(s:List UInt8)(hr:l.length+s.length+1≤1073741824):
 Calls Φ F 22 [sV s,.p b 0] M c fun _ M' c'=>∃bb',eB M' c0 c' b bb' (l++(s++[10]))∧Gr c0 M0 c' M'∧c≤c':=by
 refine ax h ?_
 simp only[WX,B22]
 refine aw ((r23 Φ h23 h60 (hg.ok ok) hg hb s (iu (by omega))).mono ?_)
 rintro v1 M1 c1 ⟨bb1,hb1,hg1,hle1,_,_⟩
 have e10:(V.i .u8 10)=bV 10:=rfl
 simp only[WX,B22,e10]
 refine aw ((r24 Φ h24 h60 (hg1.ok ok) hg1 hb1 10 (iu (by rw[aG];omega))).mono ?_)
 rintro v2 M2 c2 ⟨bb2,hb2,hg2,hle2,_,_⟩
 simp only[WX]
 exact⟨bb2,by rw[←cB];exact hb2,hg2,by omega⟩
theorem r27(h:Φ 27=some c27){bb:Nat}(hb:eB M c0 c b bb l):
 Calls Φ F 27 [.p b 0] M c fun r M' c'=>r= .i .i64 (l.length:Int)∧M'=M∧c'=c:=by
 obtain⟨k1,k2,k3,a,v,hM,ha,hbuf⟩:=hb
 refine ax h ?_
 have l1:load1 F M b 1=some v:=aj hM 1
 obtain⟨o1,o2,o3⟩:=uR hbuf
 simp only[WX,B27,sq,iN,l1,o3]
theorem da3(h22:Φ 22=some c22)(h27:Φ 27=some c27)(w:BA Φ L)(ht:bn F L=true){Mz:Mem}{cz:Nat}{bb bx:Nat}{pre:List (List UInt8)}{x0 x1 x2 x3 x4:V}(gz:Gr cz Mz c0 M0)(ok:cO F M0 c0)(hg:Gr c0 M0 c M)(hb:eB M c0 c b bb (gp pre))(b1:M0.get bx=some (au 31 [x0,x1,x2,x3,x4,vt]))(hbx:bx<c0)(hs:fE F M0 c0 vt s.ys)(hA:∀y∈s.ys,pV y)(hY:∀y∈s.ys,nk y=true)(hr:(gp (pre++s.ys.map cd)).length≤1048576)(u:List (Option V)):
 Wp Jf (K Φ none 8 F) (.mk ((KC u (.p bx 0) (.p b 0) (.f 22 [] [.p b 0]))) [] M c) (dA F [.t (.r .h),.t (.l (.l .h))] fun v M' c'=>v= .t [sV (gp (pre++s.ys.map cd)),.i .i64 0]∧Gr cz Mz c' M'):=by
 have h23:=w.h23
 have h24:=w.h24
 have h60:=w.h60
 have h28:=w.h28
 have hx:load1 F M bx 5=some vt:=aj ((hg.old bx hbx).trans b1) 5
 have nt:=(hs.grow hg).len
 have zt:s.ys.length≤1000000000:=by
  have h0:=hr;rw[bU,aG]at h0;have:s.ys.length≤(gp (s.ys.map cd)).length:=by
   clear hr hs hA hY nt h0
   induction s.ys with
   |nil=>exact ak _
   |cons y l ih=>rw[List.map_cons,show cd y::l.map cd=[cd y]++l.map cd from rfl,bU,gF];simp only[aG,aP,bo];omega
  omega
 simp only[WX,B8,hx,nt]
 obtain⟨I,hI⟩:∃I:Nat→St→Prop,∀k s',I k s'↔(∃(i c1 b1:Nat) (M1:Mem) (u:List (Option V)),k=s.ys.length-i∧i≤s.ys.length∧s'= .mk ((cQ8 u (.p b 0) (.f 22 [] [.p b 0]) vt (.i .i64 (s.ys.length:Int)) (.i .i64 (i:Int)))) [] M1 c1∧Gr c0 M0 c1 M1∧eB M1 c0 c1 b b1 (gp (pre++(s.ys.take i).map cd))):=⟨fun k s'=>_,fun _ _=>Iff.rfl⟩
 refine bD I ?_ s.ys.length _ ((hI _ _).2 ⟨0,c,bb,M,(X4 (X2 (G2 (bH (X8 (X4 (X1 (G2 (G1 (cw (X4 (X2 (X1 []))))))))))))),rfl,aE _,rfl,hg,by rw[List.take_zero,List.map_nil,cu];exact hb⟩)
 intro k s' hIs
 obtain⟨i,c1,b2,M1,u,rfl,hi,rfl,g1,hb1⟩:=(hI _ _).1 hIs
 clear hIs
 have q8:bX .add (.i .i64 (i:Int)) (.i .i64 1)=some (.i .i64 ((i+1:Nat):Int)):=by rw[aN _ _ (by omega) (by omega)];simp
 by_cases hlt:i<s.ys.length
 ·have d1:decide ((i:Int)<(s.ys.length:Int))=true:=af (by omega);obtain⟨pb,po,vd,vl,hpb,hia,hld,sd,sl⟩:=(hs.grow g1).at i hlt;obtain⟨u1,u2,u3⟩:=aK sd;obtain⟨u4,u5,u6⟩:=aK sl;have htk:=cq hlt;have hy1:=hA _ (List.getElem_mem hlt);have hy2:=hY _ (List.getElem_mem hlt);generalize s.ys[i]=y at hld sd sl htk hy1 hy2;have hns:gp (pre++(s.ys.take (i+1)).map cd)=gp (pre++(s.ys.take i).map cd)++(cd y++[10]):=by rw[htk,List.map_append,←cB,bU,show[y].map cd=[cd y]from rfl,gF]
  have hle:(gp (pre++(s.ys.take (i+1)).map cd)).length≤(gp (pre++s.ys.map cd)).length:=by
   rw[bU,bU,aG,aG,List.map_take];have:=o8 (s.ys.map cd) (i+1);omega
  rw[hns]at hle;simp only[aG,aP,bo]at hle;have gB:=(Gr.refl (g1.ok ok)).set c1 (au 51 [.i .i64 y.k,.i .i64 y.a,sV y.tx,vd,vl]) (ak _) (aD _) (aA _);simp only[WX,Nat.reduceAdd,Nat.reduceLeDiff,B8,d1,hia,hld,gq,u1,u6];refine aw ((r21 w (gB.ok (g1.ok ok)) ht hy1 (sd.grow gB) (sl.grow gB)).mono ?_);rintro r N2 c3 ⟨⟨ln,rfl,hln⟩,g5⟩;obtain rfl:=hln hy2;simp only[WX,B8];have g6:=gB.trans g5;refine aw ((r22 h22 h23 h24 h60 ok (g1.trans g6) (hb1.up g6.le fun x hx=>g6.old x hx) (cd y) (by omega)).mono ?_);rintro v3 M3 c4 ⟨b3,hb3,g3,hle3⟩;simp only[WX,B8,q8];exact⟨s.ys.length-(i+1),by omega,(hI _ _).2 ⟨i+1,c4,b3,M3,(X4 (X2 (G2 (bH (X8 (X4 (X1 (G2 (G1 (cw (X4 (X2 (X1 []))))))))))))),rfl,hlt,rfl,g3,by rw[hns];exact hb3⟩⟩
 ·obtain rfl:i=s.ys.length:=by omega
  have d1:decide ((s.ys.length:Int)<(s.ys.length:Int))=false:=ah (by omega);rw[List.take_length]at hb1;simp only[WX,B8,d1];refine aw ((r27 h27 hb1).mono ?_);rintro v2 M2 c2 ⟨rfl,rfl,rfl⟩;have d2:decide ((1048576:Int)<(((gp (pre++s.ys.map cd)).length:Nat):Int))=false:=ah (by omega);simp only[WX,B8,d2];refine aw ((r28 Φ h28 (g1.ok ok) g1 hb1 (by omega)).mono ?_);rintro v3 M3 c3 ⟨rfl,g3,hle3,_⟩;simp only[WX];exact gz.trans g3
abbrev cQ9(u:List (Option V))(x1 x6 x7 x60 x61 x62:V):T:=(.n (.n (.n (.n (aq u 63 31 95 15 79 47 111) (some x7) (aq u 71 39 103 23 87 55 119)) (uO u 3) (.n (aq u 67 35 99 19 83 51 115) (uO u 11) (aq u 75 43 107 27 91 59 123))) (some x1) (.n (.n (aq u 65 33 97 17 81 49 113) (uO u 9) (aq u 73 41 105 25 89 57 121)) (uO u 5) (.n (aq u 69 37 101 21 85 53 117) (uO u 13) (.n (fu u 77 45 109) (uO u 29) (.n (ia u 93) (some x61) (ia u 125)))))) (uO u 0) (.n (.n (.n (aq u 64 32 96 16 80 48 112) (uO u 8) (aq u 72 40 104 24 88 56 120)) (uO u 4) (.n (aq u 68 36 100 20 84 52 116) (uO u 12) (.n (fu u 76 44 108) (uO u 28) (.n (ia u 92) (some x60) (ia u 124))))) (uO u 2) (.n (.n (aq u 66 34 98 18 82 50 114) (uO u 10) (aq u 74 42 106 26 90 58 122)) (some x6) (.n (aq u 70 38 102 22 86 54 118) (uO u 14) (.n (fu u 78 46 110) (uO u 30) (.n (ia u 94) (some x62) (ia u 126)))))))
abbrev cR0(u:List (Option V))(x1 x6 x7 x40 x41 x42:V):T:=(.n (.n (.n (.n (aq u 63 31 95 15 79 47 111) (some x7) (aq u 71 39 103 23 87 55 119)) (uO u 3) (.n (aq u 67 35 99 19 83 51 115) (uO u 11) (aq u 75 43 107 27 91 59 123))) (some x1) (.n (.n (aq u 65 33 97 17 81 49 113) (uO u 9) (.n (.n (ia u 73) (some x41) (ia u 105)) (uO u 25) (fu u 89 57 121))) (uO u 5) (.n (aq u 69 37 101 21 85 53 117) (uO u 13) (aq u 77 45 109 29 93 61 125)))) (uO u 0) (.n (.n (.n (aq u 64 32 96 16 80 48 112) (uO u 8) (.n (.n (ia u 72) (some x40) (ia u 104)) (uO u 24) (fu u 88 56 120))) (uO u 4) (.n (aq u 68 36 100 20 84 52 116) (uO u 12) (aq u 76 44 108 28 92 60 124))) (uO u 2) (.n (.n (aq u 66 34 98 18 82 50 114) (uO u 10) (.n (.n (ia u 74) (some x42) (ia u 106)) (uO u 26) (fu u 90 58 122))) (some x6) (.n (aq u 70 38 102 22 86 54 118) (uO u 14) (aq u 78 46 110 30 94 62 126)))))
def rD(s:SC):List (List UInt8):=if s.ini=[]then[]else[kq++fh s.ini]
theorem JX(a b c:List (List UInt8)):(gp (a++b)).length≤(gp (a++(b++c))).length:=by
 rw[←cB,bU (a++b),aG];omega
theorem dC7(h22:Φ 22=some c22)(h27:Φ 27=some c27)(h26:Φ 26=some WV)(w:BA Φ L)(ht:bn F L=true){Mz:Mem}{cz:Nat}{bb bx:Nat}{pre:List (List UInt8)}{x0 x1 x2 x3:V}(gz:Gr cz Mz c0 M0)(ok:cO F M0 c0)(hg:Gr c0 M0 c M)(hb:eB M c0 c b bb (gp pre))(b1:M0.get bx=some (au 31 [x0,x1,x2,x3,vi,vt]))(hbx:bx<c0)(hi:fC F M0 c0 vi s.ini)(zi:s.ini.length≤100000)(hs:fE F M0 c0 vt s.ys)(hA:∀y∈s.ys,pV y)(hY:∀y∈s.ys,nk y=true)(hr:(gp (pre++(rD s++s.ys.map cd))).length≤1048576)(u:List (Option V)):
 Wp (.seq VU Jf) (K Φ none 8 F) (.mk ((KC u (.p bx 0) (.p b 0) (.f 22 [] [.p b 0]))) [] M c) (dA F [.t (.r .h),.t (.l (.l .h))] fun v M' c'=>v= .t [sV (gp (pre++(rD s++s.ys.map cd))),.i .i64 0]∧Gr cz Mz c' M'):=by
 have h23:=w.h23
 have h24:=w.h24
 have h60:=w.h60
 have h28:=w.h28
 have k4:load1 F M bx 4=some vi:=aj ((hg.old bx hbx).trans b1) 4
 have ni:=(hi.grow hg).len
 rw[List.length_map]at ni
 by_cases h0:s.ini=[]
 ·have hl:rD s=[]:=ae h0;rw[hl,List.nil_append]at hr⊢;have d1:decide ((0:Int)<(s.ini.length:Int))=false:=ah (by rw[h0];decide);simp only[WX,a05,a06,k4,ni,d1];exact da3 h22 h27 w ht gz ok hg hb b1 hbx hs hA hY hr (X1 (G1 (X4 (G2 (bH (cw (cj (X4 (X2 (X1 []))))))))))
 ·have hl:rD s=[kq++fh s.ini]:=ab h0;rw[hl,←cB]at hr⊢;have hp:0<s.ini.length:=List.length_pos_iff.2 h0;have d1:decide ((0:Int)<(s.ini.length:Int))=true:=af (by omega);simp only[WX,a05,bx0,a06,k4,ni,d1];refine aw ((r26 Φ h26 h23 h28 h60 (hg.ok ok) (hi.grow hg) (by omega)).mono ?_);rintro r M2 c2 ⟨rfl,g2⟩;have hx:=jb s.ini;have s1:bX .add (.s 5 139392020073) (sV (fh s.ini))=some (sV (kq++fh s.ini)):=cL kq _ (by show 5+_≤_;omega);have hle:(gp (pre++[kq++fh s.ini])).length≤1048576:=by
   rw[bU,aG]at hr;omega
  rw[bU,gF]at hle;simp only[aG,aP,bo]at hle;simp only[WX,s1];refine aw ((r22 h22 h23 h24 h60 ok (hg.trans g2) (hb.up g2.le fun x hx=>g2.old x hx) (kq++fh s.ini) (by rw[aG];omega)).mono ?_);rintro v3 M3 c4 ⟨b3,hb3,g3,hle3⟩;simp only[WX];exact da3 h22 h27 w ht gz ok g3 (show eB M3 c0 c4 b b3 (gp (pre++[kq++fh s.ini])) by rw[bU,gF];exact hb3) b1 hbx hs hA hY hr (X1 (G1 (X4 (G2 (bH (cw (cj (X4 (X2 (X1 []))))))))))
theorem dC6{pT:List UInt8→List UInt8}(h22:Φ 22=some c22)(h27:Φ 27=some c27)(h26:Φ 26=some WV)(w:BA Φ L)(ht:bn F L=true)(h20:∀M c v l,cO F M c→fC F M c v l→Calls Φ F 20 [v] M c fun r M' c'=>r=sV (pT l)∧Gr c M c' M')(hpl:∀l,(pT l).length≤1000000){Mz:Mem}{cz:Nat}{bb bx:Nat}{pre:List (List UInt8)}{x0 x1 x2:V}(gz:Gr cz Mz c0 M0)(ok:cO F M0 c0)(hg:Gr c0 M0 c M)(hb:eB M c0 c b bb (gp pre))(b1:M0.get bx=some (au 31 [x0,x1,x2,vp,vi,vt]))(hbx:bx<c0)(hp:cH F M0 c0 vp s.pg)(zp:s.pg.length≤100000)(hi:fC F M0 c0 vi s.ini)(zi:s.ini.length≤100000)(hs:fE F M0 c0 vt s.ys)(hA:∀y∈s.ys,pV y)(hY:∀y∈s.ys,nk y=true)(hr:(gp (pre++(s.pg.map (fun p=>cm++pT p)++(rD s++s.ys.map cd)))).length≤1048576)(u:List (Option V)):
 Wp VV (K Φ none 8 F) (.mk ((KC u (.p bx 0) (.p b 0) (.f 22 [] [.p b 0]))) [] M c) (dA F [.t (.r .h),.t (.l (.l .h))] fun v M' c'=>v= .t [sV (gp (pre++(s.pg.map (fun p=>cm++pT p)++(rD s++s.ys.map cd)))),.i .i64 0]∧Gr cz Mz c' M'):=by
 have h23:=w.h23
 have h24:=w.h24
 have h60:=w.h60
 have h28:=w.h28
 have k3:load1 F M bx 3=some vp:=aj ((hg.old bx hbx).trans b1) 3
 have np:=(hp.grow hg).len
 simp only[WX,bw6,bx1,k3,np]
 obtain⟨I,hI⟩:∃I:Nat→St→Prop,∀k s',I k s'↔(∃(i c1 b1:Nat) (M1:Mem) (u:List (Option V)),k=s.pg.length-i∧i≤s.pg.length∧s'= .mk ((cQ9 u (.p bx 0) (.p b 0) (.f 22 [] [.p b 0]) vp (.i .i64 (s.pg.length:Int)) (.i .i64 (i:Int)))) [] M1 c1∧Gr c0 M0 c1 M1∧eB M1 c0 c1 b b1 (gp (pre++(s.pg.take i).map (fun p=>cm++pT p)))):=⟨fun k s'=>_,fun _ _=>Iff.rfl⟩
 refine bD I ?_ s.pg.length _ ((hI _ _).2 ⟨0,c,bb,M,(X1 (G1 (X4 (G2 (cw (cj (X4 (G2 (G1 (bH [])))))))))),rfl,aE _,rfl,hg,by rw[List.take_zero,List.map_nil,cu];exact hb⟩)
 intro k s' hIs
 obtain⟨i,c1,b2,M1,u,rfl,hi',rfl,g1,hb1⟩:=(hI _ _).1 hIs
 clear hIs
 have q8:bX .add (.i .i64 (i:Int)) (.i .i64 1)=some (.i .i64 ((i+1:Nat):Int)):=by rw[aN _ _ (by omega) (by omega)];simp
 by_cases hlt:i<s.pg.length
 ·have d1:decide ((i:Int)<(s.pg.length:Int))=true:=af (by omega);obtain⟨pb,po,vq,hpb,hia,hld,sd⟩:=(hp.grow g1).at i hlt;have htk:=cq hlt;have hcat:=List.take_append_drop (i+1) s.pg;generalize s.pg[i]=p at sd htk;have hns:gp (pre++(s.pg.take (i+1)).map (fun p=>cm++pT p))=gp (pre++(s.pg.take i).map (fun p=>cm++pT p))++((cm++pT p)++[10]):=by rw[htk,List.map_append,←cB,bU,show[p].map (fun p=>cm++pT p)=[cm++pT p]from rfl,gF]
  have hle:(gp (pre++(s.pg.take (i+1)).map (fun p=>cm++pT p))).length≤1048576:=by
   have:=JX pre (s.pg.map (fun p=>cm++pT p)) (rD s++s.ys.map cd);have h2:=o8 (s.pg.map (fun p=>cm++pT p)) (i+1);rw[bU,aG]at this;rw[bU,aG,List.map_take];omega
  rw[hns]at hle;simp only[aG,aP,bo]at hle;simp only[WX,B8,d1,hia,hld];refine aw ((h20 M1 c1 vq p (g1.ok ok) sd).mono ?_);rintro r N2 c3 ⟨rfl,g5⟩;have hx:=hpl p;have s1:bX .add (.s 8 2336630925664678512) (sV (pT p))=some (sV (cm++pT p)):=cL cm _ (by show 8+_≤_;omega);simp only[WX,s1];refine aw ((r22 h22 h23 h24 h60 ok (g1.trans g5) (hb1.up g5.le fun x hx=>g5.old x hx) (cm++pT p) (by rw[aG];omega)).mono ?_);rintro v3 M3 c4 ⟨b3,hb3,g3,hle3⟩;simp only[WX,B8,q8];exact⟨s.pg.length-(i+1),by omega,(hI _ _).2 ⟨i+1,c4,b3,M3,(X1 (G1 (X4 (G2 (cw (cj (X4 (G2 (G1 (bH [])))))))))),rfl,hlt,rfl,g3,by rw[hns];exact hb3⟩⟩
 ·obtain rfl:i=s.pg.length:=by omega
  have d1:decide ((s.pg.length:Int)<(s.pg.length:Int))=false:=ah (by omega);rw[List.take_length]at hb1;simp only[WX,bw7,bw8,bw9,d1];rw[←bP];rw[←cB pre]at hr⊢;exact dC7 h22 h27 h26 w ht gz ok g1 hb1 b1 hbx hi zi hs hA hY hr (X1 (G1 (X4 (G2 (bH (cw (cj (X4 (X2 (X1 []))))))))))
theorem dC5{pT:List UInt8→List UInt8}(h22:Φ 22=some c22)(h27:Φ 27=some c27)(h26:Φ 26=some WV)(h25:Φ 25=some c25)(w:BA Φ L)(ht:bn F L=true)(h20:∀M c v l,cO F M c→fC F M c v l→Calls Φ F 20 [v] M c fun r M' c'=>r=sV (pT l)∧Gr c M c' M')(hpl:∀l,(pT l).length≤1000000){Mz:Mem}{cz:Nat}{bb bx:Nat}{pre:List (List UInt8)}{x0 x1:V}(gz:Gr cz Mz c0 M0)(ok:cO F M0 c0)(hg:Gr c0 M0 c M)(hb:eB M c0 c b bb (gp pre))(b1:M0.get bx=some (au 31 [x0,x1,va,vp,vi,vt]))(hbx:bx<c0)(ha:bG F M0 c0 3 va (cY s.ac))(za:s.ac.length≤100000)(hra:∀a∈s.ac,bZ a.1∧bZ a.2.1∧bZ a.2.2)(hp:cH F M0 c0 vp s.pg)(zp:s.pg.length≤100000)(hi:fC F M0 c0 vi s.ini)(zi:s.ini.length≤100000)(hs:fE F M0 c0 vt s.ys)(hA:∀y∈s.ys,pV y)(hY:∀y∈s.ys,nk y=true)(hr:(gp (pre++(s.ac.map ym++(s.pg.map (fun p=>cm++pT p)++(rD s++s.ys.map cd))))).length≤1048576)(u:List (Option V)):
 Wp VW (K Φ none 8 F) (.mk ((KC u (.p bx 0) (.p b 0) (.f 22 [] [.p b 0]))) [] M c) (dA F [.t (.r .h),.t (.l (.l .h))] fun v M' c'=>v= .t [sV (gp (pre++(s.ac.map ym++(s.pg.map (fun p=>cm++pT p)++(rD s++s.ys.map cd))))),.i .i64 0]∧Gr cz Mz c' M'):=by
 have h23:=w.h23
 have h24:=w.h24
 have h60:=w.h60
 have h28:=w.h28
 have k2:load1 F M bx 2=some va:=aj ((hg.old bx hbx).trans b1) 2
 have na:=(ha.grow hg).len
 rw[aL]at na
 simp only[WX,d59,bx2,k2,na]
 obtain⟨I,hI⟩:∃I:Nat→St→Prop,∀k s',I k s'↔(∃(i c1 b1:Nat) (M1:Mem) (u:List (Option V)),k=s.ac.length-i∧i≤s.ac.length∧s'= .mk ((cR0 u (.p bx 0) (.p b 0) (.f 22 [] [.p b 0]) va (.i .i64 (s.ac.length:Int)) (.i .i64 (i:Int)))) [] M1 c1∧Gr c0 M0 c1 M1∧eB M1 c0 c1 b b1 (gp (pre++(s.ac.take i).map ym))):=⟨fun k s'=>_,fun _ _=>Iff.rfl⟩
 refine bD I ?_ s.ac.length _ ((hI _ _).2 ⟨0,c,bb,M,(X1 (G1 (X4 (G2 (cw (G2 (G1 (bH (cj (X4 [])))))))))),rfl,aE _,rfl,hg,by rw[List.take_zero,List.map_nil,cu];exact hb⟩)
 intro k s' hIs
 obtain⟨i,c1,b2,M1,u,rfl,hi',rfl,g1,hb1⟩:=(hI _ _).1 hIs
 clear hIs
 have q8:bX .add (.i .i64 (i:Int)) (.i .i64 1)=some (.i .i64 ((i+1:Nat):Int)):=by rw[aN _ _ (by omega) (by omega)];simp
 by_cases hlt:i<s.ac.length
 ·have d1:decide ((i:Int)<(s.ac.length:Int))=true:=af (by omega);obtain⟨pb,po,hpb,hia,hld⟩:=(ha.grow g1).at i (by rw[aL];exact hlt);have hia:=hia .i64;have htk:=cq hlt;have hrg:=hra _ (List.getElem_mem hlt);have hge:(cY s.ac)[i]'(by rw[aL];exact hlt)=[.i .i64 s.ac[i].1,.i .i64 s.ac[i].2.1,.i .i64 s.ac[i].2.2]:=List.getElem_map ..;rw[hge]at hld;have hld:=hld.load (by simp);generalize s.ac[i]=q at hld htk hrg;have hld:loadN F M1 pb po 3=some [.i .i64 q.1,.i .i64 q.2.1,.i .i64 q.2.2]:=hld;have hns:gp (pre++(s.ac.take (i+1)).map ym)=gp (pre++(s.ac.take i).map ym)++(ym q++[10]):=by rw[htk,List.map_append,←cB,bU,show[q].map ym=[ym q]from rfl,gF]
  have hle:(gp (pre++(s.ac.take (i+1)).map ym)).length≤1048576:=by
   have:=JX pre (s.ac.map ym) (s.pg.map (fun p=>cm++pT p)++(rD s++s.ys.map cd));have h2:=o8 (s.ac.map ym) (i+1);rw[bU,aG]at this;rw[bU,aG,List.map_take];omega
  rw[hns]at hle;simp only[aG,aP,bo]at hle;simp only[WX,Nat.reduceAdd,Nat.reduceLeDiff,a03,bw5,a04,d1,hia,hld];have gA:=(Gr.refl (g1.ok ok)).set c1 (au 75 [.i .i64 q.1,.i .i64 q.2.1,.i .i64 q.2.2]) (ak _) (aD _) (aA _);have bA:(M1.set c1 (au 75 [.i .i64 q.1,.i .i64 q.2.1,.i .i64 q.2.2])).get c1=some (au 75 [.i .i64 q.1,.i .i64 q.2.1,.i .i64 q.2.2]):=am _ _ _;generalize M1.set c1 (au 75 [.i .i64 q.1,.i .i64 q.2.1,.i .i64 q.2.2])=N1 at gA bA⊢;have l0:load1 F N1 c1 0=some (.i .i64 q.1):=aj bA 0;have l1:load1 F N1 c1 1=some (.i .i64 q.2.1):=aj bA 1;have l2:load1 F N1 c1 2=some (.i .i64 q.2.2):=aj bA 2;simp only[WX,Nat.reduceAdd,B8,l0,l1,l2];have gC:=(Gr.refl ((g1.trans gA).ok ok)).set (c1+1) (cQ [.i .i64 0] 3 [.i .i64 q.1,.i .i64 q.2.1,.i .i64 q.2.2]) (ak _) (aD _) (aA _);have hsl:bG F (N1.set (c1+1) (cQ [.i .i64 0] 3 [.i .i64 q.1,.i .i64 q.2.1,.i .i64 q.2.2])) (c1+1+1) 1 (.l (c1+1) 0 3 3) (ET [q.1,q.2.1,q.2.2]):=qS (d:=[.i .i64 0]) (ty:=3) (am _ _ _) (by omega) (fun e he=>by obtain⟨x,_,rfl⟩:=List.mem_map.1 he;rfl) rfl;have hrl:∀n∈[q.1,q.2.1,q.2.2],bZ n:=by
   intro n hn;simp only[bv,List.not_mem_nil,or_false]at hn;rcases hn with rfl|rfl|rfl
   ·exact hrg.1
   ·exact hrg.2.1
   ·exact hrg.2.2
  have g6:=gA.trans gC;refine aw ((r25 (w:=oB) h25 w.h56 ((g1.trans g6).ok ok) ht hsl hrl (by simp) (by decide)).mono ?_);rintro r M2 c2 ⟨rfl,rfl,rfl⟩;simp only[WX];refine aw ((r22 h22 h23 h24 h60 ok (g1.trans g6) (hb1.up g6.le fun x hx=>g6.old x hx) (ym q) (by omega)).mono ?_);rintro v3 M3 c4 ⟨b3,hb3,g3,hle3⟩;simp only[WX,B8,q8];exact⟨s.ac.length-(i+1),by omega,(hI _ _).2 ⟨i+1,c4,b3,M3,(X1 (G1 (X4 (G2 (cw (G2 (G1 (bH (cj (X4 [])))))))))),rfl,hlt,rfl,g3,by rw[hns];exact hb3⟩⟩
 ·obtain rfl:i=s.ac.length:=by omega
  have d1:decide ((s.ac.length:Int)<(s.ac.length:Int))=false:=ah (by omega);rw[List.take_length]at hb1;simp only[WX,a03,a04,d1];rw[←cB pre]at hr⊢;exact dC6 h22 h27 h26 w ht h20 hpl gz ok g1 hb1 b1 hbx hp zp hi zi hs hA hY hr (X1 (G1 (X4 (G2 (bH (cw (cj (X4 (X2 (X1 []))))))))))
theorem BX:∀{ys:List AC},sI ys=none→ys.all nk=true
 |[],_=>rfl
 |y::r,h=>by
  have h:(if nk y=true then(sI r).map (· +1)else some 0)=none:=h;by_cases hy:nk y=true
  ·rw[ae hy]at h
   rw[List.all_cons,hy,BX (ys:=r) (by cases hb:sI r with
    |none=>rfl
    |some x=>rw[hb]at h;cases h)];rfl
  ·rw[ab hy]at h;cases h
theorem bF7(h:(fV s).2=0):rK s=true∧(∀y∈s.ys,nk y=true)∧s.ys.length≤4096∧(fV s).1=0:=by
 unfold fV at h⊢
 by_cases h1:rK s=true
 ·rw[ae h1]at h⊢;cases hb:sI s.ys with
  |some i=>rw[hb]at h;cases h
  |none=>
   rw[hb]at h;by_cases h2:s.ys.length≤4096
   ·exact⟨h1,List.all_eq_true.1 (BX hb),h2,by rw[ae h2]⟩
   ·have h:(if s.ys.length≤4096 then((0:Int),(0:Int))else(0,3)).2=0:=h;rw[ab h2]at h;cases h
 ·rw[ab h1]at h;cases h
theorem Yi(h:rK s=true):s.ac.length≤8∧s.pg.length≤8∧s.ini.length≤32768:=by
 unfold rK t7 at h
 simp only[aC,decide_eq_true_eq]at h
 omega
theorem YK(pT:List UInt8→List UInt8)(s:SC):scT pT s=gp ([wM eP [s.fr,s.se]]++(s.ac.map ym++(s.pg.map (fun p=>cm++pT p)++(rD s++s.ys.map cd)))):=by
 unfold scT wC rD
 congr 1
 simp only[List.cons_append,List.nil_append,cB]
def bP3(pT:List UInt8→List UInt8)(s:SC):V:=if(fV s).2=0 then .t [sV (scT pT s),.i .i64 0]else .t [.s 0 0,.i .i64 (fV s).2]
theorem r8{pT:List UInt8→List UInt8}(h:Φ 8=some c8)(h7:Φ 7=some c7)(p:SuP Φ)(h22:Φ 22=some c22)(h27:Φ 27=some c27)(h26:Φ 26=some WV)(h25:Φ 25=some c25)(w:BA Φ L)(ht:bn F L=true)(h20:∀M c v l,cO F M c→fC F M c v l→Calls Φ F 20 [v] M c fun r M' c'=>r=sV (pT l)∧Gr c M c' M')(hpl:∀l,(pT l).length≤1000000)(ok:cO F M c)(hs:qV F M c va vp vi vt s)(hb:∀y∈s.ys,pV y)(hf:bZ s.fr)(hse:bZ s.se)(hra:∀a∈s.ac,bZ a.1∧bZ a.2.1∧bZ a.2.2)(z1:s.ac.length≤1000000)(z2:s.pg.length≤1000000)(z4:s.ys.length≤1000000)(hr:(fV s).2=0→(scT pT s).length≤1048576):
 Calls Φ F 8 [.g [.i .i64 s.fr,.i .i64 s.se,va,vp,vi,vt]] M c fun r M' c'=>r=bP3 pT s∧Gr c M c' M':=by
 refine ax h ?_
 have h23:=w.h23
 have h24:=w.h24
 have h60:=w.h60
 obtain⟨o1,o2,o3⟩:=aK hs.1
 obtain⟨ep,sp,_⟩:=id hs.2.1
 obtain⟨p1,p2,p3⟩:=aK sp
 obtain⟨q1,q2,q3⟩:=aK hs.2.2.1
 obtain⟨et,st,_⟩:=id hs.2.2.2
 obtain⟨t1,t2,t3⟩:=aK st
 have g1:=(Gr.refl ok).set c (au 31 [.i .i64 s.fr,.i .i64 s.se,va,vp,vi,vt]) (ak _) (aD _) (aA _)
 have b0:(M.set c (au 31 [.i .i64 s.fr,.i .i64 s.se,va,vp,vi,vt])).get c=some (au 31 [.i .i64 s.fr,.i .i64 s.se,va,vp,vi,vt]):=am _ _ _
 have hs1:=hs.grow g1
 simp only[WX,Nat.reduceAdd,e8,d34,bx3,o1,p1,q1,t3]
 generalize M.set c (au 31 [.i .i64 s.fr,.i .i64 s.se,va,vp,vi,vt])=M1 at g1 b0 hs1⊢
 have cW:=g1.ok ok
 have ld:loadN F M1 c 0 6=some [.i .i64 s.fr,.i .i64 s.se,va,vp,vi,vt]:=da b0 [.i .i64 s.fr,.i .i64 s.se,va,vp,vi,vt] [] rfl (by simp)
 simp only[WX,d39,ld]
 refine aw ((r7 h7 p w cW ht hs1 hb hf hse z1 z2 z4).mono ?_)
 rintro r M2 c2 ⟨rfl,g2⟩
 unfold sM bP3
 by_cases h0:(fV s).2=0
 ·obtain⟨hS,hY,hl,h1⟩:=bF7 h0;have hz:=Yi hS;have hr:=hr h0;rw[ae h0];rw[YK]at hr⊢;have g3:=g1.trans g2;have ok2:=g2.ok cW;have gA:=(Gr.refl ok2).set c2 (au 66 [.p0,.l0]) (ak _) (aD _) (aA _);have bA:(M2.set c2 (au 66 [.p0,.l0])).get c2=some (au 66 [.p0,.l0]):=am _ _ _;have b2:=(g2.old c (by omega)).trans b0;have hcl:=g2.le;rw[h0];have d0:decide ((0:Int)≠0)=false:=by decide
  simp only[WX,d46,d55,d56,d57,d0];have bB:=(gA.old c (by omega)).trans b2;have gT:=g3.trans gA;have hbld:eB (M2.set c2 (au 66 [.p0,.l0])) c2 (c2+1) c2 (c2+1) []:=⟨ak _,aD _,by omega,_,_,bA,.inl rfl,.inl ⟨rfl,rfl⟩⟩
  have okA':=gA.ok ok2;generalize M2.set c2 (au 66 [.p0,.l0])=N at gA bA bB gT hbld okA'⊢;have l0:load1 F N c 0=some (.i .i64 s.fr):=aj bB 0;have l1:load1 F N c 1=some (.i .i64 s.se):=aj bB 1;simp only[WX,Nat.reduceAdd,d58,l0,l1];have gC:=(Gr.refl okA').set (c2+1) (cQ [.i .i64 0] 3 [.i .i64 s.fr,.i .i64 s.se]) (ak _) (aD _) (aA _);have hsl:bG F (N.set (c2+1) (cQ [.i .i64 0] 3 [.i .i64 s.fr,.i .i64 s.se])) (c2+1+1) 1 (.l (c2+1) 0 2 2) (ET [s.fr,s.se]):=qS (d:=[.i .i64 0]) (ty:=3) (am _ _ _) (by omega) (fun e he=>by obtain⟨x,_,rfl⟩:=List.mem_map.1 he;rfl) rfl;have hrl:∀n∈[s.fr,s.se],bZ n:=by
   intro n hn;simp only[bv,List.not_mem_nil,or_false]at hn;rcases hn with rfl|rfl
   ·exact hf
   ·exact hse
  have hw:=my [s.fr,s.se] eP hrl;refine aw ((r25 (w:=eP) h25 w.h56 (gC.ok okA') ht hsl hrl (by simp) (by decide)).mono ?_);rintro r M3 c3 ⟨rfl,rfl,rfl⟩;simp only[WX];have hz3:(wM eP [s.fr,s.se]).length≤200:=bF hw (show 7+40*2≤200 by decide);refine aw ((r22 h22 h23 h24 h60 ok2 (gA.trans gC) (hbld.up gC.le fun x hx=>gC.old x hx) (wM eP [s.fr,s.se]) (by rw[bo];omega)).mono ?_);rintro v3 M3 c4 ⟨b3,hb3,g4,hle3⟩;simp only[WX];rw[List.nil_append,←gF]at hb3;have hs2:=hs1.grow g2;exact dC5 h22 h27 h26 h25 w ht h20 hpl g3 ok2 g4 hb3 b2 (by omega) hs2.1 (by omega) hra hs2.2.1 (by omega) hs2.2.2.1 (by omega) hs2.2.2.2 hb hY hr (X1 (G1 (X4 (G2 (bH (cw (cj (X4 (X2 (X1 []))))))))))
 ·rw[ab h0];have d1:decide ((fV s).2≠0)=true:=af h0;simp only[WX,B8,d1];exact g1.trans g2
end
end Go.Proofs.YtcnblipfcihcpaaGreatDoor.Ev
