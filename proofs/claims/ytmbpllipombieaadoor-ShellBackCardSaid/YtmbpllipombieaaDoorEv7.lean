/- What is proved here: pieces of the evaluator's soundness: if the evaluator comes to a value, the model's run comes to it, for every world and tape; no conditions beyond the hypotheses of each theorem. -/
import Derived.Test.YtmbpllipombieaaDoorEv6
set_option linter.unusedSimpArgs false
set_option linter.unusedVariables false
set_option linter.defProp false
set_option maxRecDepth 10000
set_option maxHeartbeats 16000000
namespace Go.Proofs.YtmbpllipombieaaDoor.Ev
open Go
noncomputable section
theorem cE.at1{α:Type}{F:RO}{R:Mem→Nat→V→α→Prop}{M:Mem}{c:Nat}{v:V}{l:List α}(h:cE F (fun M c e a=>∃x,e=[x]∧R M c x a) 1 M c v l)(i:Nat)(hi:i<l.length):
 ∃b o x,b<c∧(∀k,j6 1 v (.i k (i:Int))=some (.p b o))∧load1 F M b o=some x∧loadN F M b o 1=some [x]∧R M c x l[i]:=by
 obtain⟨es,h1,h2,h3,h4⟩:=h
 obtain⟨b,o,a1,a2,a3⟩:=h1.at i (by omega)
 obtain⟨x,hx,hr⟩:=h4 i (by omega) hi
 rw[hx]at a3
 have a0:=a3 0 (by simp)
 exact⟨b,o,x,a1,a2,a0,a3.load (by simp),hr⟩
theorem ae1{F:RO}{M:Mem}{c:Nat}{v:V}{ps:List Pc}(h:cq F M c 2 v (kL ps))(i:Nat)(hi:i<ps.length):∃b o,b<c∧(∀k,j6 2 v (.i k (i:Int))=some (.p b o))∧load1 F M b o=some (sV ps[i].1):=by
 obtain⟨b,o,h1,h2,h3⟩:=h.at i (by rw[eM];exact hi)
 have e:(kL ps)[i]'(by rw[eM];exact hi)=Fb ps[i]:=by simp[kL]
 rw[e]at h3
 have a0:=h3 0 (by simp[Fb])
 exact⟨b,o,h1,h2,a0⟩
theorem cE.lk{α:Type}{F F':RO}{R R':Mem→Nat→List V→α→Prop}{sz:Nat}{M M':Mem}{c:Nat}{v:V}{l:List α}(hlk:∀b,look F' M' b=look F M b)(hR:∀e x,R M c e x→R' M' c e x)(h:cE F R sz M c v l):cE F' R' sz M' c v l:=by
 obtain⟨es,h1,h2,h3,h4⟩:=h
 exact⟨es,h1.lk hlk,h2,h3,fun i h h'=>hR _ _ (h4 i h h')⟩
theorem dO.lk{F F':RO}{M M':Mem}{c:Nat}{v:V}{w:List Pc}(hlk:∀b,look F' M' b=look F M b)(h:dO F M c v w):dO F' M' c v w:=⟨h.1.lk hlk,h.2⟩
theorem fC.lk{F F':RO}{M M':Mem}{c:Nat}{v:V}{l:List (List Pc)}(hlk:∀b,look F' M' b=look F M b)(h:fC F M c v l):fC F' M' c v l:=cE.lk hlk (fun e w ⟨x,h1,h2⟩=>⟨x,h1,h2.lk hlk⟩) h
theorem ka.lk{F F':RO}{M M':Mem}{c:Nat}{v:V}{l:List (List (List Pc))}(hlk:∀b,look F' M' b=look F M b)(h:ka F M c v l):ka F' M' c v l:=cE.lk hlk (fun e w ⟨x,h1,h2⟩=>⟨x,h1,h2.lk hlk⟩) h
abbrev NN(u:List (Option V))(x1 x3 x7 x8 x9:V):T:=(.n (.n (.n (.n (ec u 31 15 47) (some x7) (ec u 39 23 55)) (some x3) (aQ u 35 19 51 11 43 27 59)) (some x1) (.n (.n (ec u 33 17 49) (some x9) (ec u 41 25 57)) (uO u 5) (aQ u 37 21 53 13 45 29 61))) (uO u 0) (.n (.n (.n (ec u 32 16 48) (some x8) (ec u 40 24 56)) (uO u 4) (aQ u 36 20 52 12 44 28 60)) (uO u 2) (.n (aQ u 34 18 50 10 42 26 58) (uO u 6) (aQ u 38 22 54 14 46 30 62))))
def VY:CC:=(.reg [(aa a1 (.bx 36 1 z0)),(qq a2 (.mv xF))])
def VZ:CC:=(.reg [(qq a3 (.mv xF))])
def W0:CC:=(.reg [(qq a6 (.fa 0 z1)),(qq a7 (.ld1 z6)),(qq a8 (.ln .slice z7)),(qq a9 (.mv (x6 0)))])
def W2:CC:=(.reg [(qq dX (.bi .lss z9 z8))])
def W3:CC:=(.reg [(qq fy (.iaS 2 z7 z9)),(qq fR (.ldn 2 eg)),(aa a5 (.al 64 [(.s 0 0),(.b false)])),(ez (.st 2 z5 eX))])
def W4:CC:=(.reg [(qq gQ (.fa 1 z5)),(qq eN (.ld1 iH)),(qq iw (.mv iq)),(aW gk (.fa 0 z5) iw),(aW gS (.ld1 gH) iw),(aW lj (.bi .neq ir (.c (.s 0 0))) iw),(qq ke (.pk jP lQ xF)),(qq fc (.mv mR))])
def W5:CC:=(.reg [(qq gT (.fa 1 z5)),(qq lL (.ld1 oc)),(qq kl (.un .not og)),(qq kf (.mv mW)),(aW mS (.mv z3) kf),(qq mg (.pk pf qQ xF)),(qq fc (.mv qx))])
def W6:CC:=(.reg [(qq iU (.fa 1 z5)),(qq mT (.ld1 qy)),(qq ll (.un .not qR)),(qq mh (.mv sN)),(aW mU (.fa 0 z5) mh),(aW sQ (.ld1 sZ) mh),(aW sR (.bi .eql wy (.c (.s 0 0))) mh),(qq qz (.pk sY wz xF)),(qq lM (.mv wA)),(aW tA (.fa 0 z1) lM),(aW pS (.ld1 yO) lM),(aW mV (.ln .slice uz) lM),(aW ou (.bi .gtr wf (x6 1)) lM),(qq tB (.pk we wB xF)),(qq fc (.mv yP))])
def W7:CC:=(.reg [(qq t4 (.fa 0 z5)),(qq tC (.ld1 wg)),(ee tD (.call 77 [yQ,(.c (.f 78 [] []))])),(qq qX (.un .not yR)),(qq fc (.mv wC))])
def KD:CC:=(.cond ey .skip (.seq W6 (.cond ey .skip W7)))
def KE:CC:=(.seq W4 (.cond ey .skip (.seq W5 KD)))
def KF:CC:=(.seq (.reg [(qq a2 (.mv xF))]) .ret)
def KG:CC:=(.block 2 (.seq KE (.cond ey KF .skip)))
def KH:CC:=(.reg [(qq uJ (.fa 1 z5)),(qq ow (.ld1 zc)),(qq uK (.un .not DO)),(qq a3 (.mv zd))])
def KI:CC:=(.reg [(qq wh (.bi .add z9 (x6 1))),(qq a9 (.mv BS))])
def KJ:CC:=(.seq (.cond gc .skip (.exit 0)) (.seq (.block 1 (.seq W3 (.seq KG KH))) KI))
def KK:CC:=(.reg [(qq wN (.fa 0 z1)),(qq wO (.ld1 FX)),(qq wj (.ln .slice FY)),(qq sS (.bi .gtr BT (x6 0))),(qq a2 (.mv FZ))])
def KL:CC:=(.seq (.seq W0 (.block 0 (.loop (.seq W2 KJ)))) (.seq KK .ret))
def zY:CF:= .mk 6 [.t a2] (.seq VY (.seq VZ KL))
theorem e61(v0:V):bz 6 [v0]=(.n Bp (some v0) Bp):=rfl
def P7:=ai @e61 (ai (wu VY.eq_1) (ai (wu VZ.eq_1) (ai (wu W0.eq_1) (ai (wu W2.eq_1) (ai (wu W3.eq_1) (ai (wu W4.eq_1) (ai (wu W5.eq_1) (ai (wu W6.eq_1) (ai (wu W7.eq_1) (ai (wu KD.eq_1) (ai (wu KE.eq_1) (ai (wu KF.eq_1) (ai (wu KG.eq_1) (ai (wu KH.eq_1) (ai (wu KI.eq_1) (ai (wu KJ.eq_1) (ai (wu KK.eq_1) (wu KL.eq_1))))))))))))))))))
def uZ(n:Nat)(tx:Bool)(p:Pc):Bool:=(p.2&& !decide (p.1=[]))||((!p.2&&tx)||((!p.2&&(decide (p.1=[])&&decide (1<n)))|| !(p.1.all kO)))
def nw(n:Nat):Bool→List Pc→Bool
 |_,[]=>true
 |tx,p::r=> !uZ n tx p&&nw n (!p.2) r
def eu(w:List Pc):Bool:=nw w.length false w&&decide (0<w.length)
theorem eQ{M:Mem}{c ty:Nat}{d vs:List V}(hl:vs.length=d.length)(h1:aC vs=true):bK (M.set c (af ty d)) c 0 vs=some (M.set c (af ty vs)):=by
 rw[aH (am M c (af ty d)) 0 vs (by omega) h1,nZ,xV hl.symm]
theorem aM3(s:List UInt8):h77 [sV s,.f 78 [] []]=if s.length≤1000000 then some (.b (s.all kO))else none:=by
 show(t6 (sV s)).bind _=_
 rw[na,Option.bind_some]
theorem w61(Φ:Nat→Option CF)(h:Φ 61=some zY)(h77:Φ 77=some (.orc (aN h77))){F:RO}{M:Mem}{c:Nat}(ok:cV F M c){v:V}{w:List Pc}(hw:dO F M c v w)(hp:∀p∈w,p.1.length≤1000000):
 Calls Φ F 61 [.g [v]] M c fun r M' c'=>r= .b (eu w)∧Gr c M c' M':=by
 refine aI h ?_
 obtain⟨y1,y2,y3⟩:=hw.one
 have hG:∀v,flatten (V.g [v])=[v]:=fun _=>rfl
 have gX:=(Gr.refl ok).set c (af 36 [v]) (ag _) (aA _) (aP _)
 have m0:(M.set c (af 36 [v])).get c=some (af 36 [v]):=am _ _ _
 have n1:=hw.len
 have mx1:w.length≤9223372036854775807:=hw.2
 have hX:=hw.grow gX
 have k0:load1 F (M.set c (af 36 [v])) c 0=some v:=aq m0 0
 simp only[WX,P7,hG,y3,k0,n1]
 generalize M.set c (af 36 [v])=X at gX m0 hX⊢
 clear k0
 obtain⟨I,hI⟩:∃I:Nat→St→Prop,∀n s',I n s'↔(∃(i c1:Nat) (tx:Bool) (M1:Mem) (u:List (Option V)),n=w.length-i∧i≤w.length∧s'= .mk ((NN u (.p c 0) (.b tx) v (.i .i64 (w.length:Int)) (.i .i64 (i:Int)))) [] M1 c1∧Gr (c+1) X c1 M1∧nw w.length false w=nw w.length tx (w.drop i)):=⟨fun n s'=>_,fun _ _=>Iff.rfl⟩
 refine bT I ?_ w.length _ ((hI _ _).2 ⟨0,_,_,_,(X1 (G1 (X1 (G1 (X2 (X1 (G2 (G1 (cP (cw (X4 (X1 [])))))))))))),rfl,aB _,rfl,Gr.refl (gX.ok ok),rfl⟩)
 intro n s' hIs
 obtain⟨i,c1,tx,M1,u,rfl,hi,rfl,gr1,hf⟩:=(hI _ _).1 hIs
 clear hIs
 have k0:load1 F M1 c 0=some v:=(gr1.load1 (by omega) _).trans (aq m0 0)
 by_cases hlt:i<w.length
 ·have q8:du .add (.i .i64 (i:Int)) (.i .i64 1)=some (.i .i64 ((i+1:Nat):Int)):=by rw[bJ _ _ (by omega) (by omega)];simp
  have d1:decide ((i:Int)<(w.length:Int))=true:=aj (by omega);obtain⟨b,o,hb,ia,ld1⟩:=CR (hX.grow gr1).1 i hlt;have ia:=ia .i64;have hd:w.drop i=w[i]::w.drop (i+1):=cF hlt;rw[hd,nw]at hf;have hl1:=hp w[i] (List.getElem_mem _);generalize w[i]=p at ld1 hf hl1;obtain⟨tx1,st⟩:=p;unfold Fb at ld1;have sn:bK (M1.set c1 (af 64 [V.s 0 0,V.b false])) c1 0 [sV tx1,.b st]=some (M1.set c1 (af 64 [sV tx1,.b st])):=eQ rfl rfl;have m1:(M1.set c1 (af 64 [sV tx1,.b st])).get c1=some (af 64 [sV tx1,.b st]):=am _ _ _;have g1:=gr1.set c1 (af 64 [sV tx1,.b st]) gr1.le (aA _) (aP _);have p0:load1 F (M1.set c1 (af 64 [sV tx1,.b st])) c1 0=some (sV tx1):=aq m1 0;have p1:load1 F (M1.set c1 (af 64 [sV tx1,.b st])) c1 1=some (.b st):=aq m1 1;have k1:load1 F (M1.set c1 (af 64 [sV tx1,.b st])) c 0=some v:=(g1.load1 (by omega) _).trans (aq m0 0);have qn:=r6 tx1 [];have qe:=r5 tx1 [];have e0:V.s 0 0=sV []:=rfl;rw[←e0]at qn qe;have hh:=aM3 tx1;rw[ac hl1]at hh;have STEP:nw w.length false w=(!uZ w.length tx (tx1,st)&&nw w.length (!st) (w.drop (i+1))):=hf;have BAD:uZ w.length tx (tx1,st)=true→eu w=false:=by
   intro hb;unfold eu;rw[STEP,hb];rfl
  have GOOD:uZ w.length tx (tx1,st)=false→nw w.length false w=nw w.length (!st) (w.drop (i+1)):=by
   intro hb;rw[STEP,hb];rfl
  unfold uZ at BAD GOOD;generalize M1.set c1 (af 64 [sV tx1,.b st])=Y at sn p0 p1 k1 g1;have FIN:∀(M2:Mem) (c2:Nat),Gr (c+1) X c2 M2→Gr c M c2 M2:=fun _ _ g=>gX.trans g;cases st with
  |true=>
   by_cases ht:tx1=[]
   ·rw[aj ht]at qe qn;cases ha:tx1.all kO with
    |true=>
     rw[ha]at hh;simp only[WX,Nat.reduceAdd,P7,d1,ia,ld1,sn,p0,p1,qn,h77,hh,q8];exact⟨w.length-(i+1),by omega,(hI _ _).2 ⟨i+1,_,_,_,(X1 (G1 (X1 (G1 (X2 (X1 (G2 (G1 (cP (cw (X4 (X1 [])))))))))))),rfl,hlt,rfl,g1,GOOD (by rw[ha,aj ht];rfl)⟩⟩
    |false=>
     rw[ha]at hh;simp only[WX,Nat.reduceAdd,P7,d1,ia,ld1,sn,p0,p1,qn,h77,hh];exact⟨by rw[BAD (by rw[ha];simp)],FIN _ _ g1⟩
   ·rw[ak ht]at qe qn;simp only[WX,Nat.reduceAdd,P7,d1,ia,ld1,sn,p0,p1,qn];exact⟨by rw[BAD (by rw[ak ht];rfl)],FIN _ _ g1⟩
  |false=>
   cases tx with
   |true=>
    simp only[WX,Nat.reduceAdd,P7,d1,ia,ld1,sn,p1];exact⟨by rw[BAD rfl],FIN _ _ g1⟩
   |false=>
    by_cases ht:tx1=[]
    ·rw[aj ht]at qe qn;by_cases h1:1<w.length
     ·have d2:decide ((1:Int)<(w.length:Int))=true:=aj (by omega);simp only[WX,Nat.reduceAdd,P7,d1,d2,ia,ld1,sn,p0,p1,qe,k1,n1];exact⟨by rw[BAD (by rw[aj ht,aj h1];simp)],FIN _ _ g1⟩
     ·have d2:decide ((1:Int)<(w.length:Int))=false:=ak (by omega);have ha:tx1.all kO=true:=by rw[ht];rfl
      rw[ha]at hh;simp only[WX,Nat.reduceAdd,P7,d1,d2,ia,ld1,sn,p0,p1,qe,k1,h77,hh,n1,q8];exact⟨w.length-(i+1),by omega,(hI _ _).2 ⟨i+1,_,_,_,(X1 (G1 (X1 (G1 (X2 (X1 (G2 (G1 (cP (cw (X4 (X1 [])))))))))))),rfl,hlt,rfl,g1,GOOD (by rw[ha,ak h1];simp)⟩⟩
    ·rw[ak ht]at qe qn;cases ha:tx1.all kO with
     |true=>
      rw[ha]at hh;simp only[WX,Nat.reduceAdd,P7,d1,ia,ld1,sn,p0,p1,qe,h77,hh,q8];exact⟨w.length-(i+1),by omega,(hI _ _).2 ⟨i+1,_,_,_,(X1 (G1 (X1 (G1 (X2 (X1 (G2 (G1 (cP (cw (X4 (X1 [])))))))))))),rfl,hlt,rfl,g1,GOOD (by rw[ha,ak ht];simp)⟩⟩
     |false=>
      rw[ha]at hh;simp only[WX,Nat.reduceAdd,P7,d1,ia,ld1,sn,p0,p1,qe,h77,hh];exact⟨by rw[BAD (by rw[ha];simp)],FIN _ _ g1⟩
 ·obtain rfl:i=w.length:=by omega
  have d1:decide ((w.length:Int)<(w.length:Int))=false:=ak (by omega);rw[cZ]at hf;have hff:eu w=decide ((0:Int)<(w.length:Int)):=by
   unfold eu;rw[hf];simp[nw]
  simp only[WX,P7,d1,k0,n1];exact⟨by rw[hff],gX.trans gr1⟩
abbrev YE(u:List (Option V))(x1 x3 x4:V):T:=(.n (.n (.n (.n (aQ u 63 31 95 15 79 47 111) (uO u 7) (aQ u 71 39 103 23 87 55 119)) (some x3) (.n (aQ u 67 35 99 19 83 51 115) (uO u 11) (aQ u 75 43 107 27 91 59 123))) (some x1) (.n (.n (aQ u 65 33 97 17 81 49 113) (uO u 9) (aQ u 73 41 105 25 89 57 121)) (uO u 5) (.n (aQ u 69 37 101 21 85 53 117) (uO u 13) (aQ u 77 45 109 29 93 61 125)))) (uO u 0) (.n (.n (.n (aQ u 64 32 96 16 80 48 112) (uO u 8) (aQ u 72 40 104 24 88 56 120)) (some x4) (.n (aQ u 68 36 100 20 84 52 116) (uO u 12) (aQ u 76 44 108 28 92 60 124))) (uO u 2) (.n (.n (aQ u 66 34 98 18 82 50 114) (uO u 10) (aQ u 74 42 106 26 90 58 122)) (uO u 6) (.n (aQ u 70 38 102 22 86 54 118) (uO u 14) (aQ u 78 46 110 30 94 62 126)))))
abbrev aS5(u:List (Option V))(x2:V):T:=(.n (.n (.n (.n (aQ u 63 31 95 15 79 47 111) (uO u 7) (aQ u 71 39 103 23 87 55 119)) (uO u 3) (.n (aQ u 67 35 99 19 83 51 115) (uO u 11) (aQ u 75 43 107 27 91 59 123))) (uO u 1) (.n (.n (aQ u 65 33 97 17 81 49 113) (uO u 9) (aQ u 73 41 105 25 89 57 121)) (uO u 5) (.n (aQ u 69 37 101 21 85 53 117) (uO u 13) (aQ u 77 45 109 29 93 61 125)))) (uO u 0) (.n (.n (.n (aQ u 64 32 96 16 80 48 112) (uO u 8) (aQ u 72 40 104 24 88 56 120)) (uO u 4) (.n (aQ u 68 36 100 20 84 52 116) (uO u 12) (aQ u 76 44 108 28 92 60 124))) (some x2) (.n (.n (aQ u 66 34 98 18 82 50 114) (uO u 10) (aQ u 74 42 106 26 90 58 122)) (uO u 6) (.n (aQ u 70 38 102 22 86 54 118) (uO u 14) (aQ u 78 46 110 30 94 62 126)))))
def VE:CC:=(.reg [(aa a1 (.bx 36 1 z0)),(qq a2 (.mv (.c (.s 0 0))))])
def VF:CC:=(.reg [(aa a3 (.al 99 [.p0,.l0]))])
def VG:CC:=(.reg [(qq a6 (.fa 0 z1)),(qq a7 (.ld1 z6)),(qq a8 (.ln .slice z7)),(qq a9 (.mv (x6 0)))])
def VH:CC:=(.reg [(qq dX (.bi .lss z9 z8))])
def VI:CC:=(.reg [(qq fy (.iaS 2 z7 z9)),(qq fR (.ldn 2 eg)),(aa a5 (.al 64 [(.s 0 0),(.b false)])),(ez (.st 2 z5 eX))])
def VJ:CC:=(.reg [(qq lj (.fa 1 z5)),(qq ke (.ld1 lQ)),(qq gS (.mv mR))])
def VK:CC:=(.reg [(ee gT (.call 52 [z3,(.c (.s 2 16164))]))])
def VL:CC:=(.reg [(qq kl (.fa 0 z5)),(qq kf (.ld1 mW)),(qq mS (.bi .neq pf (.c (.s 0 0)))),(qq mg (.mv qQ)),(aW iU (.fa 0 z5) mg),(aW mT (.ld1 qy) mg),(pZ ll (.call 77 [qR,(.c (.f 75 [] []))]) mg),(qq mh (.pk qx sN xF)),(qq lL (.mv sY))])
def VM:CC:=(.reg [(qq mU (.fa 0 z5)),(qq sQ (.ld1 sZ)),(ee sR (.call 52 [z3,wy]))])
def JT:CC:=(.reg [(qq fc (.fa 0 z5)),(qq gQ (.ld1 ey)),(qq eN (.bi .add (.c (.s 1 39)) iH)),(qq iw (.bi .add iq (.c (.s 1 39)))),(ee gk (.call 52 [z3,jP]))])
def JU:CC:=(.seq VL (.cond og VM JT))
def JV:CC:=(.seq VJ (.cond ir VK JU))
def JW:CC:=(.reg [(qq qz (.bi .add z9 (x6 1))),(qq a9 (.mv wA))])
def JX:CC:=(.seq (.cond gc .skip (.exit 0)) (.seq (.block 1 (.seq VI (.block 2 JV))) JW))
def JY:CC:=(.reg [(ee lM (.call 54 [z3])),(qq a2 (.mv we))])
def JZ:CC:=(.seq (.seq VG (.block 0 (.loop (.seq VH JX)))) (.seq JY .ret))
def yY:CF:= .mk 6 [.t a2] (.seq VE (.seq VF JZ))
theorem e59(v0:V):bz 6 [v0]=(.n Bp (some v0) Bp):=rfl
def P6:=ai @e59 (ai (wu VE.eq_1) (ai (wu VF.eq_1) (ai (wu VG.eq_1) (ai (wu VH.eq_1) (ai (wu VI.eq_1) (ai (wu VJ.eq_1) (ai (wu VK.eq_1) (ai (wu VL.eq_1) (ai (wu VM.eq_1) (ai (wu JT.eq_1) (ai (wu JU.eq_1) (ai (wu JV.eq_1) (ai (wu JW.eq_1) (ai (wu JX.eq_1) (ai (wu JY.eq_1) (wu JZ.eq_1))))))))))))))))
def oS(p:Pc):List UInt8:=if p.2=true then[36,63]else if(!decide (p.1=[])&&p.1.all oe)=true then p.1 else 39::(p.1++[39])
def cN:List Pc→List UInt8
 |[]=>[]
 |p::r=>oS p++cN r
theorem DL(a b:List Pc):cN (a++b)=cN a++cN b:=by
 induction a with
 |nil=>rfl
 |cons p r ih=>show oS p++cN (r++b)=(oS p++cN r)++cN b;rw[ih,bh]
theorem yL{w:List Pc}{i:Nat}(h:i<w.length):cN (w.take (i+1))=cN (w.take i)++oS w[i]:=by
 rw[List.take_succ_eq_append_getElem h,DL];show _++(oS w[i]++[])=_;rw[bQ]
theorem Sr{w:List Pc}{i:Nat}:(cN (w.take i)).length≤(cN w).length:=by
 have:=congrArg List.length (DL (w.take i) (w.drop i))
 rw[List.take_append_drop,aF]at this
 omega
theorem aw0{w:List Pc}{i:Nat}(h:i<w.length):(cN (w.take i)).length+(oS w[i]).length≤(cN w).length:=by
 have:=@Sr w (i+1)
 rw[yL h,aF]at this
 exact this
theorem w59(Φ:Nat→Option CF)(h:Φ 59=some yY)(h77:Φ 77=some (.orc (aN h77)))(h52:Φ 52=some wp)(h54:Φ 54=some wq)(h71:Φ 71=some tJ){F:RO}{M:Mem}{c:Nat}(ok:cV F M c){v:V}{w:List Pc}(hw:dO F M c v w)(hp:∀p∈w,p.1.length≤1000000)(hz:(cN w).length≤1000000):
 Calls Φ F 59 [.g [v]] M c fun r M' c'=>r=sV (cN w)∧Gr c M c' M':=by
 refine aI h ?_
 obtain⟨y1,y2,y3⟩:=hw.one
 have hG:∀v,flatten (V.g [v])=[v]:=fun _=>rfl
 have gX:=(Gr.refl ok).set c (af 36 [v]) (ag _) (aA _) (aP _)
 have m0:(M.set c (af 36 [v])).get c=some (af 36 [v]):=am _ _ _
 have n1:=hw.len
 have mx1:w.length≤9223372036854775807:=hw.2
 have hX:=hw.grow gX
 have e0:V.s 0 0=sV []:=rfl
 have kz:load1 F (M.set c (af 36 [v])) c 0=some v:=aq m0 0
 have gA:=(Gr.refl (gX.ok ok)).set (c+1) (af 99 [.p0,.l0]) (ag _) (aA _) (aP _)
 have k0:load1 F ((M.set c (af 36 [v])).set (c+1) (af 99 [.p0,.l0])) c 0=some v:=(gA.load1 (aA _) _).trans kz
 have hB:jQ ((M.set c (af 36 [v])).set (c+1) (af 99 [.p0,.l0])) (c+1) (c+2) (c+1) 0 (cN (w.take 0)):=⟨ag _,aA _,by omega,.p0,.l0,am _ _ _,.inl rfl,.inl ⟨rfl,rfl⟩⟩
 simp only[WX,Nat.reduceAdd,P6,hG,y3,k0,n1]
 generalize M.set c (af 36 [v])=X at gX m0 hX gA kz hB k0⊢
 generalize X.set (c+1) (af 99 [.p0,.l0])=A at gA hB k0⊢
 have okX:=gX.ok ok
 obtain⟨I,hI⟩:∃I:Nat→St→Prop,∀n s',I n s'↔(∃(i c1 bb:Nat) (M1:Mem) (u:List (Option V)),n=w.length-i∧i≤w.length∧s'= .mk ((NN u (.p c 0) (.p (c+1) 0) v (.i .i64 (w.length:Int)) (.i .i64 (i:Int)))) [] M1 c1∧Gr (c+1) X c1 M1∧jQ M1 (c+1) c1 (c+1) bb (cN (w.take i))):=⟨fun n s'=>_,fun _ _=>Iff.rfl⟩
 refine bT I ?_ w.length _ ((hI _ _).2 ⟨0,_,_,_,(X1 (G1 (X1 (G1 (X2 (X1 (G2 (G1 (cP (cw (X4 (X1 [])))))))))))),rfl,aB _,rfl,gA,hB⟩)
 intro n s' hIs
 obtain⟨i,c1,bb,M1,u,rfl,hi,rfl,gr1,hb1⟩:=(hI _ _).1 hIs
 clear hIs
 by_cases hlt:i<w.length
 ·have q8:du .add (.i .i64 (i:Int)) (.i .i64 1)=some (.i .i64 ((i+1:Nat):Int)):=by rw[bJ _ _ (by omega) (by omega)];simp
  have d1:decide ((i:Int)<(w.length:Int))=true:=aj (by omega);obtain⟨b,o,hb,ia,ld1⟩:=CR (hX.grow gr1).1 i hlt;have ia:=ia .i64;have hl1:=hp w[i] (List.getElem_mem _);have htk:=yL hlt;have hsz:=aw0 hlt;generalize w[i]=p at ld1 hl1 htk hsz;obtain⟨s,st⟩:=p;unfold Fb at ld1;have ok1:=gr1.ok okX;have sn:bK (M1.set c1 (af 64 [V.s 0 0,V.b false])) c1 0 [sV s,.b st]=some (M1.set c1 (af 64 [sV s,.b st])):=eQ rfl rfl;have m1:(M1.set c1 (af 64 [sV s,.b st])).get c1=some (af 64 [sV s,.b st]):=am _ _ _;have g1':=(Gr.refl ok1).set c1 (af 64 [sV s,.b st]) (ag _) (aA _) (aP _);have g1:=gr1.trans g1';have hb2:jQ (M1.set c1 (af 64 [sV s,.b st])) (c+1) (c1+1) (c+1) bb (cN (w.take i)):=hb1.up (aP _) (fun x hx=>g1'.old x hx);have p0:load1 F (M1.set c1 (af 64 [sV s,.b st])) c1 0=some (sV s):=aq m1 0;have p1:load1 F (M1.set c1 (af 64 [sV s,.b st])) c1 1=some (.b st):=aq m1 1;have qn:=r6 s [];rw[←e0]at qn;generalize cN (w.take i)=T at htk hsz hb2 hb1⊢;generalize M1.set c1 (af 64 [sV s,.b st])=Y at sn p0 p1 g1 g1' hb2;have okY:=g1.ok okX;have NXT:∀(W:List UInt8),cN (w.take (i+1))=T++W→ ∀(M2:Mem) (c2 bb2:Nat) (u:List (Option V)),jQ M2 (c+1) c2 (c+1) bb2 (T++W)→Gr (c+1) X c2 M2→I (w.length-(i+1)) (.mk ((NN u (.p c 0) (.p (c+1) 0) v (.i .i64 (w.length:Int)) (.i .i64 ((i+1:Nat):Int)))) [] M2 c2):=by
   intro W hW M2 c2 bb2 u hb3 g3;exact(hI _ _).2 ⟨i+1,_,_,_,(X1 (G1 (X1 (G1 (X2 (X1 (G2 (G1 (cP (cw (X4 (X1 [])))))))))))),rfl,hlt,rfl,g3,by rw[hW];exact hb3⟩
  cases st with
  |true=>
   simp only[WX,Nat.reduceAdd,P6,d1,ia,ld1,sn,p1];refine aw ((r52 Φ h52 h71 okY g1 hb2 [36,63] (jH (by have:(oS (s,true)).length=2:=rfl;simp only[av,aV];omega))).mono ?_);rintro r M2 c2 ⟨bb2,hb3,g3,_⟩;simp only[WX,P6,q8];exact⟨w.length-(i+1),by omega,NXT _ htk _ _ _ (X1 (G1 (X1 (G1 (X2 (X1 (G2 (G1 (cP (cw (X4 (X1 [])))))))))))) hb3 g3⟩
  |false=>
   have hxx:=aM2 s hl1;by_cases hs0:s=[]
   ·rw[aj hs0]at qn;have hpt:oS (s,false)=39::(s++[39]):=by unfold oS;rw[ab (by simp),ab (by simp[hs0])]
    rw[hpt]at hsz htk;have hl3:(39::(s++[39]):List UInt8).length=s.length+2:=by simp
    rw[hl3]at hsz;have ca:du .add (.s 1 39) (sV s)=some (sV (39::s)):=fT [39] s (by simp only[av,aV];omega);have cb:du .add (sV (39::s)) (.s 1 39)=some (sV (39::(s++[39]))):=fT (39::s) [39] (by simp only[av,aV];omega);simp only[WX,Nat.reduceAdd,P6,d1,ia,ld1,sn,p0,p1,qn,ca,cb];refine aw ((r52 Φ h52 h71 okY g1 hb2 (39::(s++[39])) (jH (by rw[hl3];omega))).mono ?_);rintro r M2 c2 ⟨bb2,hb3,g3,_⟩;simp only[WX,P6,q8];exact⟨w.length-(i+1),by omega,NXT _ htk _ _ _ (X1 (G1 (X1 (G1 (X2 (X1 (G2 (G1 (cP (cw (X4 (X1 [])))))))))))) hb3 g3⟩
   ·rw[ak hs0]at qn;cases hx:s.all oe with
    |true=>
     rw[hx]at hxx;have hpt:oS (s,false)=s:=by unfold oS;rw[ab (by simp),ac (by simp[hs0];simpa using hx)]
     rw[hpt]at hsz htk;simp only[WX,Nat.reduceAdd,P6,d1,ia,ld1,sn,p0,p1,qn,h77,hxx];refine aw ((r52 Φ h52 h71 okY g1 hb2 s (jH (by omega))).mono ?_);rintro r M2 c2 ⟨bb2,hb3,g3,_⟩;simp only[WX,P6,q8];exact⟨w.length-(i+1),by omega,NXT _ htk _ _ _ (X1 (G1 (X1 (G1 (X2 (X1 (G2 (G1 (cP (cw (X4 (X1 [])))))))))))) hb3 g3⟩
    |false=>
     rw[hx]at hxx;have hpt:oS (s,false)=39::(s++[39]):=by unfold oS;rw[ab (by simp),ab (by simp only[hx,Bool.and_false];simp)]
     rw[hpt]at hsz htk;have hl3:(39::(s++[39]):List UInt8).length=s.length+2:=by simp
     rw[hl3]at hsz;have ca:du .add (.s 1 39) (sV s)=some (sV (39::s)):=fT [39] s (by simp only[av,aV];omega);have cb:du .add (sV (39::s)) (.s 1 39)=some (sV (39::(s++[39]))):=fT (39::s) [39] (by simp only[av,aV];omega);simp only[WX,Nat.reduceAdd,P6,d1,ia,ld1,sn,p0,p1,qn,ca,cb,h77,hxx];refine aw ((r52 Φ h52 h71 okY g1 hb2 (39::(s++[39])) (jH (by rw[hl3];omega))).mono ?_);rintro r M2 c2 ⟨bb2,hb3,g3,_⟩;simp only[WX,P6,q8];exact⟨w.length-(i+1),by omega,NXT _ htk _ _ _ (X1 (G1 (X1 (G1 (X2 (X1 (G2 (G1 (cP (cw (X4 (X1 [])))))))))))) hb3 g3⟩
 ·obtain rfl:i=w.length:=by omega
  have d1:decide ((w.length:Int)<(w.length:Int))=false:=ak (by omega);rw[List.take_length]at hb1;simp only[WX,P6,d1];refine aw ((r54 Φ h54 (gr1.ok okX) gr1 hb1 (by omega)).mono ?_);rintro r M2 c2 ⟨rfl,g3,_⟩;simp only[WX];exact gX.trans g3
def X0:CC:=(.reg [(aa a1 (.mkm)),(qq a2 (.bld [(.i .i64 0),(.i .i64 0),(.b false)] [])),(ez (.mu .str z1 (.c (.s 4 1702195828)) z2)),(qq a3 (.bld [(.i .i64 0),(.i .i64 0),(.b false)] [])),(ez (.mu .str z1 (.c (.s 5 435728179558)) z3)),(qq a4 (.bld [(.i .i64 0),(.i .i64 0),(.b false)] [])),(ez (.mu .str z1 (.c (.s 5 500069396323)) z4)),(qq a5 (.bld [(.i .i64 0),(.i .i64 0),(.b false)] [])),(ez (.mu .str z1 (.c (.s 5 491328139381)) z5)),(qq a6 (.bld [(.i .i64 0),(.i .i64 0),(.b false)] [(1,1,(x6 (-1)))])),(ez (.mu .str z1 (.c (.s 4 1869112165)) z6)),(qq a7 (.bld [(.i .i64 0),(.i .i64 0),(.b false)] [(1,1,(x6 (-1)))])),(ez (.mu .str z1 (.c (.s 3 7627107)) z7)),(qq a8 (.bld [(.i .i64 0),(.i .i64 0),(.b false)] [(0,1,(x6 1)),(1,1,(x6 1))])),(ez (.mu .str z1 (.c (.s 5 500153084262)) z8)),(qq a9 (.bld [(.i .i64 0),(.i .i64 0),(.b false)] [(0,1,(x6 1)),(1,1,(x6 1))])),(ez (.mu .str z1 (.c (.s 3 7561576)) z9)),(qq dX (.bld [(.i .i64 0),(.i .i64 0),(.b false)] [(1,1,(x6 1))])),(ez (.mu .str z1 (.c (.s 4 1953720684)) gc)),(qq fy (.bld [(.i .i64 0),(.i .i64 0),(.b false)] [(0,1,(x6 2)),(1,1,(x6 2)),(2,1,xT)])),(ez (.mu .str z1 (.c (.s 4 1701536109)) eg)),(qq fR (.bld [(.i .i64 0),(.i .i64 0),(.b false)] [(0,1,(x6 1)),(1,1,(x6 1)),(2,1,xT)])),(ez (.mu .str z1 (.c (.s 4 2036430689)) eX)),(qq fc (.bld [(.i .i64 0),(.i .i64 0),(.b false)] [(0,1,(x6 1)),(1,1,(x6 1)),(2,1,xT)])),(ez (.mu .str z1 (.c (.s 5 491260308579)) ey)),(qq gQ (.bld [(.i .i64 0),(.i .i64 0),(.b false)] [(0,1,(x6 2)),(1,1,(x6 2)),(2,1,xT)])),(ez (.mu .str z1 (.c (.s 4 1702260589)) iH)),(qq eN (.bld [(.i .i64 0),(.i .i64 0),(.b false)] [(0,1,(x6 2)),(1,1,(x6 2)),(2,1,xT)])),(ez (.mu .str z1 (.c (.s 4 1802398060)) iq)),(qq iw (.bld [(.i .i64 0),(.i .i64 0),(.b false)] [(0,1,(x6 2)),(1,1,(x6 2)),(2,1,xT)])),(ez (.mu .str z1 (.c (.s 6 126943805008242)) jP)),(qq gk (.mv z1)),(qq a0 (.mv gH))])
def X3:CC:=(.seq (.reg [(qq a0 (.mv (.c .m0)))]) (.seq X0 .ret))
def Eh:CF:= .mk 5 [.t a0] X3
theorem e80:bz 5 []=Bp:=rfl
def B80:=ai @e80 (ai (wu X0.eq_1) (wu X3.eq_1))
def wx(sh:Sh)(M:Mem)(c:Nat)(m k v:V):RC:=aa5 sh (.c m) (.c k) (.c v) [] M c .e
theorem Sv{Φ:Nat→Option CF}{rd:Option Nat}{fn:Nat}{F:RO}(sh:Sh)(m k v:X)(M:Mem)(c:Nat)(t:T):eE (.mu sh m k v) (K Φ rd fn F) M c t=wx sh M c (m.ev t) (k.ev t) (v.ev t):=Eq.trans rfl (Eq.refl _)
def Zr(sh:Sh)(zero:V)(ok:Bool)(F:RO)(M:Mem)(m k:V):QR:=kh (.lk sh zero ok (.c m) (.c k)) F M .e
theorem Cs{F:RO}(sh:Sh)(zero:V)(ok:Bool)(x k:X)(M:Mem)(t:T):kh (.lk sh zero ok x k) F M t=Zr sh zero ok F M (x.ev t) (k.ev t):=Eq.trans rfl (Eq.refl _)
def ww(l:List (List UInt8×V))(n:Nat):List (V×V×Nat):=l.zipIdx n|>.map fun e=>(sV e.1.1,e.1.2,e.2)
theorem Rd(a b:List UInt8):j8 .str (sV a) (sV b)=some (decide (a=b)):=by
 show some (jZ a.length (bP a) b.length (bP b))=_
 rw[qH]
theorem vm(s:List UInt8):∀(l:List (List UInt8×V)) (n i:Nat),∃j,gW .str (sV s) (ww l n) i=some ((l.find? fun e=>decide (s=e.1)).map fun e=>(j,e.2))
 |[],n,i=>⟨0,rfl⟩
 |e::r,n,i=>by
  obtain⟨j,hj⟩:=vm s r (n+1) (i+1);have hk:=Rd s e.1;have hu:gW .str (sV s) (ww (e::r) n) i=(match j8 .str (sV s) (sV e.1)with|some true=>some (some (i,e.2))|some false=>gW .str (sV s) (ww r (n+1)) (i+1)|none=>none):=rfl;rw[hu,hk,List.find?_cons];cases decide (s=e.1)with
  |true=>exact⟨i,rfl⟩
  |false=>exact⟨j,hj⟩
theorem xL(e:List UInt8×V)(r:List (List UInt8×V))(n:Nat):ww (e::r) n=(sV e.1,e.2,n)::ww r (n+1):=rfl
theorem xM{s:List UInt8}{v:V}:∀(l:List (List UInt8×V)) (m n:Nat),n=m+l.length→sk (sV s,v,n) (ww l m)=ww (l++[(s,v)]) m
 |[],m,n,h=>by rw[h];rfl
 |e::r,m,n,h=>by
  have:=xM (s:=s) (v:=v) r (m+1) n (by rw[h,av];omega);rw[List.cons_append,xL,xL,←this];rfl
theorem Rg{M:Mem}{c b:Nat}{l:List (List UInt8×V)}{n:Nat}{s:List UInt8}{v:V}(hM:M.get b=some (.map (ww l 0) n))(hn:n=l.length)(hf:(l.find? fun e=>decide (s=e.1))=none)(hn1:n<1000):
 wx .str M c (.m b) (sV s) v= .k undef (M.set b (.map (ww (l++[(s,v)]) 0) (n+1))) c:=by
 obtain⟨j,hj⟩:=vm s l 0 0
 rw[hf]at hj
 show pl (M.get b) .f (fun es clock=>tQ M c b es clock (sV s) v (gW .str (sV s) es 0))=_
 rw[hM]
 show tQ M c b (ww l 0) n (sV s) v (gW .str (sV s) (ww l 0) 0)=_
 rw[hj]
 show fN (Nat.succ n) (fun ck=>Nq M c b (.map (sk (sV s,v,n) (ww l 0)) ck) undef)=_
 rw[bo,qG,xM l 0 n (by omega)]
theorem Ym{F:RO}{M:Mem}{b n:Nat}{zero:V}{ok:Bool}{l:List (List UInt8×V)}(s:List UInt8)(hM:look F M b=some (.map (ww l 0) n)):
 Zr .str zero ok F M (.m b) (sV s)= .r (match (l.find? fun e=>decide (s=e.1))with|some e=>(bif ok then .t [e.2,.b true]else e.2)|none=>(bif ok then .t [zero,.b false]else zero)) b:=by
 obtain⟨j,hj⟩:=vm s l 0 0
 have key:∀(F:RO) (M:Mem),look F M b=some (.map (ww l 0) n)→cG (.lk .str zero ok (.c (.m b)) (.c (sV s))) F M .e= .r (match (l.find? fun e=>decide (s=e.1))with|some e=>(bif ok then .t [e.2,.b true]else e.2)|none=>(bif ok then .t [zero,.b false]else zero)) b:=by
  intro F M hM;show pl (look F M b) .f (fun es _=>D6 zero ok b (gW .str (sV s) es 0))=_;rw[hM];show D6 zero ok b (gW .str (sV s) (ww l 0) 0)=_;rw[hj];cases(l.find? fun e=>decide (s=e.1))<;>rfl
 unfold Zr kh
 rw[key F M hM]
 show Lu _ .e b (look F M b)=_
 rw[hM]
 show yg b (cG _ [(b,.map (ww l 0) n)] .e .e)=_
 rw[key [(b,.map (ww l 0) n)] .e (by unfold look;rw[Tr.get_e];simp[bq])]
 rfl
def aN0:List (List UInt8×Int×Int×Bool):=[([116,114,117,101],0,0,false),([102,97,108,115,101],0,0,false),([99,111,117,110,116],0,0,false),([117,112,112,101,114],0,0,false),([101,99,104,111],0,-1,false),([99,97,116],0,-1,false),([102,105,114,115,116],1,1,false),([104,97,115],1,1,false),([108,105,115,116],0,1,false),([109,97,107,101],2,2,true),([97,119,97,121],1,1,true),([99,108,101,97,114],1,1,true),([109,111,118,101],2,2,true),([108,105,110,107],2,2,true),([114,105,103,104,116,115],2,2,true)]
def nvV(x:Int×Int×Bool):V:= .g [.i .i64 x.1,.i .i64 x.2.1,.b x.2.2]
def rL:List (List UInt8×V):=aN0.map fun e=>(e.1,nvV e.2)
def kn(s:List UInt8):Option (Int×Int×Bool):=(aN0.find? fun e=>decide (s=e.1)).map (·.2)
theorem ac0(s:List UInt8):((rL.find? fun e=>decide (s=e.1)).map (·.2))=(kn s).map nvV:=by
 unfold kn rL
 rw[List.find?_map,Option.map_map,Option.map_map]
 rfl
def kI(k:Nat):bv:= .map (ww (rL.take k) 0) k
abbrev Rk:bv:=kI 15
theorem hU{M:Mem}{c:Nat}(k:Nat){s:List UInt8}{v:V}(hk:k<15)(hf:((rL.take k).find? fun e=>decide (s=e.1))=none)(ht:rL.take k++[(s,v)]=rL.take (k+1))(hl:(rL.take k).length=k):
 wx .str (M.set c (kI k)) (c+1) (.m c) (sV s) v= .k undef (M.set c (kI (k+1))) (c+1):=by
 unfold kI
 rw[Rg (am _ _ _) hl.symm hf (by omega),nZ,ht]
theorem w80(Φ:Nat→Option CF)(h:Φ 80=some Eh){F:RO}{M:Mem}{c:Nat}(ok:cV F M c):Calls Φ F 80 [] M c fun r M' c'=>r= .m c∧M'=M.set c Rk∧c'=c+1:=by
 refine aI h ?_
 have f0:wx .str (M.set c (kI 0)) (c+1) (.m c) (V.s 4 1702195828) (V.g [.i .i64 (0),.i .i64 (0),.b false])= .k undef (M.set c (kI 1)) (c+1):=hU 0 (s:=[116,114,117,101]) (by decide) rfl rfl rfl
 have f1:wx .str (M.set c (kI 1)) (c+1) (.m c) (V.s 5 435728179558) (V.g [.i .i64 (0),.i .i64 (0),.b false])= .k undef (M.set c (kI 2)) (c+1):=hU 1 (s:=[102,97,108,115,101]) (by decide) rfl rfl rfl
 have f2:wx .str (M.set c (kI 2)) (c+1) (.m c) (V.s 5 500069396323) (V.g [.i .i64 (0),.i .i64 (0),.b false])= .k undef (M.set c (kI 3)) (c+1):=hU 2 (s:=[99,111,117,110,116]) (by decide) rfl rfl rfl
 have f3:wx .str (M.set c (kI 3)) (c+1) (.m c) (V.s 5 491328139381) (V.g [.i .i64 (0),.i .i64 (0),.b false])= .k undef (M.set c (kI 4)) (c+1):=hU 3 (s:=[117,112,112,101,114]) (by decide) rfl rfl rfl
 have f4:wx .str (M.set c (kI 4)) (c+1) (.m c) (V.s 4 1869112165) (V.g [.i .i64 (0),.i .i64 (-1),.b false])= .k undef (M.set c (kI 5)) (c+1):=hU 4 (s:=[101,99,104,111]) (by decide) rfl rfl rfl
 have f5:wx .str (M.set c (kI 5)) (c+1) (.m c) (V.s 3 7627107) (V.g [.i .i64 (0),.i .i64 (-1),.b false])= .k undef (M.set c (kI 6)) (c+1):=hU 5 (s:=[99,97,116]) (by decide) rfl rfl rfl
 have f6:wx .str (M.set c (kI 6)) (c+1) (.m c) (V.s 5 500153084262) (V.g [.i .i64 (1),.i .i64 (1),.b false])= .k undef (M.set c (kI 7)) (c+1):=hU 6 (s:=[102,105,114,115,116]) (by decide) rfl rfl rfl
 have f7:wx .str (M.set c (kI 7)) (c+1) (.m c) (V.s 3 7561576) (V.g [.i .i64 (1),.i .i64 (1),.b false])= .k undef (M.set c (kI 8)) (c+1):=hU 7 (s:=[104,97,115]) (by decide) rfl rfl rfl
 have f8:wx .str (M.set c (kI 8)) (c+1) (.m c) (V.s 4 1953720684) (V.g [.i .i64 (0),.i .i64 (1),.b false])= .k undef (M.set c (kI 9)) (c+1):=hU 8 (s:=[108,105,115,116]) (by decide) rfl rfl rfl
 have f9:wx .str (M.set c (kI 9)) (c+1) (.m c) (V.s 4 1701536109) (V.g [.i .i64 (2),.i .i64 (2),.b true])= .k undef (M.set c (kI 10)) (c+1):=hU 9 (s:=[109,97,107,101]) (by decide) rfl rfl rfl
 have f10:wx .str (M.set c (kI 10)) (c+1) (.m c) (V.s 4 2036430689) (V.g [.i .i64 (1),.i .i64 (1),.b true])= .k undef (M.set c (kI 11)) (c+1):=hU 10 (s:=[97,119,97,121]) (by decide) rfl rfl rfl
 have f11:wx .str (M.set c (kI 11)) (c+1) (.m c) (V.s 5 491260308579) (V.g [.i .i64 (1),.i .i64 (1),.b true])= .k undef (M.set c (kI 12)) (c+1):=hU 11 (s:=[99,108,101,97,114]) (by decide) rfl rfl rfl
 have f12:wx .str (M.set c (kI 12)) (c+1) (.m c) (V.s 4 1702260589) (V.g [.i .i64 (2),.i .i64 (2),.b true])= .k undef (M.set c (kI 13)) (c+1):=hU 12 (s:=[109,111,118,101]) (by decide) rfl rfl rfl
 have f13:wx .str (M.set c (kI 13)) (c+1) (.m c) (V.s 4 1802398060) (V.g [.i .i64 (2),.i .i64 (2),.b true])= .k undef (M.set c (kI 14)) (c+1):=hU 13 (s:=[108,105,110,107]) (by decide) rfl rfl rfl
 have f14:wx .str (M.set c (kI 14)) (c+1) (.m c) (V.s 6 126943805008242) (V.g [.i .i64 (2),.i .i64 (2),.b true])= .k undef (M.set c (kI 15)) (c+1):=hU 14 (s:=[114,105,103,104,116,115]) (by decide) rfl rfl rfl
 have hm:∀t,iV .mkm c t=some (.m c,kI 0):=fun _=>rfl
 simp only[WX,Nat.reduceAdd,Nat.reduceLeDiff,B80,Sv,hm,f0,f1,f2,f3,f4,f5,f6,f7,f8,f9,f10,f11,f12,f13,f14]
def X5:CC:=(.reg [(aa a1 (.bx 42 1 z0)),(qq a2 (.mv (.c (.s 0 0))))])
def X6:CC:=(.reg [(qq a3 (.fa 0 z1)),(qq a4 (.ld1 z3)),(qq a5 (.ln .slice z4)),(qq a6 (.bi .eql z5 (x6 0))),(qq a7 (.mv z6)),(aK a8 (.fa 0 z1) a7),(aK a9 (.ld1 z8) a7),(aK dX (.iaS 1 z9 (x6 0)) a7),(aK fy (.fa 0 gc) a7),(aK fR (.ld1 eg) a7),(aK fc (.ln .slice eX) a7),(aK gQ (.bi .neq ey (x6 1)) a7),(qq eN (.pk z7 xT iH))])
def X7:CC:=(.seq (.reg [(qq a2 (.mv (.c (.s 0 0))))]) .ret)
def X9:CC:=(.seq X6 (.cond iq X7 .skip))
def Xa:CC:=(.reg [(qq iw (.fa 0 z1)),(qq gk (.ld1 jP)),(qq gS (.iaS 1 gH (x6 0))),(qq lj (.fa 0 ir)),(qq ke (.ld1 lQ)),(qq gT (.iaS 2 mR (x6 0))),(qq lL (.fa 0 oc)),(qq kl (.ld1 og)),(qq a2 (.mv mW))])
def Ei:CF:= .mk 5 [.t a2] (.seq X5 (.seq X9 (.seq Xa .ret)))
theorem e81(v0:V):bz 5 [v0]=(.n jY (some v0) jY):=rfl
def B81:=ai @e81 (ai (wu X5.eq_1) (ai (wu X6.eq_1) (ai (wu X7.eq_1) (ai (wu X9.eq_1) (wu Xa.eq_1)))))
def Wc:CC:=(.reg [(aa a1 (.bx 42 1 z0)),(qq a2 (.mv xF))])
def Wd:CC:=(.dreg 17 [(1,0,(qq a4 (.ldn 1 z1))),(0,0,(ee a3 (.call 80 []))),(2,3,(ee a5 (.call 81 [z4]))),(3,7,(qq a6 (.lk .str (.g [(.i .i64 0),(.i .i64 0),(.b false)]) false z3 z5))),(4,15,(qq a7 (.fl1 2 z6))),(5,31,(qq a8 (.mv z7))),(6,63,(aW a9 (.fa 0 z1) a8)),(7,127,(aW dX (.ld1 z9) a8)),(8,255,(aW fy (.iaS 1 gc (x6 0)) a8)),(9,511,(aW fR (.fa 0 eg) a8)),(10,1023,(aW fc (.ld1 eX) a8)),(11,2047,(aW gQ (.iaS 2 ey (x6 0)) a8)),(12,4095,(aW eN (.fa 1 iH) a8)),(13,8191,(aW iw (.ld1 iq) a8)),(14,16383,(aW gk (.un .not jP) a8)),(15,32767,(qq gS (.pk z8 gH xF))),(16,65535,(qq a2 (.mv ir)))])
def Lh:CF:= .mk 5 [.t a2] (.seq Wc (.seq Wd .ret))
theorem e63(v0:V):bz 5 [v0]=(.n jY (some v0) jY):=rfl
def B63:=ai @e63 (ai (wu Wc.eq_1) (wu Wd.eq_1))
abbrev fx:=List (List Pc)
def Cl:fx→List UInt8
 |[p]::_=>p.1
 |_=>[]
def stS:fx→Bool
 |[p]::_=>p.2
 |_=>false
theorem MO{F:RO}{M:Mem}{c:Nat}{v:V}{ps:List Pc}(h:cq F M c 2 v (kL ps))(i:Nat)(hi:i<ps.length):∃b o,b<c∧(∀k,j6 2 v (.i k (i:Int))=some (.p b o))∧load1 F M b o=some (sV ps[i].1)∧load1 F M b (o+1)=some (.b ps[i].2):=by
 obtain⟨b,o,h1,h2,h3⟩:=h.at i (by rw[eM];exact hi)
 have e:(kL ps)[i]'(by rw[eM];exact hi)=Fb ps[i]:=by simp[kL]
 rw[e]at h3
 have a0:=h3 0 (by simp[Fb])
 have a1:=h3 1 (by simp[Fb])
 exact⟨b,o,h1,h2,a0,a1⟩
theorem w81(Φ:Nat→Option CF)(h:Φ 81=some Ei){F:RO}{M:Mem}{c:Nat}(ok:cV F M c){v:V}{l:fx}(hl:fC F M c v l):
 Calls Φ F 81 [.g [v]] M c fun r M' c'=>r=sV (Cl l)∧Gr c M c' M':=by
 refine aI h ?_
 obtain⟨y1,y2,y3⟩:=hl.one
 have hG:∀v,flatten (V.g [v])=[v]:=fun _=>rfl
 have gX:=(Gr.refl ok).set c (af 42 [v]) (ag _) (aA _) (aP _)
 have m0:(M.set c (af 42 [v])).get c=some (af 42 [v]):=am _ _ _
 have n1:=hl.len
 have hX:=hl.grow gX
 have k0:load1 F (M.set c (af 42 [v])) c 0=some v:=aq m0 0
 have hfr:=(gX.ok ok).free
 cases l with
 |nil=>
  simp only[WX,B81,hG,y3,k0,n1,Int.natCast_zero];exact⟨rfl,gX⟩
 |cons w r=>
  obtain⟨b,o,x,hbx,ia,ld,_,hw⟩:=cE.at1 hX 0 (by simp);have ia0:j6 1 v (.i .i64 0)=some (.p b o):=ia .i64;have hw:dO F (M.set c (af 42 [v])) (c+1) x w:=hw;have n2:=hw.len;generalize hN:(w::r).length=N at n1;have d1:decide ((N:Int)=0)=false:=ak (by rw[←hN,av];omega)
  match w,n2,hw with
  |[],n2,hw=>
   have d2:decide (¬((0:Int)=1))=true:=rfl;simp only[WX,B81,d2,hG,y3,k0,n1,d1,ia0,ld,n2,Int.natCast_zero,be];exact⟨rfl,gX⟩
  |p::q::t,n2,hw=>
   generalize hN2:(p::q::t).length=N2 at n2;have d2:decide (¬((N2:Int)=1))=true:=aj (by rw[←hN2,av,av];omega);simp only[WX,B81,hG,y3,k0,n1,d1,ia0,ld,n2,d2,be];exact⟨rfl,gX⟩
  |[p],n2,hw=>
   obtain⟨b1,o1,hb1,ia1,ld1⟩:=ae1 hw.1 0 (by simp);have ia1:j6 2 x (.i .i64 0)=some (.p b1 o1):=ia1 .i64;have ld1:load1 F (M.set c (af 42 [v])) b1 o1=some (sV p.1):=ld1;generalize hN2:([p]:List Pc).length=N2 at n2;have d2:decide (¬((N2:Int)=1))=false:=ak (fun e=>e (by rw[←hN2];rfl));simp only[WX,B81,hG,y3,k0,n1,d1,ia0,ld,n2,d2,ia1,ld1,be];exact⟨rfl,gX⟩
theorem Yn(s:List UInt8)(f:V→V)(z:V):(match (rL.find? fun e=>decide (s=e.1))with|some e=>f e.2|none=>z)=match kn s with|some x=>f (nvV x)|none=>z:=by
 have:=ac0 s
 cases h1:(rL.find? fun e=>decide (s=e.1))with
 |none=>rw[h1]at this;cases h2:kn s with
  |none=>rfl
  |some x=>rw[h2]at this;cases this
 |some e=>rw[h1]at this;cases h2:kn s with
  |none=>rw[h2]at this;cases this
  |some x=>rw[h2]at this;have h3:e.2=nvV x:=ae this;show f e.2=f (nvV x);rw[h3]
theorem b72{F:RO}{M:Mem}{b:Nat}(s:List UInt8)(zero:V)(hM:M.get b=some Rk):
 Zr .str zero false F M (.m b) (sV s)= .r (match kn s with|some x=>nvV x|none=>zero) b:=by
 have:=Ym (F:=F) (M:=M) (b:=b) (n:=15) (zero:=zero) (ok:=false) (l:=rL) s (au hM)
 rw[this]
 exact congrArg (fun v=>QR.r v b) (Yn s id zero)
theorem aN8{F:RO}{M:Mem}{b:Nat}(s:List UInt8)(zero:V)(hM:M.get b=some Rk):
 Zr .str zero true F M (.m b) (sV s)= .r (match kn s with|some x=> .t [nvV x,.b true]|none=> .t [zero,.b false]) b:=by
 have:=Ym (F:=F) (M:=M) (b:=b) (n:=15) (zero:=zero) (ok:=true) (l:=rL) s (au hM)
 rw[this]
 exact congrArg (fun v=>QR.r v b) (Yn s (fun v=> .t [v,.b true]) (.t [zero,.b false]))
theorem Cm{l:fx}{x:Int×Int×Bool}(h:kn (Cl l)=some x):∃p r,l=[p]::r:=by
 match l,h with
 |[p]::r,_=>exact⟨p,r,rfl⟩
 |[],h=>exact absurd h (by have:kn (Cl [])=none:=rfl;rw[this];simp)
 |[]::_,h=>exact absurd h (by have:kn (Cl ([]::[]))=none:=rfl;exact fun e=>by cases this.symm.trans e)
 |(_::_::_)::_,h=>exact absurd h (by have:kn []=none:=rfl;exact fun e=>by cases this.symm.trans e)
theorem Ad{F:RO}(off:Nat)(x:X)(M:Mem)(t:T):kh (.fl1 off x) F M t=oV (match x.ev t with| .g cs=>cs[off]?|_=>none):=by
 refine(eU ?_).trans (congrArg oV (YM (F:=F) off x M t))
 intro F' M'
 show(AG (x.ev t) .f fun cs=>qr (nF cs off))=oV (AG (x.ev t) .f fun cs=>qr (nF cs off)).val
 cases x.ev t with
 |g cs=>
  show qr (nF cs off)=oV (qr (nF cs off)).val;cases nF cs off<;>rfl
 |_=>rfl
def Y1(l:fx):Bool:=match kn (Cl l)with
 |some x=>x.2.2&& !stS l
 |none=>false
theorem w63(Φ:Nat→Option CF)(h:Φ 63=some Lh)(h80:Φ 80=some Eh)(h81:Φ 81=some Ei){F:RO}{M:Mem}{c:Nat}(ok:cV F M c){v:V}{l:fx}(hl:fC F M c v l):
 Calls Φ F 63 [.g [v]] M c fun r M' c'=>r= .b (Y1 l)∧Gr c M c' M':=by
 refine aI h ?_
 obtain⟨y1,y2,y3⟩:=hl.one
 have hG:∀v,flatten (V.g [v])=[v]:=fun _=>rfl
 have gX:=(Gr.refl ok).set c (af 42 [v]) (ag _) (aA _) (aP _)
 have m0:(M.set c (af 42 [v])).get c=some (af 42 [v]):=am _ _ _
 have hX:=hl.grow gX
 have k0:loadN F (M.set c (af 42 [v])) c 0 1=some [v]:=bc m0 1 rfl
 have hfr:=(gX.ok ok).free
 simp only[WX,Nat.reduceAdd,B63,hG,y3,k0]
 generalize M.set c (af 42 [v])=X at gX m0 hX k0 hfr⊢
 have okX:=gX.ok ok
 have g4:Gr (c+1) X (c+18) X:=(Gr.refl okX).up (by omega)
 refine o9 _ _ _ _ _ _ _ _ _ _ _ (g4.ok okX) ?_
 intro F1 N1 okn hlk
 refine(show kc (cS (gV Φ) F1 80 [] N1 (c+18) (Φ 80)) _ from(w80 Φ h80 okn).mono ?_)
 rintro v1 M5 c5 ⟨rfl,hM5,rfl⟩
 refine⟨by rw[hM5];exact(Gr.refl okn).set (c+18) Rk (ag _) (aA _) (aP _),fun M3 g3 hM3=>?_⟩
 have hnm:M3.get (c+18)=some Rk:=by rw[hM3 _ (ag _),hM5];exact am _ _ _
 have g5:=g4.trans g3
 have ok3:=g5.ok okX
 clear hM3 hM5 hlk okn g3
 simp only[WX,Nat.reducePow,Nat.reduceDiv,Nat.reduceMod,Nat.reduceBEq,Nat.reduceAdd,il]
 refine fm ((w81 Φ h81 ok3 (hX.grow g5)).mono ?_)
 rintro v2 M6 c6 ⟨rfl,g6⟩
 have g7:=g5.trans g6
 have ok6:=g7.ok okX
 have hfr6:=ok6.free
 refine⟨hfr6,?_⟩
 have hnm:M6.get (c+18)=some Rk:=(g6.old _ (by omega)).trans hnm
 have hlk:=b72 (F:=F) (Cl l) (V.g [V.i IntKind.i64 0,V.i IntKind.i64 0,V.b false]) hnm
 have hX6:=hX.grow g7
 have k0:load1 F M6 c 0=some v:=(g7.load1 (by omega) _).trans (aq m0 0)
 cases hk:kn (Cl l)with
 |none=>
  rw[hk]at hlk;simp only[WX,Cs,hlk,Ad];exact⟨by unfold Y1;rw[hk],gX.trans g7⟩
 |some x=>
  rw[hk]at hlk;obtain⟨y,yb,yc⟩:=x;have hlk:Zr Sh.str (V.g [V.i IntKind.i64 0,V.i IntKind.i64 0,V.b false]) false F M6 (V.m (c+18)) (sV (Cl l))=QR.r (.g [.i .i64 y,.i .i64 yb,.b yc]) (c+18):=hlk;have hre:Y1 l=(yc&& !stS l):=by unfold Y1;rw[hk]
  rw[hre];clear hre;cases yc with
  |false=>
   simp only[WX,Cs,hlk,Ad];exact⟨rfl,gX.trans g7⟩
  |true=>
   obtain⟨p,r,rfl⟩:=Cm hk;obtain⟨b,o,x,hbx,ia,ld,_,hw⟩:=cE.at1 hX6 0 (by simp);have ia0:j6 1 v (.i .i64 0)=some (.p b o):=ia .i64;have hw:dO F M6 c6 x [p]:=hw;obtain⟨b1,o1,hb1,ia1,ld1,ld2⟩:=MO hw.1 0 (by simp);have ia1:j6 2 x (.i .i64 0)=some (.p b1 o1):=ia1 .i64;have ld2:load1 F M6 b1 (o1+1)=some (.b p.2):=ld2;simp only[WX,Cs,hlk,Ad,k0,ia0,ld,ia1,ld2,be];exact⟨rfl,gX.trans g7⟩
abbrev aS6(u:List (Option V))(x0 x1 x6 x7 x8:V):T:=(.n (.n (.n (.n (dA u 15) (some x7) (dA u 23)) (uO u 3) (ec u 19 11 27)) (some x1) (aQ u 17 9 25 5 21 13 29)) (some x0) (.n (.n (.n (dA u 16) (some x8) (dA u 24)) (uO u 4) (ec u 20 12 28)) (uO u 2) (.n (ec u 18 10 26) (some x6) (ec u 22 14 30))))
def Xd:CC:=(.reg [(aa a1 (.bx 36 1 z0)),(qq a2 (.mv xF))])
def Xe:CC:=(.reg [(qq a3 (.ldn 1 z1)),(ee a4 (.call 61 [z3])),(qq a5 (.un .not z4)),(qq a2 (.mv z5))])
def Ck:CF:= .mk 3 [.t a2] (.seq Xd (.seq Xe .ret))
theorem e83(v0:V):bz 3 [v0]=(.n mL (some v0) mL):=rfl
def B83:=ai @e83 (ai (wu Xd.eq_1) (wu Xe.eq_1))
def XO:CC:=(.reg [(qq a4 (.mv (x6 0)))])
def XP:CC:=(.reg [(qq a6 (.mv z0)),(qq a7 (.ln .slice z6)),(qq a8 (.mv (x6 0)))])
def XQ:CC:=(.reg [(qq a9 (.bi .lss z8 z7))])
def XR:CC:=(.reg [(qq dX (.mv z8)),(qq a5 (.mv gc))])
def XS:CC:=(.reg [(qq fy (.mv z1)),(qq fR (.mv z0)),(qq fc (.mv z5)),(qq gQ (.iaS 1 eX ey)),(qq eN (.ldn 1 iH)),(ee iw (.cv eg [iq]))])
def XT:CC:=(.reg [(qq gk (.mv z5)),(qq a4 (.mv gH))])
def XU:CC:=(.seq XS (.cond jP (.seq XT .ret) .skip))
def XV:CC:=(.reg [(qq gS (.bi .add z8 (x6 1))),(qq a8 (.mv ir))])
def XW:CC:=(.seq (.cond z9 .skip (.exit 0)) (.seq (.block 1 (.seq XR XU)) XV))
def KW:CC:=(.reg [(qq a4 (.mv (x6 (-1))))])
def KZ:CC:=(.seq (.seq XP (.block 0 (.loop (.seq XQ XW)))) (.seq KW .ret))
def Ej:CF:= .mk 5 [.t a4] (.seq XO KZ)
theorem e90(v0 v1:V):bz 5 [v0,v1]=(.n (.n iE (some v1) iE) (some v0) jY):=rfl
def B90:=ai @e90 (ai (wu XO.eq_1) (ai (wu XP.eq_1) (ai (wu XQ.eq_1) (ai (wu XR.eq_1) (ai (wu XS.eq_1) (ai (wu XT.eq_1) (ai (wu XU.eq_1) (ai (wu XV.eq_1) (ai (wu XW.eq_1) (ai (wu KW.eq_1) (wu KZ.eq_1)))))))))))
def Xb:CC:=(.reg [(qq a4 (.mv xF))])
def Xc:CC:=(.reg [(qq a5 (.mv z0)),(qq a6 (.mv z1)),(ee a7 (.call 90 [z5,z6])),(qq a8 (.bi .geq z7 (x6 0))),(qq a4 (.mv z8))])
def Ge:CF:= .mk 4 [.t a4] (.seq Xb (.seq Xc .ret))
theorem e82(v0 v1:V):bz 4 [v0,v1]=(.n (.n mL (some v1) mL) (some v0) iE):=rfl
def B82:=ai @e82 (ai (wu Xb.eq_1) (wu Xc.eq_1))
def W8:CC:=(.reg [(aa a1 (.bx 42 1 z0)),(qq a2 (.mv xF))])
def W9:CC:=(.dreg 10 [(1,0,(qq a8 (.ldn 1 z1))),(7,0,(aa a3 (.al 121 [(.i .i64 0),(.i .i64 0),(.b false)]))),(0,0,(ee a7 (.call 80 []))),(2,3,(ee a9 (.call 81 [z8]))),(3,7,(qq dX (.lk .str (.g [(.i .i64 0),(.i .i64 0),(.b false)]) true z7 z9))),(4,15,(qq a6 (.mv gc))),(5,31,(qq fy (.ex 0 z6))),(6,31,(qq fR (.ex 1 z6))),(8,191,(ez (.st 3 z3 eg))),(9,511,(qq a4 (.mv eX)))])
def Wa:CC:=(.reg [(qq fc (.fa 0 z1)),(qq gQ (.ld1 ey)),(qq eN (.ln .slice iH)),(qq iw (.bi .sub iq (x6 1))),(qq a5 (.mv jP))])
def Wb:CC:=(.reg [(qq gk (.mv z4)),(qq gS (.mv gH)),(aW lj (.fa 0 z1) gS),(aW ke (.ld1 lQ) gS),(aW gT (.iaS 1 mR (x6 0)) gS),(aW lL (.fa 0 oc) gS),(aW kl (.ld1 og) gS),(aW kf (.iaS 2 mW (x6 0)) gS),(aW mS (.fa 1 pf) gS),(aW mg (.ld1 qQ) gS),(aW iU (.un .not qx) gS),(qq mT (.pk ir qy xF)),(qq ll (.mv qR)),(aW mh (.mv z5) ll),(aW mU (.fa 0 z3) ll),(aW sQ (.ld1 sZ) ll),(aW sR (.bi .geq sY wy) ll),(qq qz (.pk sN wz xF)),(qq lM (.mv wA)),(aW tA (.fa 1 z3) lM),(aW pS (.ld1 yO) lM),(aW mV (.bi .lss uz (x6 0)) lM),(aW ou (.mv wf) lM),(aK tB (.mv z5) ou),(aK t4 (.fa 1 z3) ou),(aK tC (.ld1 wg) ou),(aK tD (.bi .leq yP yQ) ou),(aW qX (.pk wB xT yR) lM),(qq uJ (.pk we wC xF)),(qq ow (.mv zc)),(aW uK (.fa 0 z1) ow),(aW wh (.ld1 zd) ow),(pZ wN (.call 82 [BS,(.c (.f 83 [] []))]) ow),(aW wO (.un .not FX) ow),(qq wj (.pk DO FY xF)),(qq a2 (.mv BT))])
def Eg:CF:= .mk 6 [.t a2] (.seq W8 (.seq W9 (.seq Wa (.seq Wb .ret))))
theorem e62(v0:V):bz 6 [v0]=(.n Bp (some v0) Bp):=rfl
def Zm:=ai @e62 (ai (wu W8.eq_1) (ai (wu W9.eq_1) (ai (wu Wa.eq_1) (wu Wb.eq_1))))
def Zn(l:fx):Prop:=∀w∈l,∀p∈w,p.1.length≤1000000
theorem w83(Φ:Nat→Option CF)(h:Φ 83=some Ck)(h61:Φ 61=some zY)(h77:Φ 77=some (.orc (aN h77))){F:RO}{M:Mem}{c:Nat}(ok:cV F M c){v:V}{w:List Pc}(hw:dO F M c v w)(hp:∀p∈w,p.1.length≤1000000):
 Calls Φ F 83 [.g [v]] M c fun r M' c'=>r= .b (!eu w)∧Gr c M c' M':=by
 refine aI h ?_
 obtain⟨y1,y2,y3⟩:=hw.one
 have hG:∀v,flatten (V.g [v])=[v]:=fun _=>rfl
 have gX:=(Gr.refl ok).set c (af 36 [v]) (ag _) (aA _) (aP _)
 have m0:(M.set c (af 36 [v])).get c=some (af 36 [v]):=am _ _ _
 have hX:=hw.grow gX
 have k0:loadN F (M.set c (af 36 [v])) c 0 1=some [v]:=bc m0 1 rfl
 simp only[WX,B83,hG,y3,k0]
 refine aw ((w61 Φ h61 h77 (gX.ok ok) hX hp).mono ?_)
 rintro r M2 c2 ⟨rfl,g2⟩
 simp only[WX]
 exact gX.trans g2
theorem w90(Φ:Nat→Option CF)(h:Φ 90=some Ej)(h83:Φ 83=some Ck)(h61:Φ 61=some zY)(h77:Φ 77=some (.orc (aN h77))){F:RO}{M:Mem}{c:Nat}(ok:cV F M c){v:V}{l:fx}(hl:fC F M c v l)(hs:Zn l):
 Calls Φ F 90 [v,.f 83 [] []] M c fun r M' c'=>(∃z:Int,r= .i .i64 z∧decide (0≤z)= !(l.all eu))∧Gr c M c' M':=by
 refine aI h ?_
 have n1:=hl.len
 have mx:=hl.max
 simp only[WX,B90,n1]
 obtain⟨I,hI⟩:∃I:Nat→St→Prop,∀n s',I n s'↔(∃(i c1:Nat) (M1:Mem) (u:List (Option V)),n=l.length-i∧i≤l.length∧s'= .mk ((aS6 u v (.f 83 [] []) v (.i .i64 (l.length:Int)) (.i .i64 (i:Int)))) [] M1 c1∧Gr c M c1 M1∧l.all eu=(l.drop i).all eu):=⟨fun n s'=>_,fun _ _=>Iff.rfl⟩
 refine bT I ?_ l.length _ ((hI _ _).2 ⟨0,_,_,(G2 (X4 (G2 (G1 (cw (X4 (X2 []))))))),rfl,aB _,rfl,Gr.refl ok,rfl⟩)
 intro n s' hIs
 obtain⟨i,c1,M1,u,rfl,hi,rfl,gr1,hb⟩:=(hI _ _).1 hIs
 clear hIs
 by_cases hlt:i<l.length
 ·have q8:du .add (.i .i64 (i:Int)) (.i .i64 1)=some (.i .i64 ((i+1:Nat):Int)):=by rw[bJ _ _ (by omega) (by omega)];simp
  have d1:decide ((i:Int)<(l.length:Int))=true:=aj (by omega);obtain⟨b,o,x,hbx,ia,_,ld,hw⟩:=cE.at1 (hl.grow gr1) i hlt;have ia:=ia .i64;have hd:l.drop i=l[i]::l.drop (i+1):=cF hlt;rw[hd,List.all_cons]at hb;have hsi:=hs l[i] (List.getElem_mem _);generalize l[i]=w at hb hw hsi;simp only[WX,B90,d1,ia,ld];refine aw ((w83 Φ h83 h61 h77 (gr1.ok ok) hw hsi).mono ?_);rintro r M2 c2 ⟨rfl,g2⟩;cases hf:eu w with
  |true=>
   rw[hf]at hb;simp only[WX,B90,q8];exact⟨l.length-(i+1),by omega,(hI _ _).2 ⟨i+1,_,_,(G2 (X4 (G2 (G1 (cw (X4 (X2 []))))))),rfl,hlt,rfl,gr1.trans g2,hb⟩⟩
  |false=>
   rw[hf]at hb;simp only[WX,B90];exact⟨⟨_,rfl,by rw[hb];exact aj (by omega)⟩,gr1.trans g2⟩
 ·obtain rfl:i=l.length:=by omega
  have d1:decide ((l.length:Int)<(l.length:Int))=false:=ak (by omega);rw[cZ]at hb;simp only[WX,B90,d1];exact⟨⟨_,rfl,by rw[hb];rfl⟩,gr1⟩
theorem w82(Φ:Nat→Option CF)(h:Φ 82=some Ge)(h90:Φ 90=some Ej)(h83:Φ 83=some Ck)(h61:Φ 61=some zY)(h77:Φ 77=some (.orc (aN h77))){F:RO}{M:Mem}{c:Nat}(ok:cV F M c){v:V}{l:fx}(hl:fC F M c v l)(hs:Zn l):
 Calls Φ F 82 [v,.f 83 [] []] M c fun r M' c'=>r= .b (!(l.all eu))∧Gr c M c' M':=by
 refine aI h ?_
 simp only[WX,B82]
 refine aw ((w90 Φ h90 h83 h61 h77 ok hl hs).mono ?_)
 rintro r M2 c2 ⟨⟨z,rfl,hz⟩,g2⟩
 simp only[WX,hz]
 exact g2
def pu(l:fx):Bool:=match kn (Cl l)with
 |some x=> !stS l&&(decide (x.1≤(l.length:Int)-1)&&((decide (x.2.1<0)||decide ((l.length:Int)-1≤x.2.1))&&l.all eu))
 |none=>false
theorem w62(Φ:Nat→Option CF)(h:Φ 62=some Eg)(h80:Φ 80=some Eh)(h81:Φ 81=some Ei)(h82:Φ 82=some Ge)(h90:Φ 90=some Ej)(h83:Φ 83=some Ck)(h61:Φ 61=some zY)(h77:Φ 77=some (.orc (aN h77))){F:RO}{M:Mem}{c:Nat}(ok:cV F M c){v:V}{l:fx}(hl:fC F M c v l)(hs:Zn l):
 Calls Φ F 62 [.g [v]] M c fun r M' c'=>r= .b (pu l)∧Gr c M c' M':=by
 refine aI h ?_
 obtain⟨y1,y2,y3⟩:=hl.one
 have hG:∀v,flatten (V.g [v])=[v]:=fun _=>rfl
 have gX:=(Gr.refl ok).set c (af 42 [v]) (ag _) (aA _) (aP _)
 have m0:(M.set c (af 42 [v])).get c=some (af 42 [v]):=am _ _ _
 have hX:=hl.grow gX
 have k0:loadN F (M.set c (af 42 [v])) c 0 1=some [v]:=bc m0 1 rfl
 have hfr:=(gX.ok ok).free
 simp only[WX,Nat.reduceAdd,Zm,hG,y3,k0]
 generalize M.set c (af 42 [v])=X at gX m0 hX k0 hfr⊢
 have okX:=gX.ok ok
 have lk1:(look F X (c+8)).isNone=true:=by rw[okX.look (by omega)];rfl
 have rf1:bN (c+8) [(1,c)]=true:=by rw[bu _ _ _ _ (by omega),cJ]
 simp only[WX,Nat.reduceAdd,w8,nN,lk1,rf1]
 have TB0:testBit 0 7=false:=by decide+kernel
 have TB3:testBit 3 7=false:=by decide+kernel
 have g4:Gr (c+1) X (c+11) X:=(Gr.refl okX).up (by omega)
 obtain⟨Z,hZ⟩:∃Z:List V,Z=[.i .i64 0,.i .i64 0,.b false]:=⟨_,rfl⟩
 refine OC _ _ _ _ _ _ _ _ _ _ _ _ (g4.ok okX) (by rw[List.all_cons,List.all_nil,TB0];rfl) (by intro e he;rw[List.mem_singleton]at he;subst he;exact⟨by show c+8<c+11;omega,okX.look (show c+1≤c+8 by omega)⟩) ?_
 intro F1 N1 okn hlk
 refine(show kc (cS (gV Φ) F1 80 [] N1 (c+11) (Φ 80)) _ from(w80 Φ h80 okn).mono ?_)
 rintro v1 M5 c5 ⟨rfl,hM5,rfl⟩
 refine⟨by rw[hM5];exact(Gr.refl okn).set (c+11) Rk (ag _) (aA _) (aP _),fun M3 g3 hM3=>?_⟩
 have hnm:M3.get (c+11)=some Rk:=by rw[hM3 _ (ag _),hM5];exact am _ _ _
 have g5:=g4.trans g3
 have ok3:=g5.ok okX
 have lk2:look F M3 (c+8)=none:=by
  obtain⟨e1,e2⟩:=fK (okX.look (show c+1≤c+8 by omega));exact gy ((g3.old _ (by omega)).trans e1) e2
 clear hM3 hM5 hlk okn
 simp only[WX,Nat.reduceAdd]
 refine OC _ _ _ _ _ _ _ _ _ _ _ _ ok3 (by rw[List.all_cons,List.all_nil,TB3];rfl) (by intro e he;rw[List.mem_singleton]at he;subst he;exact⟨by show c+8<c+11+1;omega,lk2⟩) ?_
 intro F1 N1 okn hlk
 refine(show kc (cS (gV Φ) F1 81 [.g [v]] N1 (c+11+1) (Φ 81)) _ from(w81 Φ h81 okn ((hX.grow g5).lk hlk)).mono ?_)
 rintro v1 M5 c5 ⟨rfl,g6'⟩
 refine⟨g6',fun M6 g6 _=>?_⟩
 have g7:=g5.trans g6
 have ok6:=g7.ok okX
 have hle6:=g6.le
 have hnm:M6.get (c+11)=some Rk:=(g6.old _ (by omega)).trans hnm
 have lk3:look F M6 (c+8)=none:=by
  obtain⟨e1,e2⟩:=fK lk2;exact gy ((g6.old _ (by omega)).trans e1) e2
 clear hlk okn g6'
 have hlk:=aN8 (F:=F) (Cl l) (V.g [V.i IntKind.i64 0,V.i IntKind.i64 0,V.b false]) hnm
 obtain⟨E1,E2,E3,fl,hE,hkn⟩:∃E1 E2 E3 fl,Zr Sh.str (V.g [V.i IntKind.i64 0,V.i IntKind.i64 0,V.b false]) true F M6 (V.m (c+11)) (sV (Cl l))=QR.r (.t [.g [.i .i64 E1,.i .i64 E2,.b E3],.b fl]) (c+11)∧(kn (Cl l)=some (E1,E2,E3)∧fl=true∨kn (Cl l)=none∧fl=false):=by
  cases hk:kn (Cl l)with
  |none=>rw[hk]at hlk;exact⟨0,0,false,false,hlk,.inr ⟨rfl,rfl⟩⟩
  |some x=>rw[hk]at hlk;exact⟨x.1,x.2.1,x.2.2,true,hlk,.inl ⟨rfl,rfl⟩⟩
 have hfr6:=ok6.free
 simp only[WX,Cs,hE]
 have gB:Gr (c+1) X c5 (M6.set (c+8) (af 121 [.i .i64 0,.i .i64 0,.b false])):=g7.set (c+8) _ (by omega) (by omega) (ag _)
 have TB191:testBit 191 7=true:=by decide+kernel
 refine b03 (M1:=M6.set (c+8) (af 121 [.i .i64 0,.i .i64 0,.b false])) (b:=c+8) (ty:=121) (z:=[.i .i64 0,.i .i64 0,.b false]) (e:=[.i .i64 E1,.i .i64 E2,.b E3]) _ _ _ _ _ _ _ _ _ _ _ _ _ (by rw[List.all_cons,List.all_nil,TB191];rfl) (by rw[iJ,nE]) (am _ _ _) rfl rfl rfl rfl rfl (by rw[bu _ _ _ _ (by omega),bu _ _ _ _ (by omega),cJ]) (gB.ok okX).free ?_
 intro N1 hN1
 rw[nZ]at hN1
 have hb8:N1.get (c+8)=some (af 121 [.i .i64 E1,.i .i64 E2,.b E3]):=by rw[hN1];exact am _ _ _
 have gN:Gr (c+1) X c5 N1:=⟨gB.le,fun b hb=>by rw[hN1,ah _ _ (by omega)];exact g7.old b hb,fun b hb=>by rw[hN1,ah _ _ (by omega)];exact g7.new b hb⟩
 have k0:load1 F N1 c 0=some v:=(gN.load1 (by omega) _).trans (aq m0 0)
 have okN:=gN.ok okX
 have hXN:=hX.grow gN
 have n1:=hl.len
 have mx:=hl.max
 have e1:load1 F N1 (c+8) 0=some (.i .i64 E1):=aq hb8 0
 have e2:load1 F N1 (c+8) 1=some (.i .i64 E2):=aq hb8 1
 have sb:du .sub (.i .i64 (l.length:Int)) (.i .i64 1)=some (.i .i64 ((l.length:Int)-1)):=vr _ _ (by omega) (by omega)
 clear hN1 hb8 gB hE hlk lk3 lk2 hnm
 rcases hkn with⟨hk,rfl⟩|⟨hk,rfl⟩
 ·obtain⟨p,r,rfl⟩:=Cm hk;obtain⟨b,o,x,hbx,ia,ld,_,hw⟩:=cE.at1 hXN 0 (by simp);have ia0:j6 1 v (.i .i64 0)=some (.p b o):=ia .i64;have hw:dO F N1 c5 x [p]:=hw;obtain⟨b1,o1,hb1,ia1,ld1,ld2⟩:=MO hw.1 0 (by simp);have ia1:j6 2 x (.i .i64 0)=some (.p b1 o1):=ia1 .i64;have ld2:load1 F N1 b1 (o1+1)=some (.b p.2):=ld2;have hre:pu ([p]::r)=(!p.2&&(decide (E1≤((([p]::r).length:Nat):Int)-1)&&((decide (E2<0)||decide (((([p]::r).length:Nat):Int)-1≤E2))&&([p]::r).all eu))):=by unfold pu;rw[hk];rfl
  rw[hre];clear hre;have hL82:=fun(hX:fC F N1 c5 v ([p]::r))=>w82 Φ h82 h90 h83 h61 h77 okN hX hs;obtain⟨L,hL⟩:∃L:Nat,L=([p]::r).length:=⟨_,rfl⟩
  rw[←hL]at n1 sb⊢;obtain⟨s,st⟩:=p;have ld2:load1 F N1 b1 (o1+1)=some (.b st):=ld2;cases st with
  |true=>
   simp only[WX,Zm,k0,n1,sb,ia0,ld,ia1,ld2,be];exact⟨rfl,gX.trans gN⟩
  |false=>
   cases hD1:decide (E1≤(L:Int)-1)with
   |false=>
    simp only[WX,Zm,k0,n1,sb,e1,ia0,ld,ia1,ld2,be,hD1];exact⟨rfl,gX.trans gN⟩
   |true=>
    cases hD2:decide (E2<0)with
    |true=>
     simp only[WX,Zm,k0,n1,sb,e1,e2,ia0,ld,ia1,ld2,be,hD1,hD2];refine aw ((hL82 hXN).mono ?_);rintro r M2 c2 ⟨rfl,g8⟩;simp only[WX];exact⟨by simp,gX.trans (gN.trans g8)⟩
    |false=>
     cases hD3:decide ((L:Int)-1≤E2)with
     |true=>
      simp only[WX,Zm,k0,n1,sb,e1,e2,ia0,ld,ia1,ld2,be,hD1,hD2,hD3];refine aw ((hL82 hXN).mono ?_);rintro r M2 c2 ⟨rfl,g8⟩;simp only[WX];exact⟨by simp,gX.trans (gN.trans g8)⟩
     |false=>
      simp only[WX,Zm,k0,n1,sb,e1,e2,ia0,ld,ia1,ld2,be,hD1,hD2,hD3];exact⟨rfl,gX.trans gN⟩
 ·have hre:pu l=false:=by unfold pu;rw[hk]
  rw[hre];simp only[WX,Zm,k0,n1,sb];exact gX.trans gN
abbrev YF(u:List (Option V))(x1 x3 x4 x54 x55 x56:V):T:=(.n (.n (.n (.n (aQ u 63 31 95 15 79 47 111) (uO u 7) (.n (ec u 71 39 103) (uO u 23) (.n (dA u 87) (some x55) (dA u 119)))) (some x3) (.n (aQ u 67 35 99 19 83 51 115) (uO u 11) (aQ u 75 43 107 27 91 59 123))) (some x1) (.n (.n (aQ u 65 33 97 17 81 49 113) (uO u 9) (aQ u 73 41 105 25 89 57 121)) (uO u 5) (.n (aQ u 69 37 101 21 85 53 117) (uO u 13) (aQ u 77 45 109 29 93 61 125)))) (uO u 0) (.n (.n (.n (aQ u 64 32 96 16 80 48 112) (uO u 8) (.n (ec u 72 40 104) (uO u 24) (.n (dA u 88) (some x56) (dA u 120)))) (some x4) (.n (aQ u 68 36 100 20 84 52 116) (uO u 12) (aQ u 76 44 108 28 92 60 124))) (uO u 2) (.n (.n (aQ u 66 34 98 18 82 50 114) (uO u 10) (aQ u 74 42 106 26 90 58 122)) (uO u 6) (.n (.n (ec u 70 38 102) (uO u 22) (.n (dA u 86) (some x54) (dA u 118))) (uO u 14) (aQ u 78 46 110 30 94 62 126)))))
def Ur:CC:=(.reg [(aa a1 (.bx 39 6 z0)),(qq a2 (.mv xF))])
def YT:=wu Ur.eq_1
def Us:CC:=(.dreg 12 [(0,0,(qq a7 (.fa 2 z1))),(1,1,(qq a8 (.fa 0 z7))),(2,3,(qq a9 (.ld1 z8))),(3,7,(qq dX (.ln .slice z9))),(4,15,(qq fy (.bi .gtr gc (x6 0)))),(5,0,(qq fR (.fa 3 z1))),(6,32,(qq fc (.fa 0 eX))),(7,96,(qq gQ (.ld1 ey))),(8,224,(qq eN (.ln .slice iH))),(9,480,(qq iw (.bi .gtr iq (x6 0)))),(10,31,(qq a3 (.mv eg))),(11,2047,(qq a4 (.mv jP)))])
def YU:=wu Us.eq_1
def Ut:CC:=(.reg [(qq gk (.fa 5 z1)),(qq gS (.ld1 gH)),(qq lj (.ln .slice ir)),(qq ke (.bi .lss lQ (x6 1))),(qq gT (.mv mR)),(aK lL (.fa 5 z1) gT),(aK kl (.ld1 og) gT),(aK kf (.ln .slice mW) gT),(aK mS (.bi .gtr pf (x6 6)) gT),(qq mg (.pk oc xT qQ)),(qq iU (.mv qx)),(aK mT (.fa 4 z1) iU),(aK ll (.ld1 qR) iU),(aK mh (.mv sN) iU),(aW mU (.mv z4) mh),(aW sQ (.un .not sZ) mh),(aK sR (.pk sY wy xF) iU),(qq qz (.pk qy xT wz)),(qq lM (.mv wA)),(aK tA (.mv z3) lM),(aK pS (.mv yO) lM),(aW mV (.fa 2 z1) pS),(aW ou (.ldn 1 wf) pS),(pZ tB (.call 61 [wB]) pS),(aW t4 (.un .not yP) pS),(aK tC (.pk uz wg xF) lM),(qq tD (.pk we xT yQ)),(qq qX (.mv yR)),(aK uJ (.mv z4) qX),(aK ow (.mv zc) qX),(aW uK (.fa 3 z1) ow),(aW wh (.ldn 1 zd) ow),(pZ wN (.call 61 [BS]) ow),(aW wO (.un .not FX) ow),(aK wj (.pk DO FY xF) qX),(qq sS (.pk wC xT BT))])
def YV:=wu Ut.eq_1
def Uu:CC:=(.seq (.reg [(qq a2 (.mv xF))]) .ret)
def pQ:=wu Uu.eq_1
def Uv:CC:=(.seq Ut (.cond FZ Uu .skip))
def YW:=wu Uv.eq_1
def Uw:CC:=(.reg [(qq wP (.fa 5 z1)),(qq BZ (.ld1 Gj)),(qq C0 (.ln .slice Gk)),(qq zj (.mv (x6 0)))])
def aX2:=wu Uw.eq_1
def Ux:CC:=(.reg [(qq C2 (.bi .lss G0 OQ))])
def aX3:=wu Ux.eq_1
def Uy:CC:=(.reg [(qq C3 (.iaS 1 Gk G0)),(qq wl (.ldn 1 OR)),(aa a6 (.al 42 [.l0])),(ez (.st 1 z6 OS))])
def aX4:=wu Uy.eq_1
def Uz:CC:=(.reg [(qq C4 (.ldn 1 z6)),(ee wm (.call 62 [OT])),(qq wn (.un .not Pm)),(qq wo (.mv OU)),(aK C5 (.ldn 1 z6) wo),(mw zk (.call 63 [Pn]) wo),(aK qY (.mv G3) wo),(aW uL (.fa 5 z1) qY),(aW zl (.ld1 Gn) qY),(aW zm (.ln .slice Gp) qY),(aW zn (.bi .gtr Gq (x6 1)) qY),(aW wQ (.mv OV) qY),(aK yW (.mv z3) wQ),(aW fA (.pk G5 xT OW) qY),(aW yX (.mv wD) qY),(aK C6 (.mv z4) yX),(aW C7 (.pk OX xT OY) qY),(aK C8 (.pk Gm OZ xF) wo),(qq C9 (.pk Gl xT P0))])
def aX5:=wu Uz.eq_1
def Iu:CC:=(.seq (.reg [(qq a2 (.mv xF))]) .ret)
def ap7:=wu Iu.eq_1
def Iw:CC:=(.seq Uz (.cond P2 Iu .skip))
def ap8:=wu Iw.eq_1
def Ix:CC:=(.reg [(qq t5 (.bi .add G0 (x6 1))),(qq zj (.mv P3))])
def ap9:=wu Ix.eq_1
def Iy:CC:=(.seq (.cond Pl .skip (.exit 0)) (.seq (.block 1 (.seq Uy Iw)) Ix))
def aq0:=wu Iy.eq_1
def Iz:CC:=(.seq (.reg [(qq a2 (.mv xT))]) .ret)
def aq1:=wu Iz.eq_1
def uU:CC:=(.seq (.seq Uw (.block 0 (.loop (.seq Ux Iy)))) Iz)
def aq2:=wu uU.eq_1
def Qm:CF:= .mk 7 [.t a2] (.seq Ur (.seq Us (.seq Uv uU)))
theorem e40(v0:V):bz 7 [v0]=(.n FH (some v0) FH):=rfl
def Pz:=ai @e40 (ai @YT (ai @YU (ai @YV (ai @pQ (ai @YW (ai @aX2 (ai @aX3 (ai @aX4 (ai @aX5 (ai @ap7 (ai @ap8 (ai @ap9 (ai @aq0 (ai @aq1 (@aq2)))))))))))))))
def Cn(n:Nat)(io:Bool)(c:fx):Bool:=pu c&& !(Y1 c&&(decide (1<n)||io))
def hasW(w:List Pc):Bool:=decide (0<w.length)
def nM(p:eB):Bool:= !decide (p.cmds.length<1)&&(!decide (6<p.cmds.length)&&(!(p.beh&& !hasW p.out)&&(!(hasW p.inp&& !eu p.inp)&&(!(hasW p.out&& !eu p.out)&&p.cmds.all (Cn p.cmds.length (hasW p.inp||hasW p.out))))))
theorem Y3(n:Nat):decide ((1:Int)<(n:Int))=decide (1<n):=by congr 1;exact propext (by omega)
theorem m40(Φ:Nat→Option CF)(h63:Φ 63=some Lh)(h62:Φ 62=some Eg)(h80:Φ 80=some Eh)(h81:Φ 81=some Ei)(h82:Φ 82=some Ge)(h90:Φ 90=some Ej)(h83:Φ 83=some Ck)(h61:Φ 61=some zY)(h77:Φ 77=some (.orc (aN h77))){F:RO}{M:Mem}{c c2:Nat}(ok:cV F M c2)(hcc:c<c2){vc:V}{cs:List fx}(hc:ka F M c2 vc cs)(hs:∀x∈cs,Zn x)(A5:load1 F M c 5=some vc)(hi ho:Bool)(u:List (Option V))(Q:Ex→St→Prop)
 (hQ:∀(u:List (Option V)) M' c',Gr c2 M c' M'→Q .ret (.mk ((aS5 u (.b (cs.all (Cn cs.length (hi||ho)))))) [] M' c')):
 Wp uU (K Φ none 40 F) (.mk ((YE u (.p c 0) (.b hi) (.b ho))) [] M c2) Q:=by
 have n1:=hc.len
 have mx:=hc.max
 simp only[WX,Pz,A5,n1]
 obtain⟨I,hI⟩:∃I:Nat→St→Prop,∀n s',I n s'↔(∃(i c1:Nat) (M1:Mem) (u:List (Option V)),n=cs.length-i∧i≤cs.length∧s'= .mk ((YF u (.p c 0) (.b hi) (.b ho) vc (.i .i64 (cs.length:Int)) (.i .i64 (i:Int)))) [] M1 c1∧Gr c2 M c1 M1∧cs.all (Cn cs.length (hi||ho))=(cs.drop i).all (Cn cs.length (hi||ho))):=⟨fun n s'=>_,fun _ _=>Iff.rfl⟩
 refine bT I ?_ cs.length _ ((hI _ _).2 ⟨0,_,_,(X1 (G1 (X1 (G2 (cP (cw (X1 (G2 (G1 (d9 (X4 (X2 [])))))))))))),rfl,aB _,rfl,Gr.refl ok,rfl⟩)
 intro n s' hIs
 obtain⟨i,c1,M1,u,rfl,hle,rfl,gr1,hb⟩:=(hI _ _).1 hIs
 clear hIs
 by_cases hlt:i<cs.length
 ·have q8:du .add (.i .i64 (i:Int)) (.i .i64 1)=some (.i .i64 ((i+1:Nat):Int)):=by rw[bJ _ _ (by omega) (by omega)];simp
  have d1:decide ((i:Int)<(cs.length:Int))=true:=aj (by omega);obtain⟨b,o,x,hbx,ia,_,ld,hw⟩:=cE.at1 (hc.grow gr1) i hlt;have ia:=ia .i64;have hw:fC F M1 c1 x cs[i]:=hw;have hd:cs.drop i=cs[i]::cs.drop (i+1):=cF hlt;rw[hd,List.all_cons]at hb;have hsi:=hs cs[i] (List.getElem_mem _);generalize cs[i]=w at hb hw hsi;obtain⟨y1,y2,y3⟩:=hw.one;have hG:∀v,flatten (V.g [v])=[v]:=fun _=>rfl;have ok1:=gr1.ok ok;have hle1:=gr1.le;have sn:bK (M1.set c1 (af 42 [.l0])) c1 0 [x]=some (M1.set c1 (af 42 [x])):=eQ rfl y3;have m1:(M1.set c1 (af 42 [x])).get c1=some (af 42 [x]):=am _ _ _;have g1':=(Gr.refl ok1).set c1 (af 42 [x]) (ag _) (aA _) (aP _);have g1:=gr1.trans g1';have kx:loadN F (M1.set c1 (af 42 [x])) c1 0 1=some [x]:=bc m1 1 rfl;generalize M1.set c1 (af 42 [x])=Y at sn m1 g1' g1 kx;have hwY:=hw.grow g1';have okY:=g1.ok ok;simp only[WX,Pz,d1,ia,ld,hG,sn,kx];refine aw ((w62 Φ h62 h80 h81 h82 h90 h83 h61 h77 okY hwY hsi).mono ?_);rintro r M2 c3 ⟨rfl,g2⟩;cases hk:pu w with
  |false=>
   simp only[WX,Pz];rw[show cs.all (Cn cs.length (hi||ho))=false by rw[hb];unfold Cn;rw[hk];rfl]at hQ;exact hQ (X2 (G1 (d9 (cP (cw (X8 (X4 []))))))) _ _ (g1.trans g2)
  |true=>
   have ok2:=g2.ok okY;have hle2:=g2.le;have kx2:loadN F M2 c1 0 1=some [x]:=(g2.loadN (by omega) _ _).trans kx;simp only[WX,kx2];refine aw ((w63 Φ h63 h80 h81 ok2 (hwY.grow g2)).mono ?_);rintro r M3 c4 ⟨rfl,g3⟩;have g4:=g1.trans (g2.trans g3);have A5':load1 F M3 c 5=some vc:=(g4.load1 hcc _).trans A5;have GOOD:(Y1 w&&(decide (1<cs.length)||(hi||ho)))=false→ ∀u:List (Option V),I (cs.length-(i+1)) (.mk ((YF u (.p c 0) (.b hi) (.b ho) vc (.i .i64 (cs.length:Int)) (.i .i64 ((i+1:Nat):Int)))) [] M3 c4):=fun hg u=>(hI _ _).2 ⟨i+1,_,_,(X1 (G1 (X1 (G2 (cP (cw (X1 (G2 (G1 (d9 (X4 (X2 [])))))))))))),rfl,hlt,rfl,g4,by rw[hb];unfold Cn;rw[hk,hg];rfl⟩;have BAD:(Y1 w&&(decide (1<cs.length)||(hi||ho)))=true→cs.all (Cn cs.length (hi||ho))=false:=by
    intro hg;rw[hb,show Cn cs.length (hi||ho) w=false by unfold Cn;rw[hk,hg];rfl];rfl
   cases hch:Y1 w with
   |false=>
    simp only[WX,Pz,q8];exact⟨cs.length-(i+1),by omega,GOOD (by rw[hch];rfl) (X1 (G1 (X1 (G2 (cP (cw (X1 (G2 (G1 (d9 (X4 (X2 []))))))))))))⟩
   |true=>
    cases hD:decide (1<cs.length)with
    |true=>
     have d2:=(Y3 cs.length).trans hD;rw[BAD (by rw[hch,hD];rfl)]at hQ;simp only[WX,Pz,A5',n1,d2];exact hQ (X2 (G1 (d9 (cP (cw (X8 (X4 []))))))) _ _ g4
    |false=>
     have d2:=(Y3 cs.length).trans hD;cases hi with
     |true=>
      rw[BAD (by rw[hch];simp)]at hQ;simp only[WX,Pz,A5',n1,d2];exact hQ (X2 (G1 (d9 (cP (cw (X8 (X4 []))))))) _ _ g4
     |false=>
      cases ho with
      |true=>
       rw[BAD (by rw[hch];simp)]at hQ;simp only[WX,Pz,A5',n1,d2];exact hQ (X2 (G1 (d9 (cP (cw (X8 (X4 []))))))) _ _ g4
      |false=>
       simp only[WX,Pz,A5',n1,d2,q8];exact⟨cs.length-(i+1),by omega,GOOD (by rw[hD];simp) (X1 (G1 (X1 (G2 (cP (cw (X1 (G2 (G1 (d9 (X4 (X2 []))))))))))))⟩
 ·obtain rfl:i=cs.length:=by omega
  have d1:decide ((cs.length:Int)<(cs.length:Int))=false:=ak (by omega);rw[cZ]at hb;simp only[WX,Pz,d1];rw[hb]at hQ;exact hQ (X2 (G1 (d9 (cP (cw (X8 (X4 []))))))) _ _ gr1
end
end Go.Proofs.YtmbpllipombieaaDoor.Ev
