/- What is proved here: pieces of the evaluator's soundness: if the evaluator comes to a value, the model's run comes to it, for every world and tape; no conditions beyond the hypotheses of each theorem. -/
import Derived.Test.YtmbpllipombieaaDoorEv6
set_option linter.unusedSimpArgs false
set_option linter.unusedVariables false
set_option linter.defProp false
set_option maxRecDepth 10000
set_option maxHeartbeats 16000000
namespace Go.Proofs.YtmbpllipombieaaDoor.Ev
open Go
noncomputable section
theorem cA.at1{α:Type}{F:RO}{R:Mem→Nat→V→α→Prop}{M:Mem}{c:Nat}{v:V}{l:List α}(h:cA F (fun M c e a=>∃x,e=[x]∧R M c x a) 1 M c v l)(i:Nat)(hi:i<l.length):
 ∃b o x,b<c∧(∀k,iN 1 v (.i k (i:Int))=some (.p b o))∧load1 F M b o=some x∧loadN F M b o 1=some [x]∧R M c x l[i]:=by
 obtain⟨es,h1,h2,h3,h4⟩:=h
 obtain⟨b,o,a1,a2,a3⟩:=h1.at i (by omega)
 obtain⟨x,hx,hr⟩:=h4 i (by omega) hi
 rw[hx]at a3
 have a0:=a3 0 (by simp)
 exact⟨b,o,x,a1,a2,a0,a3.load (by simp),hr⟩
theorem ag5{F:RO}{M:Mem}{c:Nat}{v:V}{ps:List Pc}(h:cB F M c 2 v (kW ps))(i:Nat)(hi:i<ps.length):∃b o,b<c∧(∀k,iN 2 v (.i k (i:Int))=some (.p b o))∧load1 F M b o=some (sV ps[i].1):=by
 obtain⟨b,o,h1,h2,h3⟩:=h.at i (by rw[dY];exact hi)
 have e:(kW ps)[i]'(by rw[dY];exact hi)=EZ ps[i]:=by simp[kW]
 rw[e]at h3
 have a0:=h3 0 (by simp[EZ])
 exact⟨b,o,h1,h2,a0⟩
theorem cA.lk{α:Type}{F F':RO}{R R':Mem→Nat→List V→α→Prop}{sz:Nat}{M M':Mem}{c:Nat}{v:V}{l:List α}(hlk:∀b,look F' M' b=look F M b)(hR:∀e x,R M c e x→R' M' c e x)(h:cA F R sz M c v l):cA F' R' sz M' c v l:=by
 obtain⟨es,h1,h2,h3,h4⟩:=h
 exact⟨es,h1.lk hlk,h2,h3,fun i h h'=>hR _ _ (h4 i h h')⟩
theorem dt.lk{F F':RO}{M M':Mem}{c:Nat}{v:V}{w:List Pc}(hlk:∀b,look F' M' b=look F M b)(h:dt F M c v w):dt F' M' c v w:=⟨h.1.lk hlk,h.2⟩
theorem eM.lk{F F':RO}{M M':Mem}{c:Nat}{v:V}{l:List (List Pc)}(hlk:∀b,look F' M' b=look F M b)(h:eM F M c v l):eM F' M' c v l:=cA.lk hlk (fun e w ⟨x,h1,h2⟩=>⟨x,h1,h2.lk hlk⟩) h
theorem iw.lk{F F':RO}{M M':Mem}{c:Nat}{v:V}{l:List (List (List Pc))}(hlk:∀b,look F' M' b=look F M b)(h:iw F M c v l):iw F' M' c v l:=cA.lk hlk (fun e w ⟨x,h1,h2⟩=>⟨x,h1,h2.lk hlk⟩) h
abbrev NA(u:List (Option V))(x1 x3 x7 x8 x9:V):T:=(.n (.n (.n (.n (ek u 31 15 47) (some x7) (ek u 39 23 55)) (some x3) (aJ u 35 19 51 11 43 27 59)) (some x1) (.n (.n (ek u 33 17 49) (some x9) (ek u 41 25 57)) (uO u 5) (aJ u 37 21 53 13 45 29 61))) (uO u 0) (.n (.n (.n (ek u 32 16 48) (some x8) (ek u 40 24 56)) (uO u 4) (aJ u 36 20 52 12 44 28 60)) (uO u 2) (.n (aJ u 34 18 50 10 42 26 58) (uO u 6) (aJ u 38 22 54 14 46 30 62))))
def Vs:CC:=(.reg [(aa a1 (.bx 36 1 z0)),(qq a2 (.mv xF))])
def Vt:CC:=(.reg [(qq a3 (.mv xF))])
def Vu:CC:=(.reg [(qq a6 (.fa 0 z1)),(qq a7 (.ld1 z6)),(qq a8 (.ln .slice z7)),(qq a9 (.mv (x6 0)))])
def Vv:CC:=(.reg [(qq dV (.bi .lss z9 z8))])
def Vw:CC:=(.reg [(qq fo (.iaS 2 z7 z9)),(qq fF (.ldn 2 ec)),(aa a5 (.al 64 [(.s 0 0),(.b false)])),(ez (.st 2 z5 eP))])
def Vx:CC:=(.reg [(qq gp (.fa 1 z5)),(qq eC (.ld1 i9)),(qq i7 (.mv i5)),(aR fY (.fa 0 z5) i7),(aR gG (.ld1 gy) i7),(aR kG (.bi .neq ju (.c (.s 0 0))) i7),(qq jI (.pk j3 mA xF)),(qq eO (.mv mB))])
def Vy:CC:=(.reg [(qq i4 (.fa 1 z5)),(qq lw (.ld1 nK)),(qq kH (.un .not nL)),(qq jJ (.mv mC)),(aR mq (.mv z3) jJ),(qq lL (.pk oJ qh xF)),(qq eO (.mv pL))])
def Vz:CC:=(.reg [(qq iH (.fa 1 z5)),(qq nO (.ld1 nE)),(qq kI (.un .not qi)),(qq lM (.mv qj)),(aR mr (.fa 0 z5) lM),(aR sf (.ld1 sk) lM),(aR sg (.bi .eql vN (.c (.s 0 0))) lM),(qq pM (.pk rZ yo xF)),(qq lm (.mv vO)),(aR sP (.fa 0 z1) lm),(aR po (.ld1 yp) lm),(aR mt (.ln .slice ua) lm),(aR nP (.bi .gtr w6 (x6 1)) lm),(qq sQ (.pk vP w7 xF)),(qq eO (.mv yq))])
def VA:CC:=(.reg [(qq sw (.fa 0 z5)),(qq sR (.ld1 vQ)),(ee sS (.call 77 [yr,(.c (.f 78 [] []))])),(qq qy (.un .not yt)),(qq eO (.mv w8))])
def Kt:CC:=(.cond ej .skip (.seq Vz (.cond ej .skip VA)))
def Ku:CC:=(.seq Vx (.cond ej .skip (.seq Vy Kt)))
def Kv:CC:=(.seq (.reg [(qq a2 (.mv xF))]) .ret)
def Kw:CC:=(.block 2 (.seq Ku (.cond ej Kv .skip)))
def Kx:CC:=(.reg [(qq ui (.fa 1 z5)),(qq nQ (.ld1 yI)),(qq uj (.un .not FH)),(qq a3 (.mv yJ))])
def Ky:CC:=(.reg [(qq vR (.bi .add z9 (x6 1))),(qq a9 (.mv BA))])
def Kz:CC:=(.seq (.cond fT .skip (.exit 0)) (.seq (.block 1 (.seq Vw (.seq Kw Kx))) Ky))
def KA:CC:=(.reg [(qq wh (.fa 0 z1)),(qq wj (.ld1 FI)),(qq wl (.ln .slice FJ)),(qq sy (.bi .gtr Dj (x6 0))),(qq a2 (.mv Dk))])
def KB:CC:=(.seq (.seq Vu (.block 0 (.loop (.seq Vv Kz)))) (.seq KA .ret))
def Ec:CF:= .mk 6 [.t a2] (.seq Vs (.seq Vt KB))
theorem e61(v0:V):bA 6 [v0]=(.n AZ (some v0) AZ):=rfl
def ON:=ai @e61 (ai (wu Vs.eq_1) (ai (wu Vt.eq_1) (ai (wu Vu.eq_1) (ai (wu Vv.eq_1) (ai (wu Vw.eq_1) (ai (wu Vx.eq_1) (ai (wu Vy.eq_1) (ai (wu Vz.eq_1) (ai (wu VA.eq_1) (ai (wu Kt.eq_1) (ai (wu Ku.eq_1) (ai (wu Kv.eq_1) (ai (wu Kw.eq_1) (ai (wu Kx.eq_1) (ai (wu Ky.eq_1) (ai (wu Kz.eq_1) (ai (wu KA.eq_1) (wu KB.eq_1))))))))))))))))))
def E5(n:Nat)(tx:Bool)(p:Pc):Bool:=(p.2&& !decide (p.1=[]))||((!p.2&&tx)||((!p.2&&(decide (p.1=[])&&decide (1<n)))|| !(p.1.all mw)))
def pz(n:Nat):Bool→List Pc→Bool
 |_,[]=>true
 |tx,p::r=> !E5 n tx p&&pz n (!p.2) r
def eN(w:List Pc):Bool:=pz w.length false w&&decide (0<w.length)
theorem fh{M:Mem}{c ty:Nat}{d vs:List V}(hl:vs.length=d.length)(h1:aE vs=true):bN (M.set c (af ty d)) c 0 vs=some (M.set c (af ty vs)):=by
 rw[aK (am M c (af ty d)) 0 vs (by omega) h1,l8,xn hl.symm]
theorem aT9(s:List UInt8):h77 [sV s,.f 78 [] []]=if s.length≤1000000 then some (.b (s.all mw))else none:=by
 show(sA (sV s)).bind _=_
 rw[mH,Option.bind_some]
theorem w61(Φ:Nat→Option CF)(h:Φ 61=some Ec)(h77:Φ 77=some (.orc (bh h77))){F:RO}{M:Mem}{c:Nat}(ok:cU F M c){v:V}{w:List Pc}(hw:dt F M c v w)(hp:∀p∈w,p.1.length≤1000000):
 Calls Φ F 61 [.g [v]] M c fun r M' c'=>r= .b (eN w)∧Gr c M c' M':=by
 refine aM h ?_
 obtain⟨y1,y2,y3⟩:=hw.one
 have hG:∀v,flatten (V.g [v])=[v]:=fun _=>rfl
 have gX:=(Gr.refl ok).set c (af 36 [v]) (ah _) (aA _) (aG _)
 have m0:(M.set c (af 36 [v])).get c=some (af 36 [v]):=am _ _ _
 have n1:=hw.len
 have mx1:w.length≤9223372036854775807:=hw.2
 have hX:=hw.grow gX
 have k0:load1 F (M.set c (af 36 [v])) c 0=some v:=aq m0 0
 simp only[WX,ON,hG,y3,k0,n1]
 generalize M.set c (af 36 [v])=X at gX m0 hX⊢
 clear k0
 obtain⟨I,hI⟩:∃I:Nat→St→Prop,∀n s',I n s'↔(∃(i c1:Nat) (tx:Bool) (M1:Mem) (u:List (Option V)),n=w.length-i∧i≤w.length∧s'= .mk ((NA u (.p c 0) (.b tx) v (.i .i64 (w.length:Int)) (.i .i64 (i:Int)))) [] M1 c1∧Gr (c+1) X c1 M1∧pz w.length false w=pz w.length tx (w.drop i)):=⟨fun n s'=>_,fun _ _=>Iff.rfl⟩
 refine bS I ?_ w.length _ ((hI _ _).2 ⟨0,_,_,_,(X1 (G1 (X1 (G1 (X2 (X1 (G2 (G1 (cH (ce (X4 (X1 [])))))))))))),rfl,az _,rfl,Gr.refl (gX.ok ok),rfl⟩)
 intro n s' hIs
 obtain⟨i,c1,tx,M1,u,rfl,hi,rfl,gr1,hf⟩:=(hI _ _).1 hIs
 clear hIs
 have k0:load1 F M1 c 0=some v:=(gr1.load1 (by omega) _).trans (aq m0 0)
 by_cases hlt:i<w.length
 ·have q8:cZ .add (.i .i64 (i:Int)) (.i .i64 1)=some (.i .i64 ((i+1:Nat):Int)):=by rw[bF _ _ (by omega) (by omega)];simp
  have d1:decide ((i:Int)<(w.length:Int))=true:=aj (by omega);obtain⟨b,o,hb,ia,ld1⟩:=Cs (hX.grow gr1).1 i hlt;have ia:=ia .i64;have hd:w.drop i=w[i]::w.drop (i+1):=cQ hlt;rw[hd,pz]at hf;have hl1:=hp w[i] (List.getElem_mem _);generalize w[i]=p at ld1 hf hl1;obtain⟨tx1,st⟩:=p;unfold EZ at ld1;have sn:bN (M1.set c1 (af 64 [V.s 0 0,V.b false])) c1 0 [sV tx1,.b st]=some (M1.set c1 (af 64 [sV tx1,.b st])):=fh rfl rfl;have m1:(M1.set c1 (af 64 [sV tx1,.b st])).get c1=some (af 64 [sV tx1,.b st]):=am _ _ _;have g1:=gr1.set c1 (af 64 [sV tx1,.b st]) gr1.le (aA _) (aG _);have p0:load1 F (M1.set c1 (af 64 [sV tx1,.b st])) c1 0=some (sV tx1):=aq m1 0;have p1:load1 F (M1.set c1 (af 64 [sV tx1,.b st])) c1 1=some (.b st):=aq m1 1;have k1:load1 F (M1.set c1 (af 64 [sV tx1,.b st])) c 0=some v:=(g1.load1 (by omega) _).trans (aq m0 0);have qn:=qD tx1 [];have qe:=uE tx1 [];have e0:V.s 0 0=sV []:=rfl;rw[←e0]at qn qe;have hh:=aT9 tx1;rw[ac hl1]at hh;have STEP:pz w.length false w=(!E5 w.length tx (tx1,st)&&pz w.length (!st) (w.drop (i+1))):=hf;have BAD:E5 w.length tx (tx1,st)=true→eN w=false:=by
   intro hb;unfold eN;rw[STEP,hb];rfl
  have GOOD:E5 w.length tx (tx1,st)=false→pz w.length false w=pz w.length (!st) (w.drop (i+1)):=by
   intro hb;rw[STEP,hb];rfl
  unfold E5 at BAD GOOD;generalize M1.set c1 (af 64 [sV tx1,.b st])=Y at sn p0 p1 k1 g1;have FIN:∀(M2:Mem) (c2:Nat),Gr (c+1) X c2 M2→Gr c M c2 M2:=fun _ _ g=>gX.trans g;cases st with
  |true=>
   by_cases ht:tx1=[]
   ·rw[aj ht]at qe qn;cases ha:tx1.all mw with
    |true=>
     rw[ha]at hh;simp only[WX,Nat.reduceAdd,ON,d1,ia,ld1,sn,p0,p1,qn,h77,hh,q8];exact⟨w.length-(i+1),by omega,(hI _ _).2 ⟨i+1,_,_,_,(X1 (G1 (X1 (G1 (X2 (X1 (G2 (G1 (cH (ce (X4 (X1 [])))))))))))),rfl,hlt,rfl,g1,GOOD (by rw[ha,aj ht];rfl)⟩⟩
    |false=>
     rw[ha]at hh;simp only[WX,Nat.reduceAdd,ON,d1,ia,ld1,sn,p0,p1,qn,h77,hh];exact⟨by rw[BAD (by rw[ha];simp)],FIN _ _ g1⟩
   ·rw[ak ht]at qe qn;simp only[WX,Nat.reduceAdd,ON,d1,ia,ld1,sn,p0,p1,qn];exact⟨by rw[BAD (by rw[ak ht];rfl)],FIN _ _ g1⟩
  |false=>
   cases tx with
   |true=>
    simp only[WX,Nat.reduceAdd,ON,d1,ia,ld1,sn,p1];exact⟨by rw[BAD rfl],FIN _ _ g1⟩
   |false=>
    by_cases ht:tx1=[]
    ·rw[aj ht]at qe qn;by_cases h1:1<w.length
     ·have d2:decide ((1:Int)<(w.length:Int))=true:=aj (by omega);simp only[WX,Nat.reduceAdd,ON,d1,d2,ia,ld1,sn,p0,p1,qe,k1,n1];exact⟨by rw[BAD (by rw[aj ht,aj h1];simp)],FIN _ _ g1⟩
     ·have d2:decide ((1:Int)<(w.length:Int))=false:=ak (by omega);have ha:tx1.all mw=true:=by rw[ht];rfl
      rw[ha]at hh;simp only[WX,Nat.reduceAdd,ON,d1,d2,ia,ld1,sn,p0,p1,qe,k1,h77,hh,n1,q8];exact⟨w.length-(i+1),by omega,(hI _ _).2 ⟨i+1,_,_,_,(X1 (G1 (X1 (G1 (X2 (X1 (G2 (G1 (cH (ce (X4 (X1 [])))))))))))),rfl,hlt,rfl,g1,GOOD (by rw[ha,ak h1];simp)⟩⟩
    ·rw[ak ht]at qe qn;cases ha:tx1.all mw with
     |true=>
      rw[ha]at hh;simp only[WX,Nat.reduceAdd,ON,d1,ia,ld1,sn,p0,p1,qe,h77,hh,q8];exact⟨w.length-(i+1),by omega,(hI _ _).2 ⟨i+1,_,_,_,(X1 (G1 (X1 (G1 (X2 (X1 (G2 (G1 (cH (ce (X4 (X1 [])))))))))))),rfl,hlt,rfl,g1,GOOD (by rw[ha,ak ht];simp)⟩⟩
     |false=>
      rw[ha]at hh;simp only[WX,Nat.reduceAdd,ON,d1,ia,ld1,sn,p0,p1,qe,h77,hh];exact⟨by rw[BAD (by rw[ha];simp)],FIN _ _ g1⟩
 ·obtain rfl:i=w.length:=by omega
  have d1:decide ((w.length:Int)<(w.length:Int))=false:=ak (by omega);rw[dG]at hf;have hff:eN w=decide ((0:Int)<(w.length:Int)):=by
   unfold eN;rw[hf];simp[pz]
  simp only[WX,ON,d1,k0,n1];exact⟨by rw[hff],gX.trans gr1⟩
abbrev Yp(u:List (Option V))(x1 x3 x4:V):T:=(.n (.n (.n (.n (aJ u 63 31 95 15 79 47 111) (uO u 7) (aJ u 71 39 103 23 87 55 119)) (some x3) (.n (aJ u 67 35 99 19 83 51 115) (uO u 11) (aJ u 75 43 107 27 91 59 123))) (some x1) (.n (.n (aJ u 65 33 97 17 81 49 113) (uO u 9) (aJ u 73 41 105 25 89 57 121)) (uO u 5) (.n (aJ u 69 37 101 21 85 53 117) (uO u 13) (aJ u 77 45 109 29 93 61 125)))) (uO u 0) (.n (.n (.n (aJ u 64 32 96 16 80 48 112) (uO u 8) (aJ u 72 40 104 24 88 56 120)) (some x4) (.n (aJ u 68 36 100 20 84 52 116) (uO u 12) (aJ u 76 44 108 28 92 60 124))) (uO u 2) (.n (.n (aJ u 66 34 98 18 82 50 114) (uO u 10) (aJ u 74 42 106 26 90 58 122)) (uO u 6) (.n (aJ u 70 38 102 22 86 54 118) (uO u 14) (aJ u 78 46 110 30 94 62 126)))))
abbrev b07(u:List (Option V))(x2:V):T:=(.n (.n (.n (.n (aJ u 63 31 95 15 79 47 111) (uO u 7) (aJ u 71 39 103 23 87 55 119)) (uO u 3) (.n (aJ u 67 35 99 19 83 51 115) (uO u 11) (aJ u 75 43 107 27 91 59 123))) (uO u 1) (.n (.n (aJ u 65 33 97 17 81 49 113) (uO u 9) (aJ u 73 41 105 25 89 57 121)) (uO u 5) (.n (aJ u 69 37 101 21 85 53 117) (uO u 13) (aJ u 77 45 109 29 93 61 125)))) (uO u 0) (.n (.n (.n (aJ u 64 32 96 16 80 48 112) (uO u 8) (aJ u 72 40 104 24 88 56 120)) (uO u 4) (.n (aJ u 68 36 100 20 84 52 116) (uO u 12) (aJ u 76 44 108 28 92 60 124))) (some x2) (.n (.n (aJ u 66 34 98 18 82 50 114) (uO u 10) (aJ u 74 42 106 26 90 58 122)) (uO u 6) (.n (aJ u 70 38 102 22 86 54 118) (uO u 14) (aJ u 78 46 110 30 94 62 126)))))
def Va:CC:=(.reg [(aa a1 (.bx 36 1 z0)),(qq a2 (.mv (.c (.s 0 0))))])
def Vb:CC:=(.reg [(aa a3 (.al 99 [.p0,.l0]))])
def Vc:CC:=(.reg [(qq a6 (.fa 0 z1)),(qq a7 (.ld1 z6)),(qq a8 (.ln .slice z7)),(qq a9 (.mv (x6 0)))])
def Vd:CC:=(.reg [(qq dV (.bi .lss z9 z8))])
def Ve:CC:=(.reg [(qq fo (.iaS 2 z7 z9)),(qq fF (.ldn 2 ec)),(aa a5 (.al 64 [(.s 0 0),(.b false)])),(ez (.st 2 z5 eP))])
def Vf:CC:=(.reg [(qq kG (.fa 1 z5)),(qq jI (.ld1 mA)),(qq gG (.mv mB))])
def Vg:CC:=(.reg [(ee i4 (.call 52 [z3,(.c (.s 2 16164))]))])
def Vh:CC:=(.reg [(qq kH (.fa 0 z5)),(qq jJ (.ld1 mC)),(qq mq (.bi .neq oJ (.c (.s 0 0)))),(qq lL (.mv qh)),(aR iH (.fa 0 z5) lL),(aR nO (.ld1 nE) lL),(k9 kI (.call 77 [qi,(.c (.f 75 [] []))]) lL),(qq lM (.pk pL qj xF)),(qq lw (.mv rZ))])
def Vi:CC:=(.reg [(qq mr (.fa 0 z5)),(qq sf (.ld1 sk)),(ee sg (.call 52 [z3,vN]))])
def JJ:CC:=(.reg [(qq eO (.fa 0 z5)),(qq gp (.ld1 ej)),(qq eC (.bi .add (.c (.s 1 39)) i9)),(qq i7 (.bi .add i5 (.c (.s 1 39)))),(ee fY (.call 52 [z3,j3]))])
def JK:CC:=(.seq Vh (.cond nL Vi JJ))
def JL:CC:=(.seq Vf (.cond ju Vg JK))
def JM:CC:=(.reg [(qq pM (.bi .add z9 (x6 1))),(qq a9 (.mv vO))])
def JN:CC:=(.seq (.cond fT .skip (.exit 0)) (.seq (.block 1 (.seq Ve (.block 2 JL))) JM))
def JO:CC:=(.reg [(ee lm (.call 54 [z3])),(qq a2 (.mv vP))])
def JP:CC:=(.seq (.seq Vc (.block 0 (.loop (.seq Vd JN)))) (.seq JO .ret))
def C3:CF:= .mk 6 [.t a2] (.seq Va (.seq Vb JP))
theorem e59(v0:V):bA 6 [v0]=(.n AZ (some v0) AZ):=rfl
def OM:=ai @e59 (ai (wu Va.eq_1) (ai (wu Vb.eq_1) (ai (wu Vc.eq_1) (ai (wu Vd.eq_1) (ai (wu Ve.eq_1) (ai (wu Vf.eq_1) (ai (wu Vg.eq_1) (ai (wu Vh.eq_1) (ai (wu Vi.eq_1) (ai (wu JJ.eq_1) (ai (wu JK.eq_1) (ai (wu JL.eq_1) (ai (wu JM.eq_1) (ai (wu JN.eq_1) (ai (wu JO.eq_1) (wu JP.eq_1))))))))))))))))
def xr(p:Pc):List UInt8:=if p.2=true then[36,63]else if(!decide (p.1=[])&&p.1.all nb)=true then p.1 else 39::(p.1++[39])
def dm:List Pc→List UInt8
 |[]=>[]
 |p::r=>xr p++dm r
theorem Dg(a b:List Pc):dm (a++b)=dm a++dm b:=by
 induction a with
 |nil=>rfl
 |cons p r ih=>show xr p++dm (r++b)=(xr p++dm r)++dm b;rw[ih,bM]
theorem ym{w:List Pc}{i:Nat}(h:i<w.length):dm (w.take (i+1))=dm (w.take i)++xr w[i]:=by
 rw[List.take_succ_eq_append_getElem h,Dg];show _++(xr w[i]++[])=_;rw[bP]
theorem RW{w:List Pc}{i:Nat}:(dm (w.take i)).length≤(dm w).length:=by
 have:=congrArg List.length (Dg (w.take i) (w.drop i))
 rw[List.take_append_drop,aO]at this
 omega
theorem ay0{w:List Pc}{i:Nat}(h:i<w.length):(dm (w.take i)).length+(xr w[i]).length≤(dm w).length:=by
 have:=@RW w (i+1)
 rw[ym h,aO]at this
 exact this
theorem w59(Φ:Nat→Option CF)(h:Φ 59=some C3)(h77:Φ 77=some (.orc (bh h77)))(h52:Φ 52=some yB)(h54:Φ 54=some yC)(h71:Φ 71=some vW){F:RO}{M:Mem}{c:Nat}(ok:cU F M c){v:V}{w:List Pc}(hw:dt F M c v w)(hp:∀p∈w,p.1.length≤1000000)(hz:(dm w).length≤1000000):
 Calls Φ F 59 [.g [v]] M c fun r M' c'=>r=sV (dm w)∧Gr c M c' M':=by
 refine aM h ?_
 obtain⟨y1,y2,y3⟩:=hw.one
 have hG:∀v,flatten (V.g [v])=[v]:=fun _=>rfl
 have gX:=(Gr.refl ok).set c (af 36 [v]) (ah _) (aA _) (aG _)
 have m0:(M.set c (af 36 [v])).get c=some (af 36 [v]):=am _ _ _
 have n1:=hw.len
 have mx1:w.length≤9223372036854775807:=hw.2
 have hX:=hw.grow gX
 have e0:V.s 0 0=sV []:=rfl
 have kz:load1 F (M.set c (af 36 [v])) c 0=some v:=aq m0 0
 have gA:=(Gr.refl (gX.ok ok)).set (c+1) (af 99 [.p0,.l0]) (ah _) (aA _) (aG _)
 have k0:load1 F ((M.set c (af 36 [v])).set (c+1) (af 99 [.p0,.l0])) c 0=some v:=(gA.load1 (aA _) _).trans kz
 have hB:jv ((M.set c (af 36 [v])).set (c+1) (af 99 [.p0,.l0])) (c+1) (c+2) (c+1) 0 (dm (w.take 0)):=⟨ah _,aA _,by omega,.p0,.l0,am _ _ _,.inl rfl,.inl ⟨rfl,rfl⟩⟩
 simp only[WX,Nat.reduceAdd,OM,hG,y3,k0,n1]
 generalize M.set c (af 36 [v])=X at gX m0 hX gA kz hB k0⊢
 generalize X.set (c+1) (af 99 [.p0,.l0])=A at gA hB k0⊢
 have okX:=gX.ok ok
 obtain⟨I,hI⟩:∃I:Nat→St→Prop,∀n s',I n s'↔(∃(i c1 bb:Nat) (M1:Mem) (u:List (Option V)),n=w.length-i∧i≤w.length∧s'= .mk ((NA u (.p c 0) (.p (c+1) 0) v (.i .i64 (w.length:Int)) (.i .i64 (i:Int)))) [] M1 c1∧Gr (c+1) X c1 M1∧jv M1 (c+1) c1 (c+1) bb (dm (w.take i))):=⟨fun n s'=>_,fun _ _=>Iff.rfl⟩
 refine bS I ?_ w.length _ ((hI _ _).2 ⟨0,_,_,_,(X1 (G1 (X1 (G1 (X2 (X1 (G2 (G1 (cH (ce (X4 (X1 [])))))))))))),rfl,az _,rfl,gA,hB⟩)
 intro n s' hIs
 obtain⟨i,c1,bb,M1,u,rfl,hi,rfl,gr1,hb1⟩:=(hI _ _).1 hIs
 clear hIs
 by_cases hlt:i<w.length
 ·have q8:cZ .add (.i .i64 (i:Int)) (.i .i64 1)=some (.i .i64 ((i+1:Nat):Int)):=by rw[bF _ _ (by omega) (by omega)];simp
  have d1:decide ((i:Int)<(w.length:Int))=true:=aj (by omega);obtain⟨b,o,hb,ia,ld1⟩:=Cs (hX.grow gr1).1 i hlt;have ia:=ia .i64;have hl1:=hp w[i] (List.getElem_mem _);have htk:=ym hlt;have hsz:=ay0 hlt;generalize w[i]=p at ld1 hl1 htk hsz;obtain⟨s,st⟩:=p;unfold EZ at ld1;have ok1:=gr1.ok okX;have sn:bN (M1.set c1 (af 64 [V.s 0 0,V.b false])) c1 0 [sV s,.b st]=some (M1.set c1 (af 64 [sV s,.b st])):=fh rfl rfl;have m1:(M1.set c1 (af 64 [sV s,.b st])).get c1=some (af 64 [sV s,.b st]):=am _ _ _;have g1':=(Gr.refl ok1).set c1 (af 64 [sV s,.b st]) (ah _) (aA _) (aG _);have g1:=gr1.trans g1';have hb2:jv (M1.set c1 (af 64 [sV s,.b st])) (c+1) (c1+1) (c+1) bb (dm (w.take i)):=hb1.up (aG _) (fun x hx=>g1'.old x hx);have p0:load1 F (M1.set c1 (af 64 [sV s,.b st])) c1 0=some (sV s):=aq m1 0;have p1:load1 F (M1.set c1 (af 64 [sV s,.b st])) c1 1=some (.b st):=aq m1 1;have qn:=qD s [];rw[←e0]at qn;generalize dm (w.take i)=T at htk hsz hb2 hb1⊢;generalize M1.set c1 (af 64 [sV s,.b st])=Y at sn p0 p1 g1 g1' hb2;have okY:=g1.ok okX;have NXT:∀(W:List UInt8),dm (w.take (i+1))=T++W→ ∀(M2:Mem) (c2 bb2:Nat) (u:List (Option V)),jv M2 (c+1) c2 (c+1) bb2 (T++W)→Gr (c+1) X c2 M2→I (w.length-(i+1)) (.mk ((NA u (.p c 0) (.p (c+1) 0) v (.i .i64 (w.length:Int)) (.i .i64 ((i+1:Nat):Int)))) [] M2 c2):=by
   intro W hW M2 c2 bb2 u hb3 g3;exact(hI _ _).2 ⟨i+1,_,_,_,(X1 (G1 (X1 (G1 (X2 (X1 (G2 (G1 (cH (ce (X4 (X1 [])))))))))))),rfl,hlt,rfl,g3,by rw[hW];exact hb3⟩
  cases st with
  |true=>
   simp only[WX,Nat.reduceAdd,OM,d1,ia,ld1,sn,p1];refine av ((r52 Φ h52 h71 okY g1 hb2 [36,63] (jm (by have:(xr (s,true)).length=2:=rfl;simp only[aw,aL];omega))).mono ?_);rintro r M2 c2 ⟨bb2,hb3,g3,_⟩;simp only[WX,OM,q8];exact⟨w.length-(i+1),by omega,NXT _ htk _ _ _ (X1 (G1 (X1 (G1 (X2 (X1 (G2 (G1 (cH (ce (X4 (X1 [])))))))))))) hb3 g3⟩
  |false=>
   have hxx:=aT8 s hl1;by_cases hs0:s=[]
   ·rw[aj hs0]at qn;have hpt:xr (s,false)=39::(s++[39]):=by unfold xr;rw[ab (by simp),ab (by simp[hs0])]
    rw[hpt]at hsz htk;have hl3:(39::(s++[39]):List UInt8).length=s.length+2:=by simp
    rw[hl3]at hsz;have ca:cZ .add (.s 1 39) (sV s)=some (sV (39::s)):=d9 [39] s (by simp only[aw,aL];omega);have cb:cZ .add (sV (39::s)) (.s 1 39)=some (sV (39::(s++[39]))):=d9 (39::s) [39] (by simp only[aw,aL];omega);simp only[WX,Nat.reduceAdd,OM,d1,ia,ld1,sn,p0,p1,qn,ca,cb];refine av ((r52 Φ h52 h71 okY g1 hb2 (39::(s++[39])) (jm (by rw[hl3];omega))).mono ?_);rintro r M2 c2 ⟨bb2,hb3,g3,_⟩;simp only[WX,OM,q8];exact⟨w.length-(i+1),by omega,NXT _ htk _ _ _ (X1 (G1 (X1 (G1 (X2 (X1 (G2 (G1 (cH (ce (X4 (X1 [])))))))))))) hb3 g3⟩
   ·rw[ak hs0]at qn;cases hx:s.all nb with
    |true=>
     rw[hx]at hxx;have hpt:xr (s,false)=s:=by unfold xr;rw[ab (by simp),ac (by simp[hs0];simpa using hx)]
     rw[hpt]at hsz htk;simp only[WX,Nat.reduceAdd,OM,d1,ia,ld1,sn,p0,p1,qn,h77,hxx];refine av ((r52 Φ h52 h71 okY g1 hb2 s (jm (by omega))).mono ?_);rintro r M2 c2 ⟨bb2,hb3,g3,_⟩;simp only[WX,OM,q8];exact⟨w.length-(i+1),by omega,NXT _ htk _ _ _ (X1 (G1 (X1 (G1 (X2 (X1 (G2 (G1 (cH (ce (X4 (X1 [])))))))))))) hb3 g3⟩
    |false=>
     rw[hx]at hxx;have hpt:xr (s,false)=39::(s++[39]):=by unfold xr;rw[ab (by simp),ab (by simp only[hx,Bool.and_false];simp)]
     rw[hpt]at hsz htk;have hl3:(39::(s++[39]):List UInt8).length=s.length+2:=by simp
     rw[hl3]at hsz;have ca:cZ .add (.s 1 39) (sV s)=some (sV (39::s)):=d9 [39] s (by simp only[aw,aL];omega);have cb:cZ .add (sV (39::s)) (.s 1 39)=some (sV (39::(s++[39]))):=d9 (39::s) [39] (by simp only[aw,aL];omega);simp only[WX,Nat.reduceAdd,OM,d1,ia,ld1,sn,p0,p1,qn,ca,cb,h77,hxx];refine av ((r52 Φ h52 h71 okY g1 hb2 (39::(s++[39])) (jm (by rw[hl3];omega))).mono ?_);rintro r M2 c2 ⟨bb2,hb3,g3,_⟩;simp only[WX,OM,q8];exact⟨w.length-(i+1),by omega,NXT _ htk _ _ _ (X1 (G1 (X1 (G1 (X2 (X1 (G2 (G1 (cH (ce (X4 (X1 [])))))))))))) hb3 g3⟩
 ·obtain rfl:i=w.length:=by omega
  have d1:decide ((w.length:Int)<(w.length:Int))=false:=ak (by omega);rw[List.take_length]at hb1;simp only[WX,OM,d1];refine av ((r54 Φ h54 (gr1.ok okX) gr1 hb1 (by omega)).mono ?_);rintro r M2 c2 ⟨rfl,g3,_⟩;simp only[WX];exact gX.trans g3
def Xi:CC:=(.reg [(aa a1 (.mkm)),(qq a2 (.bld [(.i .i64 0),(.i .i64 0),(.b false)] [])),(ez (.mu .str z1 (.c (.s 4 1702195828)) z2)),(qq a3 (.bld [(.i .i64 0),(.i .i64 0),(.b false)] [])),(ez (.mu .str z1 (.c (.s 5 435728179558)) z3)),(qq a4 (.bld [(.i .i64 0),(.i .i64 0),(.b false)] [])),(ez (.mu .str z1 (.c (.s 5 500069396323)) z4)),(qq a5 (.bld [(.i .i64 0),(.i .i64 0),(.b false)] [])),(ez (.mu .str z1 (.c (.s 5 491328139381)) z5)),(qq a6 (.bld [(.i .i64 0),(.i .i64 0),(.b false)] [(1,1,(x6 (-1)))])),(ez (.mu .str z1 (.c (.s 4 1869112165)) z6)),(qq a7 (.bld [(.i .i64 0),(.i .i64 0),(.b false)] [(1,1,(x6 (-1)))])),(ez (.mu .str z1 (.c (.s 3 7627107)) z7)),(qq a8 (.bld [(.i .i64 0),(.i .i64 0),(.b false)] [(0,1,(x6 1)),(1,1,(x6 1))])),(ez (.mu .str z1 (.c (.s 5 500153084262)) z8)),(qq a9 (.bld [(.i .i64 0),(.i .i64 0),(.b false)] [(0,1,(x6 1)),(1,1,(x6 1))])),(ez (.mu .str z1 (.c (.s 3 7561576)) z9)),(qq dV (.bld [(.i .i64 0),(.i .i64 0),(.b false)] [(1,1,(x6 1))])),(ez (.mu .str z1 (.c (.s 4 1953720684)) fT)),(qq fo (.bld [(.i .i64 0),(.i .i64 0),(.b false)] [(0,1,(x6 2)),(1,1,(x6 2)),(2,1,xT)])),(ez (.mu .str z1 (.c (.s 4 1701536109)) ec)),(qq fF (.bld [(.i .i64 0),(.i .i64 0),(.b false)] [(0,1,(x6 1)),(1,1,(x6 1)),(2,1,xT)])),(ez (.mu .str z1 (.c (.s 4 2036430689)) eP)),(qq eO (.bld [(.i .i64 0),(.i .i64 0),(.b false)] [(0,1,(x6 1)),(1,1,(x6 1)),(2,1,xT)])),(ez (.mu .str z1 (.c (.s 5 491260308579)) ej)),(qq gp (.bld [(.i .i64 0),(.i .i64 0),(.b false)] [(0,1,(x6 2)),(1,1,(x6 2)),(2,1,xT)])),(ez (.mu .str z1 (.c (.s 4 1702260589)) i9)),(qq eC (.bld [(.i .i64 0),(.i .i64 0),(.b false)] [(0,1,(x6 2)),(1,1,(x6 2)),(2,1,xT)])),(ez (.mu .str z1 (.c (.s 4 1802398060)) i5)),(qq i7 (.bld [(.i .i64 0),(.i .i64 0),(.b false)] [(0,1,(x6 2)),(1,1,(x6 2)),(2,1,xT)])),(ez (.mu .str z1 (.c (.s 6 126943805008242)) j3)),(qq fY (.mv z1)),(qq a0 (.mv gy))])
def Xj:CC:=(.seq (.reg [(qq a0 (.mv (.c .m0)))]) (.seq Xi .ret))
def L0:CF:= .mk 5 [.t a0] Xj
theorem e80:bA 5 []=AZ:=rfl
def B80:=ai @e80 (ai (wu Xi.eq_1) (wu Xj.eq_1))
def vZ(sh:Sh)(M:Mem)(c:Nat)(m k v:V):RC:=ad1 sh (.c m) (.c k) (.c v) [] M c .e
theorem RZ{Φ:Nat→Option CF}{rd:Option Nat}{fn:Nat}{F:RO}(sh:Sh)(m k v:X)(M:Mem)(c:Nat)(t:T):ew (.mu sh m k v) (K Φ rd fn F) M c t=vZ sh M c (m.ev t) (k.ev t) (v.ev t):=Eq.trans rfl (Eq.refl _)
def lkQ(sh:Sh)(zero:V)(ok:Bool)(F:RO)(M:Mem)(m k:V):QR:=jL (.lk sh zero ok (.c m) (.c k)) F M .e
theorem C8{F:RO}(sh:Sh)(zero:V)(ok:Bool)(x k:X)(M:Mem)(t:T):jL (.lk sh zero ok x k) F M t=lkQ sh zero ok F M (x.ev t) (k.ev t):=Eq.trans rfl (Eq.refl _)
def vY(l:List (List UInt8×V))(n:Nat):List (V×V×Nat):=l.zipIdx n|>.map fun e=>(sV e.1.1,e.1.2,e.2)
theorem QJ(a b:List UInt8):iP .str (sV a) (sV b)=some (decide (a=b)):=by
 show some (jE a.length (bT a) b.length (bT b))=_
 rw[pX]
theorem uN(s:List UInt8):∀(l:List (List UInt8×V)) (n i:Nat),∃j,gJ .str (sV s) (vY l n) i=some ((l.find? fun e=>decide (s=e.1)).map fun e=>(j,e.2))
 |[],n,i=>⟨0,rfl⟩
 |e::r,n,i=>by
  obtain⟨j,hj⟩:=uN s r (n+1) (i+1);have hk:=QJ s e.1;have hu:gJ .str (sV s) (vY (e::r) n) i=(match iP .str (sV s) (sV e.1)with|some true=>some (some (i,e.2))|some false=>gJ .str (sV s) (vY r (n+1)) (i+1)|none=>none):=rfl;rw[hu,hk,List.find?_cons];cases decide (s=e.1)with
  |true=>exact⟨i,rfl⟩
  |false=>exact⟨j,hj⟩
theorem wT(e:List UInt8×V)(r:List (List UInt8×V))(n:Nat):vY (e::r) n=(sV e.1,e.2,n)::vY r (n+1):=rfl
theorem wU{s:List UInt8}{v:V}:∀(l:List (List UInt8×V)) (m n:Nat),n=m+l.length→rK (sV s,v,n) (vY l m)=vY (l++[(s,v)]) m
 |[],m,n,h=>by rw[h];rfl
 |e::r,m,n,h=>by
  have:=wU (s:=s) (v:=v) r (m+1) n (by rw[h,aw];omega);rw[List.cons_append,wT,wT,←this];rfl
theorem QL{M:Mem}{c b:Nat}{l:List (List UInt8×V)}{n:Nat}{s:List UInt8}{v:V}(hM:M.get b=some (.map (vY l 0) n))(hn:n=l.length)(hf:(l.find? fun e=>decide (s=e.1))=none)(hn1:n<1000):
 vZ .str M c (.m b) (sV s) v= .k undef (M.set b (.map (vY (l++[(s,v)]) 0) (n+1))) c:=by
 obtain⟨j,hj⟩:=uN s l 0 0
 rw[hf]at hj
 show oN (M.get b) .f (fun es clock=>tf M c b es clock (sV s) v (gJ .str (sV s) es 0))=_
 rw[hM]
 show tf M c b (vY l 0) n (sV s) v (gJ .str (sV s) (vY l 0) 0)=_
 rw[hj]
 show fN (Nat.succ n) (fun ck=>Nd M c b (.map (rK (sV s,v,n) (vY l 0)) ck) undef)=_
 rw[bp,pV,wU l 0 n (by omega)]
theorem Y4{F:RO}{M:Mem}{b n:Nat}{zero:V}{ok:Bool}{l:List (List UInt8×V)}(s:List UInt8)(hM:look F M b=some (.map (vY l 0) n)):
 lkQ .str zero ok F M (.m b) (sV s)= .r (match (l.find? fun e=>decide (s=e.1))with|some e=>(bif ok then .t [e.2,.b true]else e.2)|none=>(bif ok then .t [zero,.b false]else zero)) b:=by
 obtain⟨j,hj⟩:=uN s l 0 0
 have key:∀(F:RO) (M:Mem),look F M b=some (.map (vY l 0) n)→cE (.lk .str zero ok (.c (.m b)) (.c (sV s))) F M .e= .r (match (l.find? fun e=>decide (s=e.1))with|some e=>(bif ok then .t [e.2,.b true]else e.2)|none=>(bif ok then .t [zero,.b false]else zero)) b:=by
  intro F M hM;show oN (look F M b) .f (fun es _=>CK zero ok b (gJ .str (sV s) es 0))=_;rw[hM];show CK zero ok b (gJ .str (sV s) (vY l 0) 0)=_;rw[hj];cases(l.find? fun e=>decide (s=e.1))<;>rfl
 unfold lkQ jL
 rw[key F M hM]
 show Lg _ .e b (look F M b)=_
 rw[hM]
 show xH b (cE _ [(b,.map (vY l 0) n)] .e .e)=_
 rw[key [(b,.map (vY l 0) n)] .e (by unfold look;rw[Tr.get_e];simp[bq])]
 rfl
def aU4:List (List UInt8×Int×Int×Bool):=[([116,114,117,101],0,0,false),([102,97,108,115,101],0,0,false),([99,111,117,110,116],0,0,false),([117,112,112,101,114],0,0,false),([101,99,104,111],0,-1,false),([99,97,116],0,-1,false),([102,105,114,115,116],1,1,false),([104,97,115],1,1,false),([108,105,115,116],0,1,false),([109,97,107,101],2,2,true),([97,119,97,121],1,1,true),([99,108,101,97,114],1,1,true),([109,111,118,101],2,2,true),([108,105,110,107],2,2,true),([114,105,103,104,116,115],2,2,true)]
def nvV(x:Int×Int×Bool):V:= .g [.i .i64 x.1,.i .i64 x.2.1,.b x.2.2]
def rb:List (List UInt8×V):=aU4.map fun e=>(e.1,nvV e.2)
def kn(s:List UInt8):Option (Int×Int×Bool):=(aU4.find? fun e=>decide (s=e.1)).map (·.2)
theorem ae4(s:List UInt8):((rb.find? fun e=>decide (s=e.1)).map (·.2))=(kn s).map nvV:=by
 unfold kn rb
 rw[List.find?_map,Option.map_map,Option.map_map]
 rfl
def kf(k:Nat):bw:= .map (vY (rb.take k) 0) k
abbrev QQ:bw:=kf 15
theorem gM{M:Mem}{c:Nat}(k:Nat){s:List UInt8}{v:V}(hk:k<15)(hf:((rb.take k).find? fun e=>decide (s=e.1))=none)(ht:rb.take k++[(s,v)]=rb.take (k+1))(hl:(rb.take k).length=k):
 vZ .str (M.set c (kf k)) (c+1) (.m c) (sV s) v= .k undef (M.set c (kf (k+1))) (c+1):=by
 unfold kf
 rw[QL (am _ _ _) hl.symm hf (by omega),l8,ht]
theorem w80(Φ:Nat→Option CF)(h:Φ 80=some L0){F:RO}{M:Mem}{c:Nat}(ok:cU F M c):Calls Φ F 80 [] M c fun r M' c'=>r= .m c∧M'=M.set c QQ∧c'=c+1:=by
 refine aM h ?_
 have f0:vZ .str (M.set c (kf 0)) (c+1) (.m c) (V.s 4 1702195828) (V.g [.i .i64 (0),.i .i64 (0),.b false])= .k undef (M.set c (kf 1)) (c+1):=gM 0 (s:=[116,114,117,101]) (by decide) rfl rfl rfl
 have f1:vZ .str (M.set c (kf 1)) (c+1) (.m c) (V.s 5 435728179558) (V.g [.i .i64 (0),.i .i64 (0),.b false])= .k undef (M.set c (kf 2)) (c+1):=gM 1 (s:=[102,97,108,115,101]) (by decide) rfl rfl rfl
 have f2:vZ .str (M.set c (kf 2)) (c+1) (.m c) (V.s 5 500069396323) (V.g [.i .i64 (0),.i .i64 (0),.b false])= .k undef (M.set c (kf 3)) (c+1):=gM 2 (s:=[99,111,117,110,116]) (by decide) rfl rfl rfl
 have f3:vZ .str (M.set c (kf 3)) (c+1) (.m c) (V.s 5 491328139381) (V.g [.i .i64 (0),.i .i64 (0),.b false])= .k undef (M.set c (kf 4)) (c+1):=gM 3 (s:=[117,112,112,101,114]) (by decide) rfl rfl rfl
 have f4:vZ .str (M.set c (kf 4)) (c+1) (.m c) (V.s 4 1869112165) (V.g [.i .i64 (0),.i .i64 (-1),.b false])= .k undef (M.set c (kf 5)) (c+1):=gM 4 (s:=[101,99,104,111]) (by decide) rfl rfl rfl
 have f5:vZ .str (M.set c (kf 5)) (c+1) (.m c) (V.s 3 7627107) (V.g [.i .i64 (0),.i .i64 (-1),.b false])= .k undef (M.set c (kf 6)) (c+1):=gM 5 (s:=[99,97,116]) (by decide) rfl rfl rfl
 have f6:vZ .str (M.set c (kf 6)) (c+1) (.m c) (V.s 5 500153084262) (V.g [.i .i64 (1),.i .i64 (1),.b false])= .k undef (M.set c (kf 7)) (c+1):=gM 6 (s:=[102,105,114,115,116]) (by decide) rfl rfl rfl
 have f7:vZ .str (M.set c (kf 7)) (c+1) (.m c) (V.s 3 7561576) (V.g [.i .i64 (1),.i .i64 (1),.b false])= .k undef (M.set c (kf 8)) (c+1):=gM 7 (s:=[104,97,115]) (by decide) rfl rfl rfl
 have f8:vZ .str (M.set c (kf 8)) (c+1) (.m c) (V.s 4 1953720684) (V.g [.i .i64 (0),.i .i64 (1),.b false])= .k undef (M.set c (kf 9)) (c+1):=gM 8 (s:=[108,105,115,116]) (by decide) rfl rfl rfl
 have f9:vZ .str (M.set c (kf 9)) (c+1) (.m c) (V.s 4 1701536109) (V.g [.i .i64 (2),.i .i64 (2),.b true])= .k undef (M.set c (kf 10)) (c+1):=gM 9 (s:=[109,97,107,101]) (by decide) rfl rfl rfl
 have f10:vZ .str (M.set c (kf 10)) (c+1) (.m c) (V.s 4 2036430689) (V.g [.i .i64 (1),.i .i64 (1),.b true])= .k undef (M.set c (kf 11)) (c+1):=gM 10 (s:=[97,119,97,121]) (by decide) rfl rfl rfl
 have f11:vZ .str (M.set c (kf 11)) (c+1) (.m c) (V.s 5 491260308579) (V.g [.i .i64 (1),.i .i64 (1),.b true])= .k undef (M.set c (kf 12)) (c+1):=gM 11 (s:=[99,108,101,97,114]) (by decide) rfl rfl rfl
 have f12:vZ .str (M.set c (kf 12)) (c+1) (.m c) (V.s 4 1702260589) (V.g [.i .i64 (2),.i .i64 (2),.b true])= .k undef (M.set c (kf 13)) (c+1):=gM 12 (s:=[109,111,118,101]) (by decide) rfl rfl rfl
 have f13:vZ .str (M.set c (kf 13)) (c+1) (.m c) (V.s 4 1802398060) (V.g [.i .i64 (2),.i .i64 (2),.b true])= .k undef (M.set c (kf 14)) (c+1):=gM 13 (s:=[108,105,110,107]) (by decide) rfl rfl rfl
 have f14:vZ .str (M.set c (kf 14)) (c+1) (.m c) (V.s 6 126943805008242) (V.g [.i .i64 (2),.i .i64 (2),.b true])= .k undef (M.set c (kf 15)) (c+1):=gM 14 (s:=[114,105,103,104,116,115]) (by decide) rfl rfl rfl
 have hm:∀t,iE .mkm c t=some (.m c,kf 0):=fun _=>rfl
 simp only[WX,Nat.reduceAdd,Nat.reduceLeDiff,B80,RZ,hm,f0,f1,f2,f3,f4,f5,f6,f7,f8,f9,f10,f11,f12,f13,f14]
def Xk:CC:=(.reg [(aa a1 (.bx 42 1 z0)),(qq a2 (.mv (.c (.s 0 0))))])
def Xl:CC:=(.reg [(qq a3 (.fa 0 z1)),(qq a4 (.ld1 z3)),(qq a5 (.ln .slice z4)),(qq a6 (.bi .eql z5 (x6 0))),(qq a7 (.mv z6)),(aH a8 (.fa 0 z1) a7),(aH a9 (.ld1 z8) a7),(aH dV (.iaS 1 z9 (x6 0)) a7),(aH fo (.fa 0 fT) a7),(aH fF (.ld1 ec) a7),(aH eO (.ln .slice eP) a7),(aH gp (.bi .neq ej (x6 1)) a7),(qq eC (.pk z7 xT i9))])
def Xm:CC:=(.seq (.reg [(qq a2 (.mv (.c (.s 0 0))))]) .ret)
def Xn:CC:=(.seq Xl (.cond i5 Xm .skip))
def Xo:CC:=(.reg [(qq i7 (.fa 0 z1)),(qq fY (.ld1 j3)),(qq gG (.iaS 1 gy (x6 0))),(qq kG (.fa 0 ju)),(qq jI (.ld1 mA)),(qq i4 (.iaS 2 mB (x6 0))),(qq lw (.fa 0 nK)),(qq kH (.ld1 nL)),(qq a2 (.mv mC))])
def L4:CF:= .mk 5 [.t a2] (.seq Xk (.seq Xn (.seq Xo .ret)))
theorem e81(v0:V):bA 5 [v0]=(.n j1 (some v0) j1):=rfl
def B81:=ai @e81 (ai (wu Xk.eq_1) (ai (wu Xl.eq_1) (ai (wu Xm.eq_1) (ai (wu Xn.eq_1) (wu Xo.eq_1)))))
def VG:CC:=(.reg [(aa a1 (.bx 42 1 z0)),(qq a2 (.mv xF))])
def VH:CC:=(.dreg 17 [(1,0,(qq a4 (.ldn 1 z1))),(0,0,(ee a3 (.call 80 []))),(2,3,(ee a5 (.call 81 [z4]))),(3,7,(qq a6 (.lk .str (.g [(.i .i64 0),(.i .i64 0),(.b false)]) false z3 z5))),(4,15,(qq a7 (.fl1 2 z6))),(5,31,(qq a8 (.mv z7))),(6,63,(aR a9 (.fa 0 z1) a8)),(7,127,(aR dV (.ld1 z9) a8)),(8,255,(aR fo (.iaS 1 fT (x6 0)) a8)),(9,511,(aR fF (.fa 0 ec) a8)),(10,1023,(aR eO (.ld1 eP) a8)),(11,2047,(aR gp (.iaS 2 ej (x6 0)) a8)),(12,4095,(aR eC (.fa 1 i9) a8)),(13,8191,(aR i7 (.ld1 i5) a8)),(14,16383,(aR fY (.un .not j3) a8)),(15,32767,(qq gG (.pk z8 gy xF))),(16,65535,(qq a2 (.mv ju)))])
def PU:CF:= .mk 5 [.t a2] (.seq VG (.seq VH .ret))
theorem e63(v0:V):bA 5 [v0]=(.n j1 (some v0) j1):=rfl
def B63:=ai @e63 (ai (wu VG.eq_1) (wu VH.eq_1))
abbrev hU:=List (List Pc)
def zL:hU→List UInt8
 |[p]::_=>p.1
 |_=>[]
def stS:hU→Bool
 |[p]::_=>p.2
 |_=>false
theorem MB{F:RO}{M:Mem}{c:Nat}{v:V}{ps:List Pc}(h:cB F M c 2 v (kW ps))(i:Nat)(hi:i<ps.length):∃b o,b<c∧(∀k,iN 2 v (.i k (i:Int))=some (.p b o))∧load1 F M b o=some (sV ps[i].1)∧load1 F M b (o+1)=some (.b ps[i].2):=by
 obtain⟨b,o,h1,h2,h3⟩:=h.at i (by rw[dY];exact hi)
 have e:(kW ps)[i]'(by rw[dY];exact hi)=EZ ps[i]:=by simp[kW]
 rw[e]at h3
 have a0:=h3 0 (by simp[EZ])
 have a1:=h3 1 (by simp[EZ])
 exact⟨b,o,h1,h2,a0,a1⟩
theorem w81(Φ:Nat→Option CF)(h:Φ 81=some L4){F:RO}{M:Mem}{c:Nat}(ok:cU F M c){v:V}{l:hU}(hl:eM F M c v l):
 Calls Φ F 81 [.g [v]] M c fun r M' c'=>r=sV (zL l)∧Gr c M c' M':=by
 refine aM h ?_
 obtain⟨y1,y2,y3⟩:=hl.one
 have hG:∀v,flatten (V.g [v])=[v]:=fun _=>rfl
 have gX:=(Gr.refl ok).set c (af 42 [v]) (ah _) (aA _) (aG _)
 have m0:(M.set c (af 42 [v])).get c=some (af 42 [v]):=am _ _ _
 have n1:=hl.len
 have hX:=hl.grow gX
 have k0:load1 F (M.set c (af 42 [v])) c 0=some v:=aq m0 0
 have hfr:=(gX.ok ok).free
 cases l with
 |nil=>
  simp only[WX,B81,hG,y3,k0,n1,Int.natCast_zero];exact⟨rfl,gX⟩
 |cons w r=>
  obtain⟨b,o,x,hbx,ia,ld,_,hw⟩:=cA.at1 hX 0 (by simp);have ia0:iN 1 v (.i .i64 0)=some (.p b o):=ia .i64;have hw:dt F (M.set c (af 42 [v])) (c+1) x w:=hw;have n2:=hw.len;generalize hN:(w::r).length=N at n1;have d1:decide ((N:Int)=0)=false:=ak (by rw[←hN,aw];omega)
  match w,n2,hw with
  |[],n2,hw=>
   have d2:decide (¬((0:Int)=1))=true:=rfl;simp only[WX,B81,d2,hG,y3,k0,n1,d1,ia0,ld,n2,Int.natCast_zero,aW];exact⟨rfl,gX⟩
  |p::q::t,n2,hw=>
   generalize hN2:(p::q::t).length=N2 at n2;have d2:decide (¬((N2:Int)=1))=true:=aj (by rw[←hN2,aw,aw];omega);simp only[WX,B81,hG,y3,k0,n1,d1,ia0,ld,n2,d2,aW];exact⟨rfl,gX⟩
  |[p],n2,hw=>
   obtain⟨b1,o1,hb1,ia1,ld1⟩:=ag5 hw.1 0 (by simp);have ia1:iN 2 x (.i .i64 0)=some (.p b1 o1):=ia1 .i64;have ld1:load1 F (M.set c (af 42 [v])) b1 o1=some (sV p.1):=ld1;generalize hN2:([p]:List Pc).length=N2 at n2;have d2:decide (¬((N2:Int)=1))=false:=ak (fun e=>e (by rw[←hN2];rfl));simp only[WX,B81,hG,y3,k0,n1,d1,ia0,ld,n2,d2,ia1,ld1,aW];exact⟨rfl,gX⟩
theorem Y5(s:List UInt8)(f:V→V)(z:V):(match (rb.find? fun e=>decide (s=e.1))with|some e=>f e.2|none=>z)=match kn s with|some x=>f (nvV x)|none=>z:=by
 have:=ae4 s
 cases h1:(rb.find? fun e=>decide (s=e.1))with
 |none=>rw[h1]at this;cases h2:kn s with
  |none=>rfl
  |some x=>rw[h2]at this;cases this
 |some e=>rw[h1]at this;cases h2:kn s with
  |none=>rw[h2]at this;cases this
  |some x=>rw[h2]at this;have h3:e.2=nvV x:=ae this;show f e.2=f (nvV x);rw[h3]
theorem bi2{F:RO}{M:Mem}{b:Nat}(s:List UInt8)(zero:V)(hM:M.get b=some QQ):
 lkQ .str zero false F M (.m b) (sV s)= .r (match kn s with|some x=>nvV x|none=>zero) b:=by
 have:=Y4 (F:=F) (M:=M) (b:=b) (n:=15) (zero:=zero) (ok:=false) (l:=rb) s (au hM)
 rw[this]
 exact congrArg (fun v=>QR.r v b) (Y5 s id zero)
theorem aV2{F:RO}{M:Mem}{b:Nat}(s:List UInt8)(zero:V)(hM:M.get b=some QQ):
 lkQ .str zero true F M (.m b) (sV s)= .r (match kn s with|some x=> .t [nvV x,.b true]|none=> .t [zero,.b false]) b:=by
 have:=Y4 (F:=F) (M:=M) (b:=b) (n:=15) (zero:=zero) (ok:=true) (l:=rb) s (au hM)
 rw[this]
 exact congrArg (fun v=>QR.r v b) (Y5 s (fun v=> .t [v,.b true]) (.t [zero,.b false]))
theorem C4{l:hU}{x:Int×Int×Bool}(h:kn (zL l)=some x):∃p r,l=[p]::r:=by
 match l,h with
 |[p]::r,_=>exact⟨p,r,rfl⟩
 |[],h=>exact absurd h (by have:kn (zL [])=none:=rfl;rw[this];simp)
 |[]::_,h=>exact absurd h (by have:kn (zL ([]::[]))=none:=rfl;exact fun e=>by cases this.symm.trans e)
 |(_::_::_)::_,h=>exact absurd h (by have:kn []=none:=rfl;exact fun e=>by cases this.symm.trans e)
theorem zQ{F:RO}(off:Nat)(x:X)(M:Mem)(t:T):jL (.fl1 off x) F M t=oV (match x.ev t with| .g cs=>cs[off]?|_=>none):=by
 refine(eX ?_).trans (congrArg oV (YA (F:=F) off x M t))
 intro F' M'
 show(Ar (x.ev t) .f fun cs=>qr (mX cs off))=oV (Ar (x.ev t) .f fun cs=>qr (mX cs off)).val
 cases x.ev t with
 |g cs=>
  show qr (mX cs off)=oV (qr (mX cs off)).val;cases mX cs off<;>rfl
 |_=>rfl
def Q6(l:hU):Bool:=match kn (zL l)with
 |some x=>x.2.2&& !stS l
 |none=>false
theorem w63(Φ:Nat→Option CF)(h:Φ 63=some PU)(h80:Φ 80=some L0)(h81:Φ 81=some L4){F:RO}{M:Mem}{c:Nat}(ok:cU F M c){v:V}{l:hU}(hl:eM F M c v l):
 Calls Φ F 63 [.g [v]] M c fun r M' c'=>r= .b (Q6 l)∧Gr c M c' M':=by
 refine aM h ?_
 obtain⟨y1,y2,y3⟩:=hl.one
 have hG:∀v,flatten (V.g [v])=[v]:=fun _=>rfl
 have gX:=(Gr.refl ok).set c (af 42 [v]) (ah _) (aA _) (aG _)
 have m0:(M.set c (af 42 [v])).get c=some (af 42 [v]):=am _ _ _
 have hX:=hl.grow gX
 have k0:loadN F (M.set c (af 42 [v])) c 0 1=some [v]:=bj m0 1 rfl
 have hfr:=(gX.ok ok).free
 simp only[WX,Nat.reduceAdd,B63,hG,y3,k0]
 generalize M.set c (af 42 [v])=X at gX m0 hX k0 hfr⊢
 have okX:=gX.ok ok
 have g4:Gr (c+1) X (c+18) X:=(Gr.refl okX).up (by omega)
 refine u7 _ _ _ _ _ _ _ _ _ _ _ (g4.ok okX) ?_
 intro F1 N1 okn hlk
 refine(show nF (da (iL Φ) F1 80 [] N1 (c+18) (Φ 80)) _ from(w80 Φ h80 okn).mono ?_)
 rintro v1 M5 c5 ⟨rfl,hM5,rfl⟩
 refine⟨by rw[hM5];exact(Gr.refl okn).set (c+18) QQ (ah _) (aA _) (aG _),fun M3 g3 hM3=>?_⟩
 have hnm:M3.get (c+18)=some QQ:=by rw[hM3 _ (ah _),hM5];exact am _ _ _
 have g5:=g4.trans g3
 have ok3:=g5.ok okX
 clear hM3 hM5 hlk okn g3
 simp only[WX,Nat.reducePow,Nat.reduceDiv,Nat.reduceMod,Nat.reduceBEq,Nat.reduceAdd,kC]
 refine fe ((w81 Φ h81 ok3 (hX.grow g5)).mono ?_)
 rintro v2 M6 c6 ⟨rfl,g6⟩
 have g7:=g5.trans g6
 have ok6:=g7.ok okX
 have hfr6:=ok6.free
 refine⟨hfr6,?_⟩
 have hnm:M6.get (c+18)=some QQ:=(g6.old _ (by omega)).trans hnm
 have hlk:=bi2 (F:=F) (zL l) (V.g [V.i IntKind.i64 0,V.i IntKind.i64 0,V.b false]) hnm
 have hX6:=hX.grow g7
 have k0:load1 F M6 c 0=some v:=(g7.load1 (by omega) _).trans (aq m0 0)
 cases hk:kn (zL l)with
 |none=>
  rw[hk]at hlk;simp only[WX,C8,hlk,zQ];exact⟨by unfold Q6;rw[hk],gX.trans g7⟩
 |some x=>
  rw[hk]at hlk;obtain⟨y,yb,yc⟩:=x;have hlk:lkQ Sh.str (V.g [V.i IntKind.i64 0,V.i IntKind.i64 0,V.b false]) false F M6 (V.m (c+18)) (sV (zL l))=QR.r (.g [.i .i64 y,.i .i64 yb,.b yc]) (c+18):=hlk;have hre:Q6 l=(yc&& !stS l):=by unfold Q6;rw[hk]
  rw[hre];clear hre;cases yc with
  |false=>
   simp only[WX,C8,hlk,zQ];exact⟨rfl,gX.trans g7⟩
  |true=>
   obtain⟨p,r,rfl⟩:=C4 hk;obtain⟨b,o,x,hbx,ia,ld,_,hw⟩:=cA.at1 hX6 0 (by simp);have ia0:iN 1 v (.i .i64 0)=some (.p b o):=ia .i64;have hw:dt F M6 c6 x [p]:=hw;obtain⟨b1,o1,hb1,ia1,ld1,ld2⟩:=MB hw.1 0 (by simp);have ia1:iN 2 x (.i .i64 0)=some (.p b1 o1):=ia1 .i64;have ld2:load1 F M6 b1 (o1+1)=some (.b p.2):=ld2;simp only[WX,C8,hlk,zQ,k0,ia0,ld,ia1,ld2,aW];exact⟨rfl,gX.trans g7⟩
abbrev b08(u:List (Option V))(x0 x1 x6 x7 x8:V):T:=(.n (.n (.n (.n (eg u 15) (some x7) (eg u 23)) (uO u 3) (ek u 19 11 27)) (some x1) (aJ u 17 9 25 5 21 13 29)) (some x0) (.n (.n (.n (eg u 16) (some x8) (eg u 24)) (uO u 4) (ek u 20 12 28)) (uO u 2) (.n (ek u 18 10 26) (some x6) (ek u 22 14 30))))
def Xr:CC:=(.reg [(aa a1 (.bx 36 1 z0)),(qq a2 (.mv xF))])
def Xs:CC:=(.reg [(qq a3 (.ldn 1 z1)),(ee a4 (.call 61 [z3])),(qq a5 (.un .not z4)),(qq a2 (.mv z5))])
def FX:CF:= .mk 3 [.t a2] (.seq Xr (.seq Xs .ret))
theorem e83(v0:V):bA 3 [v0]=(.n nI (some v0) nI):=rfl
def B83:=ai @e83 (ai (wu Xr.eq_1) (wu Xs.eq_1))
def XA:CC:=(.reg [(qq a4 (.mv (x6 0)))])
def XB:CC:=(.reg [(qq a6 (.mv z0)),(qq a7 (.ln .slice z6)),(qq a8 (.mv (x6 0)))])
def XC:CC:=(.reg [(qq a9 (.bi .lss z8 z7))])
def XD:CC:=(.reg [(qq dV (.mv z8)),(qq a5 (.mv fT))])
def XE:CC:=(.reg [(qq fo (.mv z1)),(qq fF (.mv z0)),(qq eO (.mv z5)),(qq gp (.iaS 1 eP ej)),(qq eC (.ldn 1 i9)),(ee i7 (.cv ec [i5]))])
def XF:CC:=(.reg [(qq fY (.mv z5)),(qq a4 (.mv gy))])
def XG:CC:=(.seq XE (.cond j3 (.seq XF .ret) .skip))
def XH:CC:=(.reg [(qq gG (.bi .add z8 (x6 1))),(qq a8 (.mv ju))])
def XI:CC:=(.seq (.cond z9 .skip (.exit 0)) (.seq (.block 1 (.seq XD XG)) XH))
def KK:CC:=(.reg [(qq a4 (.mv (x6 (-1))))])
def KL:CC:=(.seq (.seq XB (.block 0 (.loop (.seq XC XI)))) (.seq KK .ret))
def L5:CF:= .mk 5 [.t a4] (.seq XA KL)
theorem e90(v0 v1:V):bA 5 [v0,v1]=(.n (.n ir (some v1) ir) (some v0) j1):=rfl
def B90:=ai @e90 (ai (wu XA.eq_1) (ai (wu XB.eq_1) (ai (wu XC.eq_1) (ai (wu XD.eq_1) (ai (wu XE.eq_1) (ai (wu XF.eq_1) (ai (wu XG.eq_1) (ai (wu XH.eq_1) (ai (wu XI.eq_1) (ai (wu KK.eq_1) (wu KL.eq_1)))))))))))
def Xp:CC:=(.reg [(qq a4 (.mv xF))])
def Xq:CC:=(.reg [(qq a5 (.mv z0)),(qq a6 (.mv z1)),(ee a7 (.call 90 [z5,z6])),(qq a8 (.bi .geq z7 (x6 0))),(qq a4 (.mv z8))])
def OY:CF:= .mk 4 [.t a4] (.seq Xp (.seq Xq .ret))
theorem e82(v0 v1:V):bA 4 [v0,v1]=(.n (.n nI (some v1) nI) (some v0) ir):=rfl
def B82:=ai @e82 (ai (wu Xp.eq_1) (wu Xq.eq_1))
def VB:CC:=(.reg [(aa a1 (.bx 42 1 z0)),(qq a2 (.mv xF))])
def VD:CC:=(.dreg 10 [(1,0,(qq a8 (.ldn 1 z1))),(7,0,(aa a3 (.al 121 [(.i .i64 0),(.i .i64 0),(.b false)]))),(0,0,(ee a7 (.call 80 []))),(2,3,(ee a9 (.call 81 [z8]))),(3,7,(qq dV (.lk .str (.g [(.i .i64 0),(.i .i64 0),(.b false)]) true z7 z9))),(4,15,(qq a6 (.mv fT))),(5,31,(qq fo (.ex 0 z6))),(6,31,(qq fF (.ex 1 z6))),(8,191,(ez (.st 3 z3 ec))),(9,511,(qq a4 (.mv eP)))])
def VE:CC:=(.reg [(qq eO (.fa 0 z1)),(qq gp (.ld1 ej)),(qq eC (.ln .slice i9)),(qq i7 (.bi .sub i5 (x6 1))),(qq a5 (.mv j3))])
def VF:CC:=(.reg [(qq fY (.mv z4)),(qq gG (.mv gy)),(aR kG (.fa 0 z1) gG),(aR jI (.ld1 mA) gG),(aR i4 (.iaS 1 mB (x6 0)) gG),(aR lw (.fa 0 nK) gG),(aR kH (.ld1 nL) gG),(aR jJ (.iaS 2 mC (x6 0)) gG),(aR mq (.fa 1 oJ) gG),(aR lL (.ld1 qh) gG),(aR iH (.un .not pL) gG),(qq nO (.pk ju nE xF)),(qq kI (.mv qi)),(aR lM (.mv z5) kI),(aR mr (.fa 0 z3) kI),(aR sf (.ld1 sk) kI),(aR sg (.bi .geq rZ vN) kI),(qq pM (.pk qj yo xF)),(qq lm (.mv vO)),(aR sP (.fa 1 z3) lm),(aR po (.ld1 yp) lm),(aR mt (.bi .lss ua (x6 0)) lm),(aR nP (.mv w6) lm),(aH sQ (.mv z5) nP),(aH sw (.fa 1 z3) nP),(aH sR (.ld1 vQ) nP),(aH sS (.bi .leq yq yr) nP),(aR qy (.pk w7 xT yt) lm),(qq ui (.pk vP w8 xF)),(qq nQ (.mv yI)),(aR uj (.fa 0 z1) nQ),(aR vR (.ld1 yJ) nQ),(k9 wh (.call 82 [BA,(.c (.f 83 [] []))]) nQ),(aR wj (.un .not FI) nQ),(qq wl (.pk FH FJ xF)),(qq a2 (.mv Dj))])
def KW:CF:= .mk 6 [.t a2] (.seq VB (.seq VD (.seq VE (.seq VF .ret))))
theorem e62(v0:V):bA 6 [v0]=(.n AZ (some v0) AZ):=rfl
def Zm:=ai @e62 (ai (wu VB.eq_1) (ai (wu VD.eq_1) (ai (wu VE.eq_1) (wu VF.eq_1))))
def Gh(l:hU):Prop:=∀w∈l,∀p∈w,p.1.length≤1000000
theorem w83(Φ:Nat→Option CF)(h:Φ 83=some FX)(h61:Φ 61=some Ec)(h77:Φ 77=some (.orc (bh h77))){F:RO}{M:Mem}{c:Nat}(ok:cU F M c){v:V}{w:List Pc}(hw:dt F M c v w)(hp:∀p∈w,p.1.length≤1000000):
 Calls Φ F 83 [.g [v]] M c fun r M' c'=>r= .b (!eN w)∧Gr c M c' M':=by
 refine aM h ?_
 obtain⟨y1,y2,y3⟩:=hw.one
 have hG:∀v,flatten (V.g [v])=[v]:=fun _=>rfl
 have gX:=(Gr.refl ok).set c (af 36 [v]) (ah _) (aA _) (aG _)
 have m0:(M.set c (af 36 [v])).get c=some (af 36 [v]):=am _ _ _
 have hX:=hw.grow gX
 have k0:loadN F (M.set c (af 36 [v])) c 0 1=some [v]:=bj m0 1 rfl
 simp only[WX,B83,hG,y3,k0]
 refine av ((w61 Φ h61 h77 (gX.ok ok) hX hp).mono ?_)
 rintro r M2 c2 ⟨rfl,g2⟩
 simp only[WX]
 exact gX.trans g2
theorem w90(Φ:Nat→Option CF)(h:Φ 90=some L5)(h83:Φ 83=some FX)(h61:Φ 61=some Ec)(h77:Φ 77=some (.orc (bh h77))){F:RO}{M:Mem}{c:Nat}(ok:cU F M c){v:V}{l:hU}(hl:eM F M c v l)(hs:Gh l):
 Calls Φ F 90 [v,.f 83 [] []] M c fun r M' c'=>(∃z:Int,r= .i .i64 z∧decide (0≤z)= !(l.all eN))∧Gr c M c' M':=by
 refine aM h ?_
 have n1:=hl.len
 have mx:=hl.max
 simp only[WX,B90,n1]
 obtain⟨I,hI⟩:∃I:Nat→St→Prop,∀n s',I n s'↔(∃(i c1:Nat) (M1:Mem) (u:List (Option V)),n=l.length-i∧i≤l.length∧s'= .mk ((b08 u v (.f 83 [] []) v (.i .i64 (l.length:Int)) (.i .i64 (i:Int)))) [] M1 c1∧Gr c M c1 M1∧l.all eN=(l.drop i).all eN):=⟨fun n s'=>_,fun _ _=>Iff.rfl⟩
 refine bS I ?_ l.length _ ((hI _ _).2 ⟨0,_,_,(G2 (X4 (G2 (G1 (ce (X4 (X2 []))))))),rfl,az _,rfl,Gr.refl ok,rfl⟩)
 intro n s' hIs
 obtain⟨i,c1,M1,u,rfl,hi,rfl,gr1,hb⟩:=(hI _ _).1 hIs
 clear hIs
 by_cases hlt:i<l.length
 ·have q8:cZ .add (.i .i64 (i:Int)) (.i .i64 1)=some (.i .i64 ((i+1:Nat):Int)):=by rw[bF _ _ (by omega) (by omega)];simp
  have d1:decide ((i:Int)<(l.length:Int))=true:=aj (by omega);obtain⟨b,o,x,hbx,ia,_,ld,hw⟩:=cA.at1 (hl.grow gr1) i hlt;have ia:=ia .i64;have hd:l.drop i=l[i]::l.drop (i+1):=cQ hlt;rw[hd,List.all_cons]at hb;have hsi:=hs l[i] (List.getElem_mem _);generalize l[i]=w at hb hw hsi;simp only[WX,B90,d1,ia,ld];refine av ((w83 Φ h83 h61 h77 (gr1.ok ok) hw hsi).mono ?_);rintro r M2 c2 ⟨rfl,g2⟩;cases hf:eN w with
  |true=>
   rw[hf]at hb;simp only[WX,B90,q8];exact⟨l.length-(i+1),by omega,(hI _ _).2 ⟨i+1,_,_,(G2 (X4 (G2 (G1 (ce (X4 (X2 []))))))),rfl,hlt,rfl,gr1.trans g2,hb⟩⟩
  |false=>
   rw[hf]at hb;simp only[WX,B90];exact⟨⟨_,rfl,by rw[hb];exact aj (by omega)⟩,gr1.trans g2⟩
 ·obtain rfl:i=l.length:=by omega
  have d1:decide ((l.length:Int)<(l.length:Int))=false:=ak (by omega);rw[dG]at hb;simp only[WX,B90,d1];exact⟨⟨_,rfl,by rw[hb];rfl⟩,gr1⟩
theorem w82(Φ:Nat→Option CF)(h:Φ 82=some OY)(h90:Φ 90=some L5)(h83:Φ 83=some FX)(h61:Φ 61=some Ec)(h77:Φ 77=some (.orc (bh h77))){F:RO}{M:Mem}{c:Nat}(ok:cU F M c){v:V}{l:hU}(hl:eM F M c v l)(hs:Gh l):
 Calls Φ F 82 [v,.f 83 [] []] M c fun r M' c'=>r= .b (!(l.all eN))∧Gr c M c' M':=by
 refine aM h ?_
 simp only[WX,B82]
 refine av ((w90 Φ h90 h83 h61 h77 ok hl hs).mono ?_)
 rintro r M2 c2 ⟨⟨z,rfl,hz⟩,g2⟩
 simp only[WX,hz]
 exact g2
def oU(l:hU):Bool:=match kn (zL l)with
 |some x=> !stS l&&(decide (x.1≤(l.length:Int)-1)&&((decide (x.2.1<0)||decide ((l.length:Int)-1≤x.2.1))&&l.all eN))
 |none=>false
theorem w62(Φ:Nat→Option CF)(h:Φ 62=some KW)(h80:Φ 80=some L0)(h81:Φ 81=some L4)(h82:Φ 82=some OY)(h90:Φ 90=some L5)(h83:Φ 83=some FX)(h61:Φ 61=some Ec)(h77:Φ 77=some (.orc (bh h77))){F:RO}{M:Mem}{c:Nat}(ok:cU F M c){v:V}{l:hU}(hl:eM F M c v l)(hs:Gh l):
 Calls Φ F 62 [.g [v]] M c fun r M' c'=>r= .b (oU l)∧Gr c M c' M':=by
 refine aM h ?_
 obtain⟨y1,y2,y3⟩:=hl.one
 have hG:∀v,flatten (V.g [v])=[v]:=fun _=>rfl
 have gX:=(Gr.refl ok).set c (af 42 [v]) (ah _) (aA _) (aG _)
 have m0:(M.set c (af 42 [v])).get c=some (af 42 [v]):=am _ _ _
 have hX:=hl.grow gX
 have k0:loadN F (M.set c (af 42 [v])) c 0 1=some [v]:=bj m0 1 rfl
 have hfr:=(gX.ok ok).free
 simp only[WX,Nat.reduceAdd,Zm,hG,y3,k0]
 generalize M.set c (af 42 [v])=X at gX m0 hX k0 hfr⊢
 have okX:=gX.ok ok
 have lk1:(look F X (c+8)).isNone=true:=by rw[okX.look (by omega)];rfl
 have rf1:bQ (c+8) [(1,c)]=true:=by rw[bv _ _ _ _ (by omega),cI]
 simp only[WX,Nat.reduceAdd,vF,ng,lk1,rf1]
 have TB0:testBit 0 7=false:=by decide+kernel
 have TB3:testBit 3 7=false:=by decide+kernel
 have g4:Gr (c+1) X (c+11) X:=(Gr.refl okX).up (by omega)
 obtain⟨Z,hZ⟩:∃Z:List V,Z=[.i .i64 0,.i .i64 0,.b false]:=⟨_,rfl⟩
 refine Oj _ _ _ _ _ _ _ _ _ _ _ _ (g4.ok okX) (by rw[List.all_cons,List.all_nil,TB0];rfl) (by intro e he;rw[List.mem_singleton]at he;subst he;exact⟨by show c+8<c+11;omega,okX.look (show c+1≤c+8 by omega)⟩) ?_
 intro F1 N1 okn hlk
 refine(show nF (da (iL Φ) F1 80 [] N1 (c+11) (Φ 80)) _ from(w80 Φ h80 okn).mono ?_)
 rintro v1 M5 c5 ⟨rfl,hM5,rfl⟩
 refine⟨by rw[hM5];exact(Gr.refl okn).set (c+11) QQ (ah _) (aA _) (aG _),fun M3 g3 hM3=>?_⟩
 have hnm:M3.get (c+11)=some QQ:=by rw[hM3 _ (ah _),hM5];exact am _ _ _
 have g5:=g4.trans g3
 have ok3:=g5.ok okX
 have lk2:look F M3 (c+8)=none:=by
  obtain⟨e1,e2⟩:=fy (okX.look (show c+1≤c+8 by omega));exact gg ((g3.old _ (by omega)).trans e1) e2
 clear hM3 hM5 hlk okn
 simp only[WX,Nat.reduceAdd]
 refine Oj _ _ _ _ _ _ _ _ _ _ _ _ ok3 (by rw[List.all_cons,List.all_nil,TB3];rfl) (by intro e he;rw[List.mem_singleton]at he;subst he;exact⟨by show c+8<c+11+1;omega,lk2⟩) ?_
 intro F1 N1 okn hlk
 refine(show nF (da (iL Φ) F1 81 [.g [v]] N1 (c+11+1) (Φ 81)) _ from(w81 Φ h81 okn ((hX.grow g5).lk hlk)).mono ?_)
 rintro v1 M5 c5 ⟨rfl,g6'⟩
 refine⟨g6',fun M6 g6 _=>?_⟩
 have g7:=g5.trans g6
 have ok6:=g7.ok okX
 have hle6:=g6.le
 have hnm:M6.get (c+11)=some QQ:=(g6.old _ (by omega)).trans hnm
 have lk3:look F M6 (c+8)=none:=by
  obtain⟨e1,e2⟩:=fy lk2;exact gg ((g6.old _ (by omega)).trans e1) e2
 clear hlk okn g6'
 have hlk:=aV2 (F:=F) (zL l) (V.g [V.i IntKind.i64 0,V.i IntKind.i64 0,V.b false]) hnm
 obtain⟨E1,E2,E3,fl,hE,hkn⟩:∃E1 E2 E3 fl,lkQ Sh.str (V.g [V.i IntKind.i64 0,V.i IntKind.i64 0,V.b false]) true F M6 (V.m (c+11)) (sV (zL l))=QR.r (.t [.g [.i .i64 E1,.i .i64 E2,.b E3],.b fl]) (c+11)∧(kn (zL l)=some (E1,E2,E3)∧fl=true∨kn (zL l)=none∧fl=false):=by
  cases hk:kn (zL l)with
  |none=>rw[hk]at hlk;exact⟨0,0,false,false,hlk,.inr ⟨rfl,rfl⟩⟩
  |some x=>rw[hk]at hlk;exact⟨x.1,x.2.1,x.2.2,true,hlk,.inl ⟨rfl,rfl⟩⟩
 have hfr6:=ok6.free
 simp only[WX,C8,hE]
 have gB:Gr (c+1) X c5 (M6.set (c+8) (af 121 [.i .i64 0,.i .i64 0,.b false])):=g7.set (c+8) _ (by omega) (by omega) (ah _)
 have TB191:testBit 191 7=true:=by decide+kernel
 refine b90 (M1:=M6.set (c+8) (af 121 [.i .i64 0,.i .i64 0,.b false])) (b:=c+8) (ty:=121) (z:=[.i .i64 0,.i .i64 0,.b false]) (e:=[.i .i64 E1,.i .i64 E2,.b E3]) _ _ _ _ _ _ _ _ _ _ _ _ _ (by rw[List.all_cons,List.all_nil,TB191];rfl) (by rw[iy,mW]) (am _ _ _) rfl rfl rfl rfl rfl (by rw[bv _ _ _ _ (by omega),bv _ _ _ _ (by omega),cI]) (gB.ok okX).free ?_
 intro N1 hN1
 rw[l8]at hN1
 have hb8:N1.get (c+8)=some (af 121 [.i .i64 E1,.i .i64 E2,.b E3]):=by rw[hN1];exact am _ _ _
 have gN:Gr (c+1) X c5 N1:=⟨gB.le,fun b hb=>by rw[hN1,ag _ _ (by omega)];exact g7.old b hb,fun b hb=>by rw[hN1,ag _ _ (by omega)];exact g7.new b hb⟩
 have k0:load1 F N1 c 0=some v:=(gN.load1 (by omega) _).trans (aq m0 0)
 have okN:=gN.ok okX
 have hXN:=hX.grow gN
 have n1:=hl.len
 have mx:=hl.max
 have e1:load1 F N1 (c+8) 0=some (.i .i64 E1):=aq hb8 0
 have e2:load1 F N1 (c+8) 1=some (.i .i64 E2):=aq hb8 1
 have sb:cZ .sub (.i .i64 (l.length:Int)) (.i .i64 1)=some (.i .i64 ((l.length:Int)-1)):=uT _ _ (by omega) (by omega)
 clear hN1 hb8 gB hE hlk lk3 lk2 hnm
 rcases hkn with⟨hk,rfl⟩|⟨hk,rfl⟩
 ·obtain⟨p,r,rfl⟩:=C4 hk;obtain⟨b,o,x,hbx,ia,ld,_,hw⟩:=cA.at1 hXN 0 (by simp);have ia0:iN 1 v (.i .i64 0)=some (.p b o):=ia .i64;have hw:dt F N1 c5 x [p]:=hw;obtain⟨b1,o1,hb1,ia1,ld1,ld2⟩:=MB hw.1 0 (by simp);have ia1:iN 2 x (.i .i64 0)=some (.p b1 o1):=ia1 .i64;have ld2:load1 F N1 b1 (o1+1)=some (.b p.2):=ld2;have hre:oU ([p]::r)=(!p.2&&(decide (E1≤((([p]::r).length:Nat):Int)-1)&&((decide (E2<0)||decide (((([p]::r).length:Nat):Int)-1≤E2))&&([p]::r).all eN))):=by unfold oU;rw[hk];rfl
  rw[hre];clear hre;have hL82:=fun(hX:eM F N1 c5 v ([p]::r))=>w82 Φ h82 h90 h83 h61 h77 okN hX hs;obtain⟨L,hL⟩:∃L:Nat,L=([p]::r).length:=⟨_,rfl⟩
  rw[←hL]at n1 sb⊢;obtain⟨s,st⟩:=p;have ld2:load1 F N1 b1 (o1+1)=some (.b st):=ld2;cases st with
  |true=>
   simp only[WX,Zm,k0,n1,sb,ia0,ld,ia1,ld2,aW];exact⟨rfl,gX.trans gN⟩
  |false=>
   cases hD1:decide (E1≤(L:Int)-1)with
   |false=>
    simp only[WX,Zm,k0,n1,sb,e1,ia0,ld,ia1,ld2,aW,hD1];exact⟨rfl,gX.trans gN⟩
   |true=>
    cases hD2:decide (E2<0)with
    |true=>
     simp only[WX,Zm,k0,n1,sb,e1,e2,ia0,ld,ia1,ld2,aW,hD1,hD2];refine av ((hL82 hXN).mono ?_);rintro r M2 c2 ⟨rfl,g8⟩;simp only[WX];exact⟨by simp,gX.trans (gN.trans g8)⟩
    |false=>
     cases hD3:decide ((L:Int)-1≤E2)with
     |true=>
      simp only[WX,Zm,k0,n1,sb,e1,e2,ia0,ld,ia1,ld2,aW,hD1,hD2,hD3];refine av ((hL82 hXN).mono ?_);rintro r M2 c2 ⟨rfl,g8⟩;simp only[WX];exact⟨by simp,gX.trans (gN.trans g8)⟩
     |false=>
      simp only[WX,Zm,k0,n1,sb,e1,e2,ia0,ld,ia1,ld2,aW,hD1,hD2,hD3];exact⟨rfl,gX.trans gN⟩
 ·have hre:oU l=false:=by unfold oU;rw[hk]
  rw[hre];simp only[WX,Zm,k0,n1,sb];exact gX.trans gN
abbrev Yq(u:List (Option V))(x1 x3 x4 x54 x55 x56:V):T:=(.n (.n (.n (.n (aJ u 63 31 95 15 79 47 111) (uO u 7) (.n (ek u 71 39 103) (uO u 23) (.n (eg u 87) (some x55) (eg u 119)))) (some x3) (.n (aJ u 67 35 99 19 83 51 115) (uO u 11) (aJ u 75 43 107 27 91 59 123))) (some x1) (.n (.n (aJ u 65 33 97 17 81 49 113) (uO u 9) (aJ u 73 41 105 25 89 57 121)) (uO u 5) (.n (aJ u 69 37 101 21 85 53 117) (uO u 13) (aJ u 77 45 109 29 93 61 125)))) (uO u 0) (.n (.n (.n (aJ u 64 32 96 16 80 48 112) (uO u 8) (.n (ek u 72 40 104) (uO u 24) (.n (eg u 88) (some x56) (eg u 120)))) (some x4) (.n (aJ u 68 36 100 20 84 52 116) (uO u 12) (aJ u 76 44 108 28 92 60 124))) (uO u 2) (.n (.n (aJ u 66 34 98 18 82 50 114) (uO u 10) (aJ u 74 42 106 26 90 58 122)) (uO u 6) (.n (.n (ek u 70 38 102) (uO u 22) (.n (eg u 86) (some x54) (eg u 118))) (uO u 14) (aJ u 78 46 110 30 94 62 126)))))
def TZ:CC:=(.reg [(aa a1 (.bx 39 6 z0)),(qq a2 (.mv xF))])
def YG:=wu TZ.eq_1
def U0:CC:=(.dreg 12 [(0,0,(qq a7 (.fa 2 z1))),(1,1,(qq a8 (.fa 0 z7))),(2,3,(qq a9 (.ld1 z8))),(3,7,(qq dV (.ln .slice z9))),(4,15,(qq fo (.bi .gtr fT (x6 0)))),(5,0,(qq fF (.fa 3 z1))),(6,32,(qq eO (.fa 0 eP))),(7,96,(qq gp (.ld1 ej))),(8,224,(qq eC (.ln .slice i9))),(9,480,(qq i7 (.bi .gtr i5 (x6 0)))),(10,31,(qq a3 (.mv ec))),(11,2047,(qq a4 (.mv j3)))])
def YH:=wu U0.eq_1
def U1:CC:=(.reg [(qq fY (.fa 5 z1)),(qq gG (.ld1 gy)),(qq kG (.ln .slice ju)),(qq jI (.bi .lss mA (x6 1))),(qq i4 (.mv mB)),(aH lw (.fa 5 z1) i4),(aH kH (.ld1 nL) i4),(aH jJ (.ln .slice mC) i4),(aH mq (.bi .gtr oJ (x6 6)) i4),(qq lL (.pk nK xT qh)),(qq iH (.mv pL)),(aH nO (.fa 4 z1) iH),(aH kI (.ld1 qi) iH),(aH lM (.mv qj) iH),(aR mr (.mv z4) lM),(aR sf (.un .not sk) lM),(aH sg (.pk rZ vN xF) iH),(qq pM (.pk nE xT yo)),(qq lm (.mv vO)),(aH sP (.mv z3) lm),(aH po (.mv yp) lm),(aR mt (.fa 2 z1) po),(aR nP (.ldn 1 w6) po),(k9 sQ (.call 61 [w7]) po),(aR sw (.un .not yq) po),(aH sR (.pk ua vQ xF) lm),(qq sS (.pk vP xT yr)),(qq qy (.mv yt)),(aH ui (.mv z4) qy),(aH nQ (.mv yI) qy),(aR uj (.fa 3 z1) nQ),(aR vR (.ldn 1 yJ) nQ),(k9 wh (.call 61 [BA]) nQ),(aR wj (.un .not FI) nQ),(aH wl (.pk FH FJ xF) qy),(qq sy (.pk w8 xT Dj))])
def YI:=wu U1.eq_1
def U2:CC:=(.seq (.reg [(qq a2 (.mv xF))]) .ret)
def pm:=wu U2.eq_1
def U3:CC:=(.seq U1 (.cond Dk U2 .skip))
def YJ:=wu U3.eq_1
def U4:CC:=(.reg [(qq yQ (.fa 5 z1)),(qq BG (.ld1 G5)),(qq BH (.ln .slice G6)),(qq yR (.mv (x6 0)))])
def b59:=wu U4.eq_1
def U5:CC:=(.reg [(qq BI (.bi .lss FK Ow))])
def b60:=wu U5.eq_1
def U6:CC:=(.reg [(qq BJ (.iaS 1 G6 FK)),(qq vT (.ldn 1 Oy)),(aa a6 (.al 42 [.l0])),(ez (.st 1 z6 Oz))])
def b61:=wu U6.eq_1
def U7:CC:=(.reg [(qq BK (.ldn 1 z6)),(ee vU (.call 62 [OA])),(qq BL (.un .not P4)),(qq vV (.mv OB)),(aH BM (.ldn 1 z6) vV),(gK yS (.call 63 [P5]) vV),(aH qz (.mv FM) vV),(aR uk (.fa 5 z1) qz),(aR yT (.ld1 G9) qz),(aR yU (.ln .slice FN) qz),(aR yV (.bi .gtr Ga (x6 1)) qz),(aR yz (.mv OC) qz),(aH yW (.mv z3) yz),(aR fG (.pk Gb xT OD) qz),(aR yA (.mv w9) qz),(aH BN (.mv z4) yA),(aR BO (.pk Gc xT OE) qz),(aH BP (.pk G7 OG xF) vV),(qq BQ (.pk FL xT OH))])
def b62:=wu U7.eq_1
def Ij:CC:=(.seq (.reg [(qq a2 (.mv xF))]) .ret)
def ar8:=wu Ij.eq_1
def Ik:CC:=(.seq U7 (.cond OI Ij .skip))
def ar9:=wu Ik.eq_1
def Il:CC:=(.reg [(qq BR (.bi .add FK (x6 1))),(qq yR (.mv Gd))])
def as0:=wu Il.eq_1
def Im:CC:=(.seq (.cond Ox .skip (.exit 0)) (.seq (.block 1 (.seq U6 Ik)) Il))
def as1:=wu Im.eq_1
def Io:CC:=(.seq (.reg [(qq a2 (.mv xT))]) .ret)
def as2:=wu Io.eq_1
def uy:CC:=(.seq (.seq U4 (.block 0 (.loop (.seq U5 Im)))) Io)
def as3:=wu uy.eq_1
def c40:CF:= .mk 7 [.t a2] (.seq TZ (.seq U0 (.seq U3 uy)))
theorem e40(v0:V):bA 7 [v0]=(.n Nk (some v0) Nk):=rfl
def Pg:=ai @e40 (ai @YG (ai @YH (ai @YI (ai @pm (ai @YJ (ai @b59 (ai @b60 (ai @b61 (ai @b62 (ai @ar8 (ai @ar9 (ai @as0 (ai @as1 (ai @as2 (@as3)))))))))))))))
def yD(n:Nat)(io:Bool)(c:hU):Bool:=oU c&& !(Q6 c&&(decide (1<n)||io))
def hasW(w:List Pc):Bool:=decide (0<w.length)
def kl(p:fm):Bool:= !decide (p.cmds.length<1)&&(!decide (6<p.cmds.length)&&(!(p.beh&& !hasW p.out)&&(!(hasW p.inp&& !eN p.inp)&&(!(hasW p.out&& !eN p.out)&&p.cmds.all (yD p.cmds.length (hasW p.inp||hasW p.out))))))
theorem XN(n:Nat):decide ((1:Int)<(n:Int))=decide (1<n):=by congr 1;exact propext (by omega)
theorem m40(Φ:Nat→Option CF)(h63:Φ 63=some PU)(h62:Φ 62=some KW)(h80:Φ 80=some L0)(h81:Φ 81=some L4)(h82:Φ 82=some OY)(h90:Φ 90=some L5)(h83:Φ 83=some FX)(h61:Φ 61=some Ec)(h77:Φ 77=some (.orc (bh h77))){F:RO}{M:Mem}{c c2:Nat}(ok:cU F M c2)(hcc:c<c2){vc:V}{cs:List hU}(hc:iw F M c2 vc cs)(hs:∀x∈cs,Gh x)(A5:load1 F M c 5=some vc)(hi ho:Bool)(u:List (Option V))(Q:Ex→St→Prop)
 (hQ:∀(u:List (Option V)) M' c',Gr c2 M c' M'→Q .ret (.mk ((b07 u (.b (cs.all (yD cs.length (hi||ho)))))) [] M' c')):
 Wp uy (K Φ none 40 F) (.mk ((Yp u (.p c 0) (.b hi) (.b ho))) [] M c2) Q:=by
 have n1:=hc.len
 have mx:=hc.max
 simp only[WX,Pg,A5,n1]
 obtain⟨I,hI⟩:∃I:Nat→St→Prop,∀n s',I n s'↔(∃(i c1:Nat) (M1:Mem) (u:List (Option V)),n=cs.length-i∧i≤cs.length∧s'= .mk ((Yq u (.p c 0) (.b hi) (.b ho) vc (.i .i64 (cs.length:Int)) (.i .i64 (i:Int)))) [] M1 c1∧Gr c2 M c1 M1∧cs.all (yD cs.length (hi||ho))=(cs.drop i).all (yD cs.length (hi||ho))):=⟨fun n s'=>_,fun _ _=>Iff.rfl⟩
 refine bS I ?_ cs.length _ ((hI _ _).2 ⟨0,_,_,(X1 (G1 (X1 (G2 (cH (ce (X1 (G2 (G1 (cF (X4 (X2 [])))))))))))),rfl,az _,rfl,Gr.refl ok,rfl⟩)
 intro n s' hIs
 obtain⟨i,c1,M1,u,rfl,hle,rfl,gr1,hb⟩:=(hI _ _).1 hIs
 clear hIs
 by_cases hlt:i<cs.length
 ·have q8:cZ .add (.i .i64 (i:Int)) (.i .i64 1)=some (.i .i64 ((i+1:Nat):Int)):=by rw[bF _ _ (by omega) (by omega)];simp
  have d1:decide ((i:Int)<(cs.length:Int))=true:=aj (by omega);obtain⟨b,o,x,hbx,ia,_,ld,hw⟩:=cA.at1 (hc.grow gr1) i hlt;have ia:=ia .i64;have hw:eM F M1 c1 x cs[i]:=hw;have hd:cs.drop i=cs[i]::cs.drop (i+1):=cQ hlt;rw[hd,List.all_cons]at hb;have hsi:=hs cs[i] (List.getElem_mem _);generalize cs[i]=w at hb hw hsi;obtain⟨y1,y2,y3⟩:=hw.one;have hG:∀v,flatten (V.g [v])=[v]:=fun _=>rfl;have ok1:=gr1.ok ok;have hle1:=gr1.le;have sn:bN (M1.set c1 (af 42 [.l0])) c1 0 [x]=some (M1.set c1 (af 42 [x])):=fh rfl y3;have m1:(M1.set c1 (af 42 [x])).get c1=some (af 42 [x]):=am _ _ _;have g1':=(Gr.refl ok1).set c1 (af 42 [x]) (ah _) (aA _) (aG _);have g1:=gr1.trans g1';have kx:loadN F (M1.set c1 (af 42 [x])) c1 0 1=some [x]:=bj m1 1 rfl;generalize M1.set c1 (af 42 [x])=Y at sn m1 g1' g1 kx;have hwY:=hw.grow g1';have okY:=g1.ok ok;simp only[WX,Pg,d1,ia,ld,hG,sn,kx];refine av ((w62 Φ h62 h80 h81 h82 h90 h83 h61 h77 okY hwY hsi).mono ?_);rintro r M2 c3 ⟨rfl,g2⟩;cases hk:oU w with
  |false=>
   simp only[WX,Pg];rw[show cs.all (yD cs.length (hi||ho))=false by rw[hb];unfold yD;rw[hk];rfl]at hQ;exact hQ (X2 (G1 (cF (cH (ce (X8 (X4 []))))))) _ _ (g1.trans g2)
  |true=>
   have ok2:=g2.ok okY;have hle2:=g2.le;have kx2:loadN F M2 c1 0 1=some [x]:=(g2.loadN (by omega) _ _).trans kx;simp only[WX,kx2];refine av ((w63 Φ h63 h80 h81 ok2 (hwY.grow g2)).mono ?_);rintro r M3 c4 ⟨rfl,g3⟩;have g4:=g1.trans (g2.trans g3);have A5':load1 F M3 c 5=some vc:=(g4.load1 hcc _).trans A5;have GOOD:(Q6 w&&(decide (1<cs.length)||(hi||ho)))=false→ ∀u:List (Option V),I (cs.length-(i+1)) (.mk ((Yq u (.p c 0) (.b hi) (.b ho) vc (.i .i64 (cs.length:Int)) (.i .i64 ((i+1:Nat):Int)))) [] M3 c4):=fun hg u=>(hI _ _).2 ⟨i+1,_,_,(X1 (G1 (X1 (G2 (cH (ce (X1 (G2 (G1 (cF (X4 (X2 [])))))))))))),rfl,hlt,rfl,g4,by rw[hb];unfold yD;rw[hk,hg];rfl⟩;have BAD:(Q6 w&&(decide (1<cs.length)||(hi||ho)))=true→cs.all (yD cs.length (hi||ho))=false:=by
    intro hg;rw[hb,show yD cs.length (hi||ho) w=false by unfold yD;rw[hk,hg];rfl];rfl
   cases hch:Q6 w with
   |false=>
    simp only[WX,Pg,q8];exact⟨cs.length-(i+1),by omega,GOOD (by rw[hch];rfl) (X1 (G1 (X1 (G2 (cH (ce (X1 (G2 (G1 (cF (X4 (X2 []))))))))))))⟩
   |true=>
    cases hD:decide (1<cs.length)with
    |true=>
     have d2:=(XN cs.length).trans hD;rw[BAD (by rw[hch,hD];rfl)]at hQ;simp only[WX,Pg,A5',n1,d2];exact hQ (X2 (G1 (cF (cH (ce (X8 (X4 []))))))) _ _ g4
    |false=>
     have d2:=(XN cs.length).trans hD;cases hi with
     |true=>
      rw[BAD (by rw[hch];simp)]at hQ;simp only[WX,Pg,A5',n1,d2];exact hQ (X2 (G1 (cF (cH (ce (X8 (X4 []))))))) _ _ g4
     |false=>
      cases ho with
      |true=>
       rw[BAD (by rw[hch];simp)]at hQ;simp only[WX,Pg,A5',n1,d2];exact hQ (X2 (G1 (cF (cH (ce (X8 (X4 []))))))) _ _ g4
      |false=>
       simp only[WX,Pg,A5',n1,d2,q8];exact⟨cs.length-(i+1),by omega,GOOD (by rw[hD];simp) (X1 (G1 (X1 (G2 (cH (ce (X1 (G2 (G1 (cF (X4 (X2 []))))))))))))⟩
 ·obtain rfl:i=cs.length:=by omega
  have d1:decide ((cs.length:Int)<(cs.length:Int))=false:=ak (by omega);rw[dG]at hb;simp only[WX,Pg,d1];rw[hb]at hQ;exact hQ (X2 (G1 (cF (cH (ce (X8 (X4 []))))))) _ _ gr1
end
end Go.Proofs.YtmbpllipombieaaDoor.Ev
