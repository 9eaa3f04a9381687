/- What is proved here: pieces of the evaluator's soundness: if the evaluator comes to a value, the model's run comes to it, for every world and tape; no conditions beyond the hypotheses of each theorem. -/
import Derived.Test.YtmbpllipombieaaDoorEv8
set_option linter.unusedSimpArgs false
set_option linter.unusedVariables false
set_option linter.defProp false
set_option maxRecDepth 10000
set_option maxHeartbeats 16000000
namespace Go.Proofs.YtmbpllipombieaaDoor.Ev
open Go
noncomputable section
abbrev YI(u:List (Option V))(x0 x1 x4:V):T:=(.n (.n (aQ u 15 7 23 3 19 11 27) (some x1) (aQ u 17 9 25 5 21 13 29)) (some x0) (.n (.n (ec u 16 8 24) (some x4) (ec u 20 12 28)) (uO u 2) (aQ u 18 10 26 6 22 14 30)))
def TR:CC:=(.reg [(aa a4 (.bx 59 2 z1)),(qq a5 (.mv xF))])
def TS:CC:=(.reg [(qq a6 (.ld1 z2)),(qq a7 (.ldn 2 z4)),(aa a8 (.bsl 59 1 2 [(.s 0 0),.l0] [(0,z7)])),(ee a9 (.app 59 2 40 z6 z8)),(ez (.st 1 z2 z9))])
def TU:CC:=(.reg [(qq a5 (.mv xT))])
def c29:CF:= .mk 4 [.t a5] (.seq TR (.seq TS (.seq TU .ret)))
theorem e29(v0 v1 v2:V):bz 4 [v0,v1,v2]=(.n (.n mL (some v1) mL) (some v0) (.n mL (some v2) mL)):=rfl
def B29:=ai @e29 (ai (wu TR.eq_1) (ai (wu TS.eq_1) (wu TU.eq_1)))
def TV:CC:=(.reg [(qq a3 (.mv xF))])
def TW:CC:=(.reg [(qq a4 (.ld1 z1)),(qq a5 (.ln .slice z4)),(qq a6 (.bi .eql z5 (x6 0))),(qq a7 (.mv z6)),(aK a8 (.ld1 z1) a7),(aK a9 (.iaS 2 z8 (x6 0)) a7),(aK dX (.fa 0 z9) a7),(aK fy (.ld1 gc) a7),(aK fR (.mv z0) a7),(aK fc (.bi .neq eg eX) a7),(qq gQ (.pk z7 xT ey)),(qq eN (.mv iH)),(aK iw (.mv z0) eN),(aK gk (.bi .eql jP (.c (.s 0 0))) eN),(qq gS (.pk iq xT gH))])
def TX:CC:=(.reg [(qq a3 (.mv xF))])
def TY:CC:=(.seq TW (.cond ir (.seq TX .ret) .skip))
def TZ:CC:=(.reg [(qq lj (.ld1 z1)),(qq ke (.slL 2 lQ (some (x6 1)) none none)),(ez (.st 1 z1 mR))])
def U0:CC:=(.reg [(qq a3 (.mv xT))])
def Le:CF:= .mk 5 [.t a3] (.seq TV (.seq TY (.seq TZ (.seq U0 .ret))))
theorem e30(v0 v1:V):bz 5 [v0,v1]=(.n (.n iE (some v1) iE) (some v0) jY):=rfl
def B30:=ai @e30 (ai (wu TV.eq_1) (ai (wu TW.eq_1) (ai (wu TX.eq_1) (ai (wu TY.eq_1) (ai (wu TZ.eq_1) (wu U0.eq_1))))))
def U1:CC:=(.reg [(qq a5 (.ld1 z1)),(qq a6 (.ln .slice z5)),(qq a7 (.bi .gtr z6 (x6 0))),(qq a8 (.mv z7)),(aW a9 (.ld1 z1) a8),(aW dX (.iaS 2 z9 (x6 0)) a8),(aW fy (.fa 0 gc) a8),(aW fR (.ld1 eg) a8),(aW fc (.bi .eql eX (.c (.s 0 0))) a8),(qq gQ (.pk z8 ey xF)),(qq eN (.mv iH)),(aW iw (.mv z4) eN),(aW gk (.ln .slice jP) eN),(aW gS (.mv z0) eN),(aW lj (.bi .lss gH ir) eN),(qq ke (.pk iq lQ xF))])
def DF:=wu U1.eq_1
def U2:CC:=(.seq U1 (.cond mR .skip (.exit 0)))
def DG:=wu U2.eq_1
def U3:CC:=(.reg [(qq gT (.mv z4)),(qq lL (.ld1 z1)),(qq kl (.iaS 2 og (x6 0))),(qq kf (.fa 1 mW)),(qq mS (.ldn 1 pf)),(aa mg (.bsl 36 1 1 [.l0] [(0,qQ)])),(ee iU (.app 36 1 24 oc qx)),(qq a4 (.mv qy))])
def aV9:=wu U3.eq_1
def U4:CC:=(.reg [(qq mT (.ld1 z1)),(qq ll (.slL 2 qR (some (x6 1)) none none)),(ez (.st 1 z1 sN))])
def aW0:=wu U4.eq_1
def U5:CC:=(.block 0 (.loop (.seq U2 (.block 1 (.seq U3 U4)))))
def aW1:=wu U5.eq_1
def I3:CC:=(.reg [(qq mh (.mv z4)),(qq a3 (.mv sY))])
def aW2:=wu I3.eq_1
def U6:CC:=(.seq (.reg [(qq a4 (.mv (.c .l0)))]) (.seq U5 (.seq I3 .ret)))
def aW3:=wu U6.eq_1
def U7:CC:=(.seq (.reg [(qq a3 (.mv (.c .l0)))]) U6)
def aW4:=wu U7.eq_1
def Cj:CF:= .mk 5 [.t a3] U7
theorem e31(v0 v1:V):bz 5 [v0,v1]=(.n (.n iE (some v1) iE) (some v0) jY):=rfl
def B31:=ai @e31 (ai @DF (ai @DG (ai @aV9 (ai @aW0 (ai @aW1 (ai @aW2 (ai @aW3 (@aW4))))))))
def U8:CC:=(.reg [(qq a5 (.ld1 z0)),(ee a6 (.cv z5 [(x6 1)])),(qq a7 (.ln .slice z6)),(qq a8 (.mv (x6 0)))])
def U9:CC:=(.reg [(qq a9 (.bi .lss z8 z7))])
def Ua:CC:=(.reg [(qq dX (.iaS 1 z6 z8)),(qq fy (.ldn 1 gc)),(aa a4 (.al 36 [.l0])),(ez (.st 1 z4 eg))])
def Ub:CC:=(.reg [(qq fR (.ldn 1 z4)),(ez (.st 1 z2 eX))])
def Uc:CC:=(.reg [(qq fc (.bi .add z8 (x6 1))),(qq a8 (.mv ey))])
def Ud:CC:=(.seq (.cond z9 .skip (.exit 0)) (.seq (.block 1 (.seq Ua (.seq Ub .ret))) Uc))
def Ue:CC:=(.reg [(ez (.st 1 z1 xT))])
def Uf:CC:=(.reg [(qq gQ (.bld [.l0] [])),(ez (.st 1 z2 iH))])
def Ug:CC:=(.seq (.seq U8 (.block 0 (.loop (.seq U9 Ud)))) (.seq Ue (.seq Uf .ret)))
def I4:CC:=(.seq (.reg [(aa a2 (.al 36 [.l0]))]) Ug)
def Ph:CF:= .mk 4 [.cn a2 1] I4
theorem e32(v0 v1:V):bz 4 [v0,v1]=(.n (.n mL (some v1) mL) (some v0) iE):=rfl
def B32:=ai @e32 (ai (wu U8.eq_1) (ai (wu U9.eq_1) (ai (wu Ua.eq_1) (ai (wu Ub.eq_1) (ai (wu Uc.eq_1) (ai (wu Ud.eq_1) (ai (wu Ue.eq_1) (ai (wu Uf.eq_1) (ai (wu Ug.eq_1) (wu I4.eq_1))))))))))
abbrev T2:=List UInt8×List Pc
def Bk(lo cs:Nat)(Ms M':Mem):Prop:=∀x,lo≤x→x<cs→M'.get x=Ms.get x
def DV(lo cs:Nat)(Ms:Mem)(v:V)(w:List Pc):Prop:=∀(F:RO) M',Bk lo cs Ms M'→dO F M' cs v w
def uD(lo cs:Nat)(Ms:Mem)(v:V)(ts:List T2):Prop:=∃es:List (List V),(∀(F:RO) M',Bk lo cs Ms M'→cq F M' cs 2 v es)∧es.length=ts.length∧ts.length≤1000000∧ ∀i (h:i<es.length) (h':i<ts.length),∃pv,es[i]=[sV ts[i].1,pv]∧DV lo cs Ms pv ts[i].2
theorem cq.upc{F:RO}{M:Mem}{c c' sz:Nat}{v:V}{es:List (List V)}(h:cq F M c sz v es)(hc:c≤c'):cq F M c' sz v es:=by
 rcases h with⟨a,b|⟨b,o,hv,hb,hcs⟩⟩
 ·exact⟨a,.inl b⟩
 ·exact⟨a,.inr ⟨b,o,hv,by omega,hcs⟩⟩
theorem dO.upc{F:RO}{M:Mem}{c c':Nat}{v:V}{w:List Pc}(h:dO F M c v w)(hc:c≤c'):dO F M c' v w:=⟨h.1.upc hc,h.2⟩
theorem uD.len{lo cs:Nat}{Ms:Mem}{v:V}{ts:List T2}(h:uD lo cs Ms v ts):sU v=some (.i .i64 (ts.length:Int)):=by
 obtain⟨es,h1,h2,_⟩:=h
 rw[←h2];exact(h1 [] Ms fun _ _ _=>rfl).len
theorem uD.head{F:RO}{lo cs:Nat}{Ms M:Mem}{v:V}{t:T2}{r:List T2}(h:uD lo cs Ms v (t::r))(hB:Bk lo cs Ms M):
 ∃b o pv,b<cs∧j6 2 v (.i .i64 0)=some (.p b o)∧load1 F M b o=some (sV t.1)∧loadN F M b (o+1) 1=some [pv]∧DV lo cs Ms pv t.2:=by
 obtain⟨es,h1,h2,h3,h4⟩:=h
 have h0:0<es.length:=by rw[h2];simp
 obtain⟨b,o,a1,a2,a3⟩:=(h1 F M hB).at 0 h0
 obtain⟨pv,e,hw⟩:=h4 0 h0 (by simp)
 rw[e]at a3
 have c0:=a3 0 (by simp)
 have c1:=a3.loadN 1 1 (by simp) (by decide)
 exact⟨b,o,pv,a1,a2 .i64,c0,c1,hw⟩
theorem uD.tail{lo cs:Nat}{Ms:Mem}{v:V}{t:T2}{r:List T2}(h:uD lo cs Ms v (t::r)):∃v',tj 2 v (some (.i .i64 1)) none none=some v'∧uD lo cs Ms v' r∧bF v'=true∧flatten v'=[v']∧aC [v']=true:=by
 obtain⟨es,h1,h2,h3,h4⟩:=h
 have hne:es≠[]:=by intro e;rw[e]at h2;cases h2
 obtain⟨v',e1,e2⟩:=Ds (h1 [] Ms fun _ _ _=>rfl) hne
 refine⟨v',e1,⟨es.tail,fun F M' hM'=>?_,by rw[List.length_tail,h2];rfl,by rw[av]at h3;omega,fun i hi hi'=>?_⟩,o5 e2⟩
 ·obtain⟨v2,e3,e4⟩:=Ds (h1 F M' hM') hne;rw[e1]at e3;obtain rfl:=ae e3;exact e4
 ·have:=h4 (i+1) (by rw[List.length_tail]at hi;omega) (by simpa using hi');simp only[List.getElem_cons_succ]at this;rw[List.getElem_tail];exact this
def isS(s:List UInt8):List T2→Option (List T2)
 |t::r=>if t.1=s∧s≠[]then some r else none
 |[]=>none
theorem bX(s:List UInt8)(t:T2)(r:List T2):isS s (t::r)=if t.1=s∧s≠[]then some r else none:=rfl
theorem w30(Φ:Nat→Option CF)(h:Φ 30=some Le){F:RO}{lo cs bl c:Nat}{Ms M:Mem}{v:V}{ts:List T2}(hB:Bk lo cs Ms M)(mb:M.get bl=some (af 71 [v]))(hT:uD lo cs Ms v ts)(s:List UInt8):
 Calls Φ F 30 [sV s,.p bl 0] M c fun r M' c'=>c'=c∧((∃rs v',isS s ts=some rs∧r= .b true∧M'=M.set bl (af 71 [v'])∧uD lo cs Ms v' rs)∨(isS s ts=none∧r= .b false∧M'=M)):=by
 refine aI h ?_
 have l0:load1 F M bl 0=some v:=aq mb 0
 have n1:=hT.len
 cases ts with
 |nil=>
  have d0:decide (((0:Nat):Int)=0)=true:=rfl;simp only[WX,B30,l0,n1,d0];exact .inr rfl
 |cons t r=>
  have d0:decide (((r.length+1:Nat):Int)=0)=false:=ak (by omega);have n1:sU v=some (.i .i64 ((r.length+1:Nat):Int)):=n1;obtain⟨b,o,pv,hb,ia,lt,lp,hw⟩:=hT.head (F:=F) hB;have qn:=r6 t.1 s;have qe:=r5 s [];have e0:V.s 0 0=sV []:=rfl;rw[←e0]at qe;by_cases h1:t.1=s
  ·rw[aj h1]at qn;by_cases h2:s=[]
   ·rw[aj h2]at qe;simp only[WX,B30,l0,n1,d0,ia,lt,qn,qe,be];exact .inr (by rw[bX,ab (fun h=>h.2 h2)])
   ·rw[ak h2]at qe;obtain⟨v',e1,e2,w1,w2,w3⟩:=hT.tail;have st:=aH mb 0 [v'] (by simp) w3;simp only[WX,B30,l0,n1,d0,ia,lt,qn,qe,e1,w2,st,be];exact .inl ⟨r,v',by rw[bX,ac ⟨h1,h2⟩],rfl,e2⟩
  ·rw[ak h1]at qn;simp only[WX,B30,l0,n1,d0,ia,lt,qn,be];exact .inr (by rw[bX,ab (fun h=>h1 h.1)])
def dI:Nat→List T2→fx×List T2
 |0,ts=>([],ts)
 |_+1,[]=>([],[])
 |m+1,t::r=>if t.1=[]then(t.2::(dI m r).1,(dI m r).2)else([],t::r)
def wI(lo cs:Nat)(Ms M:Mem)(c0 c:Nat)(v:V)(l:fx):Prop:=∃b es,bm M c0 c b 36 1 v es∧es.length=l.length∧l.length≤1000000∧ ∀i (h:i<es.length) (h':i<l.length),∃pv,es[i]=[pv]∧DV lo cs Ms pv l[i]
theorem w31(Φ:Nat→Option CF)(h:Φ 31=some Cj){F:RO}{lo cs bl c:Nat}{Ms M:Mem}{v:V}{ts:List T2}(ok:cV F M c)(hcs:cs≤c)(hbl:bl<lo)(hlc:lo≤cs)(hB:Bk lo cs Ms M)(mb:M.get bl=some (af 71 [v]))(hT:uD lo cs Ms v ts)(m:Nat)(hm:m≤1000000):
 Calls Φ F 31 [.i .i64 (m:Int),.p bl 0] M c fun r M' c'=>iS (fun x=>x=bl) c M c' M'∧wI lo cs Ms M' c c' r (dI m ts).1∧ ∃v',M'.get bl=some (af 71 [v'])∧uD lo cs Ms v' (dI m ts).2:=by
 refine aI h ?_
 simp only[WX,B31]
 obtain⟨I,hI⟩:∃I:Nat→St→Prop,∀n s',I n s'↔(∃(c1 k b:Nat) (M1:Mem) (ov v1:V) (cu:fx) (es:List (List V)) (tr:List T2) (u:List (Option V)),n=tr.length∧s'= .mk ((YI u (.i .i64 (m:Int)) (.p bl 0) ov)) [] M1 c1∧iS (fun x=>x=bl) c M c1 M1∧bm M1 c c1 b 36 1 ov es∧es.length=cu.length∧cu.length+k=m∧(∀i (h:i<es.length) (h':i<cu.length),∃pv,es[i]=[pv]∧DV lo cs Ms pv cu[i])∧M1.get bl=some (af 71 [v1])∧uD lo cs Ms v1 tr∧dI m ts=(cu++(dI k tr).1,(dI k tr).2)):=⟨fun n s'=>_,fun _ _=>Iff.rfl⟩
 refine bT I ?_ ts.length _ ((hI _ _).2 ⟨c,m,0,M,.l0,v,[],[],ts,(G2 (X2 (G1 (cw (X8 (X2 [])))))),rfl,rfl,iS.of (Gr.refl ok),bm.nil,rfl,by simp,fun i h _=>(by cases h),mb,hT,rfl⟩)
 intro n s' hIs
 obtain⟨c1,k,b,M1,ov,v1,cu,es,tr,u,rfl,rfl,gx,hA,hel,hk,hes,mb1,hT1,hwe⟩:=(hI _ _).1 hIs
 clear hIs
 have hB1:Bk lo cs Ms M1:=fun x h1 h2=>(gx.old x (by omega) (by omega)).trans (hB x h1 h2)
 have l0:load1 F M1 bl 0=some v1:=aq mb1 0
 have n1:=hT1.len
 have hlA:=(hA.sl (F:=F)).len
 have FIN:∀u:List (Option V),dI k tr=([],tr)→Wp I3 (K Φ none 31 F) (.mk ((YI u (.i .i64 (m:Int)) (.p bl 0) ov)) [] M1 c1) (qp .ret (K Φ none 31 F) (lO F [.t (.l (.l .h))] fun r M' c'=>iS (fun x=>x=bl) c M c' M'∧wI lo cs Ms M' c c' r (dI m ts).1∧ ∃v',M'.get bl=some (af 71 [v'])∧uD lo cs Ms v' (dI m ts).2)):=by
  intro u he;rw[he,bQ]at hwe;simp only[WX,B31];rw[hwe];exact⟨gx,⟨b,es,hA,hel,by show cu.length≤_;omega,hes⟩,v1,mb1,hT1⟩
 cases tr with
 |nil=>
  have d0:decide ((0:Int)<((0:Nat):Int))=false:=rfl;simp only[WX,DF,DG,l0,n1,d0];exact FIN (G2 (X2 (G1 (cw (X8 (X2 [])))))) (by cases k<;>rfl)
 |cons t r=>
  have d0:decide ((0:Int)<((r.length+1:Nat):Int))=true:=aj (by omega);have n1:sU v1=some (.i .i64 ((r.length+1:Nat):Int)):=n1;obtain⟨tb,o,pv,htb,ia,lt,lp,hw⟩:=hT1.head (F:=F) hB1;have qe:=r5 t.1 [];have e0:V.s 0 0=sV []:=rfl;rw[←e0]at qe;by_cases h1:t.1=[]
  ·rw[aj h1]at qe;cases k with
   |zero=>
    have d1:decide ((es.length:Int)<(m:Int))=false:=ak (by omega);simp only[WX,DF,DG,l0,n1,d0,ia,lt,qe,hlA,d1,be];exact FIN (G2 (X2 (G1 (cw (X8 (X2 [])))))) rfl
   |succ k=>
    have d1:decide ((es.length:Int)<(m:Int))=true:=aj (by omega);obtain⟨v',e1,e2,w1,w2,w3⟩:=hT1.tail;obtain⟨p1,p2,p3⟩:=(hw F M1 hB1).one;have hG:∀v,flatten (V.g [v])=[v]:=fun _=>rfl;have ok1:cV F M1 c1:=gx.ok ok (fun b hb hx=>by rw[hx];exact⟨_,mb⟩);have hle:=gx.le;have gZ:=(Gr.refl ok1).set c1 (dq [V.l0] 36 [pv]) (ag _) (aA _) (aP _);have hy:cq F (M1.set c1 (dq [V.l0] 36 [pv])) (c1+1) 1 (.l c1 0 1 1) [[pv]]:=S4 (d:=[V.l0]) (ty:=36) (by rw[am];rfl) (aA _) (fun e he=>by rw[List.mem_singleton]at he;subst he;rfl) rfl;have gA:Gr c M1 (c1+1) (M1.set c1 (dq [V.l0] 36 [pv])):=⟨by omega,fun x hx=>gZ.old x (by omega),gZ.new⟩
    simp only[WX,B31,l0,n1,d0,ia,lt,qe,hlA,d1,lp,hG,p1,be];refine aw ((jo (bytes:=24) (hA.gr gZ) gA (by decide) hy (by show aC [pv]=true;exact p3) (gD (by simp only[av,aV];omega) (by simp only[av,aV];omega))).mono ?_);rintro ov' M2 c2 ⟨b',hA2,g2,hle2,hfr2,hb2⟩;have mb2:M2.get bl=some (af 71 [v1]):=(g2.old bl (by omega)).trans mb1;have l2:load1 F M2 bl 0=some v1:=aq mb2 0;have st:=aH mb2 0 [v'] (by simp) w3;simp only[WX,B31,l2,e1,w2,st];have hA3:bm (M2.set bl (af 71 [v'])) c c2 b' 36 1 ov' (es++[[pv]]):=kp hA2 (by omega);refine⟨r.length,aA _,(hI _ _).2 ⟨c2,k,b',_,ov',v',cu++[t.2],es++[[pv]],r,(G2 (X2 (G1 (cw (X8 (X2 [])))))),rfl,rfl,?_,hA3,by rw[aF,aF,hel];rfl,by rw[aF];simp only[av,aV];omega,?_,am _ _ _,e2,?_⟩⟩
    ·refine⟨by omega,fun x hx hn=>?_,fun x hx=>?_⟩
     ·rw[ah _ _ hn,g2.old x hx];exact gx.old x hx hn
     ·rw[ah _ _ (by omega)];exact g2.new x hx
    ·intro i h1 h2;by_cases hi:i<es.length
     ·obtain⟨pv0,a1,a2⟩:=hes i hi (by omega);exact⟨pv0,by rw[ff hi];exact a1,by rw[ff (by omega)];exact a2⟩
     ·rw[aF]at h1;simp only[av,aV]at h1;obtain rfl:i=es.length:=by omega
      exact⟨pv,by rw[fe (ag _)];simp,by rw[fe (by omega)];simp only[hel,Nat.sub_self,List.getElem_cons_zero];exact hw⟩
    ·rw[hwe,dI,ac h1];simp
  ·rw[ak h1]at qe;simp only[WX,DF,DG,l0,n1,d0,ia,lt,qe,be];exact FIN (G2 (X2 (G1 (cw (X8 (X2 [])))))) (by cases k with|zero=>rfl|succ k=>rw[dI,ab h1])
def AH:List T2→Option (List Pc×List T2)
 |t::r=>if t.1=[]then some (t.2,r)else none
 |[]=>none
theorem j9(t:T2)(r:List T2):AH (t::r)=if t.1=[]then some (t.2,r)else none:=rfl
theorem OD(ts:List T2):dI 1 ts=match AH ts with|some (w,r)=>([w],r)|none=>([],ts):=by
 cases ts with
 |nil=>rfl
 |cons t r=>
  rw[dI,j9];split<;>rfl
theorem w32(Φ:Nat→Option CF)(h:Φ 32=some Ph)(h31:Φ 31=some Cj){F:RO}{lo cs bl b6 b7 c:Nat}{Ms M:Mem}{v:V}{y:Bool}{ts:List T2}(ok:cV F M c)(hcs:cs≤c)(hbl:bl<lo)(hlc:lo≤cs)(hb6:b6<c)(hb7:b7<c)(h67:cs≤b6)(h66:b6≠b7)(hB:Bk lo cs Ms M)(mb:M.get bl=some (af 71 [v]))(m6:M.get b6=some (af 4 [.b y]))(m7:M.get b7=some (af 74 [.f 31 [] [.p bl 0]]))(hT:uD lo cs Ms v ts):
 Calls Φ F 32 [.p b7 0,.p b6 0] M c fun r M' c'=>iS (fun x=>x=bl∨x=b6) c M c' M'∧((∃w rs v' pv,AH ts=some (w,rs)∧r= .g [pv]∧bF pv=true∧DV lo cs Ms pv w∧M'.get bl=some (af 71 [v'])∧uD lo cs Ms v' rs∧M'.get b6=some (af 4 [.b y]))∨(AH ts=none∧r= .g [.l0]∧(∃v',M'.get bl=some (af 71 [v'])∧uD lo cs Ms v' ts)∧M'.get b6=some (af 4 [.b true]))):=by
 refine aI h ?_
 have gX:=(Gr.refl ok).set c (af 36 [.l0]) (ag _) (aA _) (aP _)
 have mc:(M.set c (af 36 [.l0])).get c=some (af 36 [.l0]):=am _ _ _
 have l7:load1 F (M.set c (af 36 [.l0])) b7 0=some (.f 31 [] [.p bl 0]):=aq ((gX.old b7 hb7).trans m7) 0
 simp only[WX,B32,l7]
 generalize M.set c (af 36 [.l0])=X at gX mc⊢
 have okX:=gX.ok ok
 refine aw ((w31 Φ h31 okX (by omega) hbl hlc (fun x a b=>(gX.old x (by omega)).trans (hB x a b)) ((gX.old bl (by omega)).trans mb) hT 1 (by decide)).mono ?_)
 rintro r M2 c2 ⟨g2,hW,v',mb2,hT2⟩
 have m62:M2.get b6=some (af 4 [.b y]):=(g2.old b6 (by omega) (by omega)).trans ((gX.old b6 hb6).trans m6)
 have mc2:M2.get c=some (af 36 [.l0]):=(g2.old c (by omega) (by omega)).trans mc
 have hle2:=g2.le
 have ok2:cV F M2 c2:=g2.ok okX (fun b hb hx=>by rw[hx];exact⟨_,(gX.old bl (by omega)).trans mb⟩)
 have GX:iS (fun x=>x=bl∨x=b6) c M c2 M2:=(iS.of gX).trans (g2.wk fun b _ hx=> .inl hx)
 rw[OD]at hW hT2
 have hG:∀v,flatten (V.g [v])=[v]:=fun _=>rfl
 obtain⟨ob,es,hA,hel,_,hes⟩:=hW
 have hS:=hA.sl (F:=F)
 have n2:=hS.len
 have BOX:∀(M':Mem) (w:V) (z:bv),M'=(M2.set c2 z).set c (af 36 [w])→M'.get bl=M2.get bl∧M'.get b6=M2.get b6∧iS (fun x=>x=bl∨x=b6) c M (c2+1) M':=by
  intro M' w z e;subst e;refine⟨by rw[ah _ _ (by omega),ah _ _ (by omega)],by rw[ah _ _ (by omega),ah _ _ (by omega)],by omega,fun x hx hn=>?_,fun x hx=>?_⟩
  ·rw[ah _ _ (by omega),ah _ _ (by omega)];exact GX.old x hx hn
  ·rw[ah _ _ (by omega),ah _ _ (by omega)];exact GX.new x (by omega)
 cases ho:AH ts with
 |some wr=>
  obtain⟨w,rs⟩:=wr;rw[ho]at hel hes hT2;dsimp only at hel hes hT2;have hel:es.length=1:=hel;obtain⟨pv,e1,hw⟩:=hes 0 (by omega) (by simp);have hw:DV lo cs Ms pv w:=hw;obtain⟨p1,p2,p3⟩:=(hw F Ms fun _ _ _=>rfl).one;obtain⟨b,o,hb,ia,cl⟩:=hS.at 0 (by omega);rw[e1]at cl;have ia:j6 1 r (.i .i64 0)=some (.p b o):=ia .i64;have lp:loadN F M2 b o 1=some [pv]:=by have:=cl.load (by simp);exact this
  rw[hel]at n2;have d1:decide ((0:Int)<((1:Nat):Int))=true:=rfl;have sn:bK (M2.set c2 (af 36 [.l0])) c2 0 [pv]=some (M2.set c2 (af 36 [pv])):=eQ rfl p3;have l4:loadN F (M2.set c2 (af 36 [pv])) c2 0 1=some [pv]:=bc (am _ _ _) 1 rfl;have mcx:(M2.set c2 (af 36 [pv])).get c=some (af 36 [.l0]):=(ah _ _ (by omega)).trans mc2;have sc:bK (M2.set c2 (af 36 [pv])) c 0 [pv]=some ((M2.set c2 (af 36 [pv])).set c (af 36 [pv])):=aH mcx 0 [pv] (by simp) p3;have lr:loadN F ((M2.set c2 (af 36 [pv])).set c (af 36 [pv])) c 0 1=some [pv]:=bc (am _ _ _) 1 rfl;obtain⟨B1,B2,B3⟩:=BOX _ pv _ rfl;simp only[WX,reduceCtorEq,n2];rw[iG];simp only[WX,B32,d1,ia,lp,hG,sn,l4,sc,lr];exact⟨B3,w,rs,v',pv,rfl,rfl,p1,hw,B1.trans mb2,hT2,B2.trans m62⟩
 |none=>
  rw[ho]at hel hT2;dsimp only at hel hT2;have hel:es.length=0:=hel;rw[hel]at n2;have d1:decide ((0:Int)<((0:Nat):Int))=false:=rfl;have s6:bK M2 b6 0 [.b true]=some (M2.set b6 (af 4 [.b true])):=aH m62 0 [.b true] (by simp) rfl;have mc3:(M2.set b6 (af 4 [.b true])).get c=some (af 36 [.l0]):=(ah _ _ (by omega)).trans mc2;have sc:bK (M2.set b6 (af 4 [.b true])) c 0 [.l0]=some ((M2.set b6 (af 4 [.b true])).set c (af 36 [.l0])):=aH mc3 0 [.l0] (by simp) rfl;have lr:loadN F ((M2.set b6 (af 4 [.b true])).set c (af 36 [.l0])) c 0 1=some [.l0]:=bc (am _ _ _) 1 rfl;simp only[WX,reduceCtorEq,n2];rw[iG];simp only[WX,B32,d1,s6,sc,lr,hG];refine⟨⟨by omega,fun x hx hn=>?_,fun x hx=>?_⟩,.inr ⟨⟨v',?_,hT2⟩,?_⟩⟩
  ·rw[ah _ _ (by omega),ah _ _ (fun e=>hn (.inr e))];exact GX.old x hx hn
  ·rw[ah _ _ (by omega),ah _ _ (by omega)];exact GX.new x (by omega)
  ·rw[ah _ _ (by omega),ah _ _ (by omega),mb2]
  ·rw[ah _ _ (by omega)];exact am _ _ _
def DU(F:RO)(tl:List T2)(c:Nat)(M:Mem)(bl:Nat)(k:Nat)(M1:Mem)(c1:Nat):Prop:=cV F M1 c1∧iS (fun x=>x=bl) c M c1 M1∧ ∃(v:V) (b:Nat) (es:List (List V)),M1.get bl=some (af 71 [v])∧bm M1 c c1 b 59 2 v es∧es.length=k∧ ∀i (h:i<es.length),∃(h':i<tl.length) (pv:V) (lo hi:Nat),es[i]=[sV tl[i].1,pv]∧bF pv=true∧c≤lo∧hi≤c1∧(b<lo∨hi≤b)∧(∀F:RO,ko F M1 lo hi 2 pv (kL tl[i].2))∧tl[i].2.length≤MC
theorem DU.start{F:RO}{tl:List T2}{c bl:Nat}{M:Mem}(ok:cV F M c)(mb:M.get bl=some (af 71 [.l0])):DU F tl c M bl 0 M c:=
 ⟨ok,iS.of (Gr.refl ok),.l0,0,[],mb,bm.nil,rfl,fun i h=>(by cases h)⟩
theorem DU.grow{F:RO}{tl:List T2}{c bl k c1 c2:Nat}{M M1 M2:Mem}(hbl:bl<c)(h:DU F tl c M bl k M1 c1)(g:Gr c1 M1 c2 M2):DU F tl c M bl k M2 c2:=by
 obtain⟨ok,gx,v,b,es,mb,hA,hl,he⟩:=h
 have hle:=gx.le
 have hle2:=g.le
 obtain⟨b',hA',hb'⟩:∃b',bm M2 c c2 b' 59 2 v es∧(b'=b∨es=[]):=by
  rcases hA with⟨a0,⟨a1,a2⟩|⟨a1,a2,a3,a4⟩⟩
  ·exact⟨b,⟨a0,.inl ⟨a1,a2⟩⟩,.inl rfl⟩
  ·exact⟨b,bm.gr ⟨a0,.inr ⟨a1,a2,a3,a4⟩⟩ g,.inl rfl⟩
 refine⟨g.ok ok,gx.trans (iS.of g),v,b',es,(g.old bl (by omega)).trans mb,hA',hl,fun i hi=>?_⟩
 obtain⟨h',pv,lo,hi2,e1,e2,e3,e4,e5,e6,e7⟩:=he i hi
 have hbb:b'=b:=hb'.resolve_right (by intro e;rw[e]at hi;cases hi)
 exact⟨h',pv,lo,hi2,e1,e2,e3,by omega,by rw[hbb];exact e5,fun F=>(e6 F).up (ag _) (ag _) (fun x _ hx=>g.old x (by omega)),e7⟩
theorem w29(Φ:Nat→Option CF)(h:Φ 29=some c29){F:RO}{tl:List T2}{c bl k c1 b0 at_:Nat}{M M1:Mem}{pv:V}(hbl:bl<c)(hI:DU F tl c M bl k M1 c1)(hk:k<tl.length)(hkl:k≤400000)(hp1:bF pv=true)(hpl:tl[k].2.length≤MC)(hA:bm M1 c c1 b0 64 2 pv (kL tl[k].2)):
 Calls Φ F 29 [.i .i64 (at_:Int),.g [sV tl[k].1,pv],.p bl 0] M1 c1 fun r M' c'=>r= .b true∧DU F tl c M bl (k+1) M' c':=by
 refine aI h ?_
 have hI0:=hI
 obtain⟨ok,gx,v,b,es,mb,hA1,hl,he⟩:=hI
 have hle:=gx.le
 have hF:∀w,flatten (sV w)=[sV w]:=fun _=>rfl
 have hO:∀w,bF (sV w)=true:=fun _=>rfl
 have hG2:flatten (V.g [sV tl[k].1,pv])=[sV tl[k].1,pv]:=rfl
 have hAll:aC [sV tl[k].1,pv]=true:=by rw[aE,aE,ce,hp1];rfl
 have g1:=(Gr.refl ok).set c1 (af 59 [sV tl[k].1,pv]) (ag _) (aA _) (aP _)
 have m1:(M1.set c1 (af 59 [sV tl[k].1,pv])).get c1=some (af 59 [sV tl[k].1,pv]):=am _ _ _
 have l1:loadN F (M1.set c1 (af 59 [sV tl[k].1,pv])) c1 0 2=some [sV tl[k].1,pv]:=bc m1 2 rfl
 have lb:load1 F (M1.set c1 (af 59 [sV tl[k].1,pv])) bl 0=some v:=aq ((g1.old bl (by omega)).trans mb) 0
 generalize hX:M1.set c1 (af 59 [sV tl[k].1,pv])=X at g1 m1 l1 lb
 have okX:=g1.ok ok
 have gZ:=(Gr.refl okX).set (c1+1) (dq [V.s 0 0,V.l0] 59 [sV tl[k].1,pv]) (ag _) (aA _) (aP _)
 have hy:cq F (X.set (c1+1) (dq [V.s 0 0,V.l0] 59 [sV tl[k].1,pv])) (c1+2) 2 (.l (c1+1) 0 1 1) [[sV tl[k].1,pv]]:=S4 (d:=[V.s 0 0,V.l0]) (ty:=59) (by rw[am];rfl) (aA _) (fun e he=>by rw[List.mem_singleton]at he;subst he;rfl) rfl
 have GZ:Gr c1 M1 (c1+2) (X.set (c1+1) (dq [V.s 0 0,V.l0] 59 [sV tl[k].1,pv])):=g1.trans gZ
 have gA:Gr c M1 (c1+2) (X.set (c1+1) (dq [V.s 0 0,V.l0] 59 [sV tl[k].1,pv])):=⟨by omega,fun x hx=>GZ.old x (by omega),GZ.new⟩
 obtain⟨b1,hA2,hb1⟩:∃b1,bm (X.set (c1+1) (dq [V.s 0 0,V.l0] 59 [sV tl[k].1,pv])) c (c1+2) b1 59 2 v es∧((b1=b∧b<c1∧M1.get b=some (qm 59 es.flatten))∨(es=[]∧c1≤b1)):=by
  rcases hA1 with⟨a0,⟨a1,a2⟩|⟨a1,a2,a3,a4⟩⟩
  ·exact⟨c1,⟨a0,.inl ⟨a1,a2⟩⟩,.inr ⟨a1,ag _⟩⟩
  ·exact⟨b,bm.gr ⟨a0,.inr ⟨a1,a2,a3,a4⟩⟩ GZ,.inl ⟨rfl,a2,a4⟩⟩
 simp only[WX,Nat.reduceAdd,B29,hG2,hAll,hX,l1,lb]
 refine aw ((jo (bytes:=40) hA2 gA (by decide) hy (by show aC [sV tl[k].1,pv]=true;exact hAll) (gD (by simp only[av,aV];omega) (by simp only[av,aV];omega))).mono ?_)
 rintro v' M2 c2 ⟨b',hA3,g3,hle3,hfr,hb'⟩
 have w3:bF v'=true∧flatten v'=[v']∧aC [v']=true:=by
  rcases hA3 with⟨_,⟨_,rfl⟩|⟨_,_,rfl,_⟩⟩<;>exact⟨rfl,rfl,rfl⟩
 obtain⟨w1,w2,w3⟩:=w3
 have mb2:M2.get bl=some (af 71 [v]):=(g3.old bl (by omega)).trans mb
 have st:=aH mb2 0 [v'] (by simp) w3
 simp only[WX,B29,w2,st]
 have OLD:∀x,x<c1→x≠bl→x≠b1→(M2.set bl (af 71 [v'])).get x=M1.get x:=fun x h1 h2 h3=>by
  rw[ah _ _ h2,hfr x (by omega) h3];exact GZ.old x h1
 have gF:iS (fun x=>x=bl∨x=b1) c1 M1 c2 (M2.set bl (af 71 [v'])):=⟨by omega,fun x h1 h2=>OLD x h1 (fun e=>h2 (.inl e)) (fun e=>h2 (.inr e)),fun x hx=>by rw[ah _ _ (by omega)];exact g3.new x hx⟩
 have okF:=gF.ok ok fun x hx hh=>by
  rcases hh with rfl|rfl
  ·exact⟨_,mb⟩
  ·rcases hb1 with⟨rfl,_,hm⟩|⟨_,hc⟩
   ·exact⟨_,hm⟩
   ·omega
 refine⟨okF,⟨by omega,fun x hx hn=>?_,gF.new⟩,v',b',es++[[sV tl[k].1,pv]],am _ _ _,kp hA3 (by omega),by rw[aF,hl];rfl,fun i hi=>?_⟩
 ·rw[ah _ _ hn];exact(g3.old x hx).trans (gx.old x hx hn)
 ·by_cases hie:i<es.length
  ·obtain⟨h',pv',lo,hi2,e1,e2,e3,e4,e5,e6,e7⟩:=he i hie;have hb1':b1<lo∨hi2≤b1:=by
    rcases hb1 with⟨rfl,_,_⟩|⟨_,hc⟩
    ·exact e5
    ·omega
   exact⟨h',pv',lo,hi2,by rw[ff hie];exact e1,e2,e3,by omega,by omega,fun F=>(e6 F).up (ag _) (ag _) (fun x h1 h2=>OLD x (by omega) (by omega) (by omega)),e7⟩
  ·rw[aF]at hi;simp only[av,aV]at hi;obtain rfl:i=es.length:=by omega
   subst hl;have ge:(es++[[sV tl[es.length].1,pv]])[es.length]'(by simp)=[sV tl[es.length].1,pv]:=by rw[fe (ag _)];simp
   rcases hA with⟨a0,⟨a1,a2⟩|⟨a1,a2,a3,a4⟩⟩
   ·refine⟨hk,pv,c,c,ge,hp1,ag _,by omega,by omega,?_,hpl⟩;rw[a2,a1];exact fun F=>bm.own (c0:=c) (b:=0) (ty:=64) bm.nil
   ·have hne:b0≠b1:=by
     rcases hb1 with⟨rfl,_,hm⟩|⟨_,hc⟩
     ·intro e;subst e;rw[a4]at hm;have:=ae hm;unfold qm at this;injection this with this
      exact absurd this (by decide)
     ·omega
    have hO1:∀F:RO,ko F M1 b0 (b0+1) 2 pv (kL tl[es.length].2):=fun F=>bm.own (c0:=b0) (b:=b0) (ty:=64) ⟨a0,.inr ⟨ag _,aA _,a3,a4⟩⟩;exact⟨hk,pv,b0,b0+1,ge,hp1,a1,by omega,by omega,fun F=>(hO1 F).up (ag _) (ag _) (fun x h1 h2=>OLD x (by omega) (by omega) (by omega)),hpl⟩
theorem DU.done{F:RO}{tl:List T2}{c bl c1:Nat}{M M1:Mem}(hbl:bl<c)(h:DU F tl c M bl tl.length M1 c1)(hl:tl.length≤1000000):∃v,M1.get bl=some (af 71 [v])∧uD c c1 M1 v tl:=by
 obtain⟨ok,gx,v,b,es,mb,hA,hel,he⟩:=h
 refine⟨v,mb,es,fun F M' hM'=>(hA.own (F:=F)) M' hM',hel,hl,fun i hi hi'=>?_⟩
 obtain⟨h',pv,lo,hi2,e1,e2,e3,e4,e5,e6,e7⟩:=he i hi
 exact⟨pv,e1,fun F M' hM'=>⟨(e6 F M' fun x h1 h2=>hM' x (by omega) (by omega)).upc e4,e7⟩⟩
theorem eL{s:List UInt8}{ts r:List T2}(h:isS s ts=some r):r.length+1=ts.length:=by
 cases ts with
 |nil=>cases h
 |cons t q=>
  rw[bX]at h;split at h
  ·injection h with h;rw[h];rfl
  ·cases h
theorem oa:∀(m:Nat) (ts:List T2),(dI m ts).1.length+(dI m ts).2.length=ts.length
 |0,ts=>by simp[dI]
 |_+1,[]=>rfl
 |m+1,t::r=>by
  rw[dI];split
  ·have:=oa m r;simp only[av];omega
  ·simp
theorem sI:∀(m:Nat) (ts:List T2),ts.length≤m→dI m ts=dI ts.length ts
 |0,ts,h=>by rw[show ts.length=0 by omega]
 |_+1,[],_=>rfl
 |m+1,t::r,h=>by
  rw[av,dI,dI,sI m r (by simpa using h)]
def cj(ts:List T2):fx×List T2:=dI ts.length ts
def eW:Nat→List T2→List fx×List T2
 |0,ts=>([],ts)
 |f+1,ts=>match isS [124] ts with
  |some r=>((cj r).1::(eW f (cj r).2).1,(eW f (cj r).2).2)
  |none=>([],ts)
def cY(ts:List T2):List fx×List T2:=eW ts.length ts
theorem rR:∀(f g:Nat) (ts:List T2),ts.length≤f→ts.length≤g→eW f ts=eW g ts
 |0,g,ts,h,_=>by
  have:ts=[]:=List.length_eq_zero_iff.1 (by omega);subst this;cases g<;>rfl
 |f+1,0,ts,_,h=>by
  have:ts=[]:=List.length_eq_zero_iff.1 (by omega);subst this;rfl
 |f+1,g+1,ts,h1,h2=>by
  unfold eW;cases hs:isS [124] ts with
  |none=>rfl
  |some r=>
   have hl:=eL hs;have hw:=oa r.length r;have:(cj r).2.length≤r.length:=by unfold cj;omega
   dsimp only;rw[rR f g _ (by omega) (by omega)]
theorem rQ{ts r:List T2}(h:isS [124] ts=some r):cY ts=((cj r).1::(cY (cj r).2).1,(cY (cj r).2).2):=by
 have hl:=eL h
 have hw:=oa r.length r
 have h2:(cj r).2.length≤r.length:=by unfold cj;omega
 unfold cY
 rw[←hl,eW,h]
 dsimp only
 rw[rR r.length (cj r).2.length _ h2 (ag _)]
theorem mF{ts:List T2}(h:isS [124] ts=none):cY ts=([],ts):=by
 unfold cY
 cases hl:ts.length with
 |zero=>rfl
 |succ n=>rw[eW,h]
def redir(ts:List T2):List Pc×Bool×List T2:=match AH ts with
 |some (w,r)=>(w,false,r)
 |none=>([],true,ts)
def cQ(ts:List T2):List Pc×Bool×List T2:=match isS [60] ts with
 |some r=>redir r
 |none=>([],false,ts)
def dy(ts:List T2):Bool×List Pc×Bool×List T2:=match isS [62,62] ts with
 |some r=>(true,redir r)
 |none=>match isS [62] ts with
  |some r=>(false,redir r)
  |none=>(false,[],false,ts)
def iM(ts:List T2):Bool×List T2:=match isS [33] ts with
 |some r=>(true,r)
 |none=>(false,ts)
def cM(j:Int)(ts:List T2):eB×Bool×List T2:=
 (⟨j,(iM ts).1,(cQ (cj (iM ts).2).2).1,(dy (cY (cQ (cj (iM ts).2).2).2.2).2).2.1,(dy (cY (cQ (cj (iM ts).2).2).2.2).2).1,(cj (iM ts).2).1::(cY (cQ (cj (iM ts).2).2).2.2).1⟩,
   (cQ (cj (iM ts).2).2).2.1||(dy (cY (cQ (cj (iM ts).2).2).2.2).2).2.2.1,(dy (cY (cQ (cj (iM ts).2).2).2.2).2).2.2.2)
def ej(ts:List T2):Option (Int×List T2):=match isS [59] ts with
 |some r=>some (1,r)
 |none=>match isS [38,38] ts with
  |some r=>some (2,r)
  |none=>match isS [124,124] ts with
   |some r=>some (3,r)
   |none=>none
theorem oJ{ts r:List T2}{j:Int}(h:ej ts=some (j,r)):r.length<ts.length:=by
 unfold ej at h
 split at h
 ·rename_i q hq;have:=eL hq;injection h with h;injection h with _ h;subst h;omega
 ·split at h
  ·rename_i q hq;have:=eL hq;injection h with h;injection h with _ h;subst h;omega
  ·split at h
   ·rename_i q hq;have:=eL hq;injection h with h;injection h with _ h;subst h;omega
   ·cases h
theorem oY(ts:List T2):(redir ts).2.2.length≤ts.length:=by
 unfold redir
 cases ts with
 |nil=>exact ag _
 |cons t r=>
  rw[j9];split
  ·rename_i w q h;split at h
   ·injection h with h;injection h with _ h;subst h;simp
   ·cases h
  ·exact ag _
theorem xK(ts:List T2):(cQ ts).2.2.length≤ts.length:=by
 unfold cQ
 split
 ·rename_i r h;have:=eL h;have:=oY r;omega
 ·exact ag _
theorem MK(ts:List T2):(dy ts).2.2.2.length≤ts.length:=by
 unfold dy
 split
 ·rename_i r h;have:=eL h;have:=oY r;dsimp only;omega
 ·split
  ·rename_i r h;have:=eL h;have:=oY r;dsimp only;omega
  ·exact ag _
theorem Rl(ts:List T2):(iM ts).2.length≤ts.length:=by
 unfold iM
 split
 ·rename_i r h;have:=eL h;dsimp only;omega
 ·exact ag _
theorem jj(ts:List T2):(cj ts).2.length≤ts.length:=by
 have:=oa ts.length ts;unfold cj;omega
theorem ub:∀(f:Nat) (ts:List T2),(eW f ts).2.length≤ts.length
 |0,_=>ag _
 |f+1,ts=>by
  rw[eW];split
  ·rename_i r h;have:=eL h;have:=jj r;have:=ub f (cj r).2;dsimp only;omega
  ·exact ag _
theorem oQ(j:Int)(ts:List T2):(cM j ts).2.2.length≤ts.length:=by
 have h1:=Rl ts
 have h2:=jj (iM ts).2
 have h3:=xK (cj (iM ts).2).2
 have h4:(cY (cQ (cj (iM ts).2).2).2.2).2.length≤_:=ub _ _
 have h5:=MK (cY (cQ (cj (iM ts).2).2).2.2).2
 show(dy (cY (cQ (cj (iM ts).2).2).2.2).2).2.2.2.length≤_
 omega
def fi:Nat→Int→List T2→List eB×Bool×List T2
 |0,_,ts=>([],true,ts)
 |f+1,j,ts=>match ej (cM j ts).2.2 with
  |none=>([(cM j ts).1],(cM j ts).2.1,(cM j ts).2.2)
  |some (j',r)=>((cM j ts).1::(fi f j' r).1,(cM j ts).2.1||(fi f j' r).2.1,(fi f j' r).2.2)
theorem rH:∀(f g:Nat) (j:Int) (ts:List T2),ts.length<f→ts.length<g→fi f j ts=fi g j ts
 |0,_,_,_,h,_=>by omega
 |_,0,_,_,_,h=>by omega
 |f+1,g+1,j,ts,h1,h2=>by
  unfold fi;cases hj:ej (cM j ts).2.2 with
  |none=>rfl
  |some x=>
   obtain⟨j',r⟩:=x;have:=oJ hj;have:=oQ j ts;dsimp only;rw[rH f g j' r (by omega) (by omega)]
def dp(j:Int)(ts:List T2):List eB×Bool×List T2:=fi (ts.length+1) j ts
theorem rF{j:Int}{ts:List T2}(h:ej (cM j ts).2.2=none):dp j ts=([(cM j ts).1],(cM j ts).2.1,(cM j ts).2.2):=by
 unfold dp;rw[fi,h]
theorem rG{j j':Int}{ts r:List T2}(h:ej (cM j ts).2.2=some (j',r)):dp j ts=((cM j ts).1::(dp j' r).1,(cM j ts).2.1||(dp j' r).2.1,(dp j' r).2.2):=by
 have:=oJ h
 have:=oQ j ts
 unfold dp;rw[fi,h]
 dsimp only
 rw[rH ts.length (r.length+1) j' r (by omega) (by omega)]
def cU(s:List UInt8):List T2:=(tk s 0).map (·.2)
def fY(s:List UInt8):List eB×Int:=
 if 4096<s.length then([],3)
 else if ki s=false then([],4)
 else if((dp 0 (cU s)).2.1||(decide (0<(dp 0 (cU s)).2.2.length)|| !wt (dp 0 (cU s)).1))=true then([],4)
 else((dp 0 (cU s)).1,0)
def PC(M:Mem)(lo c ty sz:Nat)(v:V)(n:Nat):Prop:=(n=0∧v= .l0)∨ ∃b,lo≤b∧b<c∧(v= .l b 0 n n∨v= .u b 0 n 0 n)∧ ∃ex d t,M.get b=some (.cells ty (n*sz) ex 0 false d t)
def CmT(F:RO)(lo:Nat)(M:Mem)(c:Nat)(v:V)(l:fx):Prop:=fC F M c v l∧PC M lo c 36 1 v l.length
def SK(F:RO)(lo:Nat)(M:Mem)(c:Nat)(e:List V)(l:fx):Prop:=∃x,e=[x]∧CmT F lo M c x l
def Zo(F:RO)(lo:Nat)(M:Mem)(c:Nat)(v:V)(l:List fx):Prop:=cE F (SK F lo) 1 M c v l∧PC M lo c 42 1 v l.length
def Gx(F:RO)(lo:Nat)(M:Mem)(c:Nat)(e:List V)(p:eB):Prop:=∃vi vo vc,e=[.i .i64 p.join,.b p.nt,vi,vo,.b p.beh,vc]∧dO F M c vi p.inp∧dO F M c vo p.out∧Zo F lo M c vc p.cmds
def PB(F:RO)(lo:Nat)(M:Mem)(c:Nat)(v:V)(l:List eB):Prop:=cE F (Gx F lo) 6 M c v l∧PC M lo c 39 6 v l.length
theorem cE.imp{α:Type}{F:RO}{R R':Mem→Nat→List V→α→Prop}{sz:Nat}{M:Mem}{c c':Nat}{v:V}{l:List α}(h:cE F R sz M c v l)(hc:c≤c')(hR:∀e x,R M c e x→R' M c' e x):cE F R' sz M c' v l:=by
 obtain⟨es,h1,h2,h3,h4⟩:=h
 exact⟨es,h1.upc hc,h2,h3,fun i h h'=>hR _ _ (h4 i h h')⟩
theorem SK.c1{F:RO}{lo:Nat}{M:Mem}{c:Nat}(e:List V)(l:fx)(h:SK F lo M c e l):C1 F M c e l:=by obtain⟨x,h1,h2⟩:=h;exact⟨x,h1,h2.1⟩
theorem Zo.cs{F:RO}{lo:Nat}{M:Mem}{c:Nat}{v:V}{l:List fx}(h:Zo F lo M c v l):ka F M c v l:=cE.imp h.1 (ag _) SK.c1
theorem Gx.p1{F:RO}{lo:Nat}{M:Mem}{c:Nat}(e:List V)(p:eB)(h:Gx F lo M c e p):P1 F M c e p:=by
 obtain⟨vi,vo,vc,h1,h2,h3,h4⟩:=h;exact⟨vi,vo,vc,h1,h2,h3,h4.cs⟩
theorem PB.ln{F:RO}{lo:Nat}{M:Mem}{c:Nat}{v:V}{l:List eB}(h:PB F lo M c v l):iT F M c v l:=cE.imp h.1 (ag _) Gx.p1
theorem PC.up{M:Mem}{lo lo' c c' ty sz n:Nat}{v:V}(h:PC M lo c ty sz v n)(hl:lo'≤lo)(hc:c≤c'):PC M lo' c' ty sz v n:=by
 rcases h with h|⟨b,h1,h2,h3⟩
 ·exact .inl h
 ·exact .inr ⟨b,by omega,by omega,h3⟩
theorem W1.upc{F:RO}{M:Mem}{c c':Nat}(hc:c≤c')(e:List V)(w:List Pc)(h:W1 F M c e w):W1 F M c' e w:=by obtain⟨x,h1,h2⟩:=h;exact⟨x,h1,h2.upc hc⟩
theorem CmT.up{F:RO}{lo lo':Nat}{M:Mem}{c c':Nat}{v:V}{l:fx}(h:CmT F lo M c v l)(hl:lo'≤lo)(hc:c≤c'):CmT F lo' M c' v l:=⟨cE.imp h.1 hc (W1.upc hc),h.2.up hl hc⟩
theorem SK.up{F:RO}{lo lo':Nat}{M:Mem}{c c':Nat}(hl:lo'≤lo)(hc:c≤c')(e:List V)(l:fx)(h:SK F lo M c e l):SK F lo' M c' e l:=by obtain⟨x,h1,h2⟩:=h;exact⟨x,h1,h2.up hl hc⟩
theorem Zo.up{F:RO}{lo lo':Nat}{M:Mem}{c c':Nat}{v:V}{l:List fx}(h:Zo F lo M c v l)(hl:lo'≤lo)(hc:c≤c'):Zo F lo' M c' v l:=⟨cE.imp h.1 hc (SK.up hl hc),h.2.up hl hc⟩
theorem Gx.up{F:RO}{lo lo':Nat}{M:Mem}{c c':Nat}(hl:lo'≤lo)(hc:c≤c')(e:List V)(p:eB)(h:Gx F lo M c e p):Gx F lo' M c' e p:=by
 obtain⟨vi,vo,vc,h1,h2,h3,h4⟩:=h;exact⟨vi,vo,vc,h1,h2.upc hc,h3.upc hc,h4.up hl hc⟩
theorem zp{M:Mem}{c0 c b ty sz:Nat}{v:V}{es:List (List V)}(h:bm M c0 c b ty sz v es):PC M c0 c ty sz v es.length:=by
 have hl:=eF h.1
 rcases h with⟨h0,⟨rfl,rfl⟩|⟨h1,h2,rfl,h3⟩⟩
 ·exact .inl ⟨rfl,rfl⟩
 ·refine .inr ⟨b,h1,h2,.inr rfl,?_⟩;unfold qm at h3;rw[hl]at h3;exact⟨_,_,_,h3⟩
def uA(lo cs:Nat)(Ms M:Mem)(a b:Nat)(P:Mem→Prop):Prop:=∀M',Bk lo cs Ms M'→(∀x,a≤x→x<b→M'.get x=M.get x)→P M'
theorem uA.up{lo cs:Nat}{Ms M M2:Mem}{a b:Nat}{P:Mem→Prop}(h:uA lo cs Ms M a b P)(hM:∀x,a≤x→x<b→M2.get x=M.get x):uA lo cs Ms M2 a b P:=fun M' h1 h2=>h M' h1 fun x h3 h4=>(h2 x h3 h4).trans (hM x h3 h4)
theorem wI.own{F:RO}{lo cs:Nat}{Ms M:Mem}{c0 c:Nat}{v:V}{l:fx}(h:wI lo cs Ms M c0 c v l)(hc:cs≤c):uA lo cs Ms M c0 c fun M'=>CmT F c0 M' c v l:=by
 intro M' h1 h2
 obtain⟨b,es,hA,hl,hb,he⟩:=h
 have hA':bm M' c0 c b 36 1 v es:=by
  rcases hA with⟨a0,a|⟨a1,a2,a3,a4⟩⟩
  ·exact⟨a0,.inl a⟩
  ·exact⟨a0,.inr ⟨a1,a2,a3,by rw[h2 b a1 a2];exact a4⟩⟩
 refine⟨⟨es,hA'.sl,hl,bg hb (by decide),fun i h h'=>?_⟩,by rw[←hl];exact zp hA'⟩
 obtain⟨pv,e,hw⟩:=he i h h'
 exact⟨pv,e,(hw F M' h1).upc hc⟩
theorem wI.one{lo cs:Nat}{Ms M:Mem}{c0 c:Nat}{v:V}{l:fx}(h:wI lo cs Ms M c0 c v l):bF v=true∧flatten v=[v]∧aC [v]=true:=by
 obtain⟨b,es,hA,_⟩:=h
 exact o5 (hA.sl (F:=[]))
def DQ(M:Mem)(a c:Nat)(vc:V)(b:Nat)(es:List (List V)):Prop:=(∀e∈es,e.length=1)∧a≤b∧b<c∧((es.length=1∧vc= .l b 0 1 1∧M.get b=some (dq [V.l0] 42 es.flatten))∨(vc= .u b 0 es.length 0 es.length∧M.get b=some (qm 42 es.flatten)))
theorem DQ.one{M:Mem}{a c:Nat}{vc:V}{b:Nat}{es:List (List V)}(h:DQ M a c vc b es):bF vc=true∧flatten vc=[vc]∧aC [vc]=true:=by
 obtain⟨_,_,_,⟨_,rfl,_⟩|⟨rfl,_⟩⟩:=h<;>exact⟨rfl,rfl,rfl⟩
theorem DQ.up{M M2:Mem}{a c c2:Nat}{vc:V}{b:Nat}{es:List (List V)}(h:DQ M a c vc b es)(hc:c≤c2)(hM:M2.get b=M.get b):DQ M2 a c2 vc b es:=by
 obtain⟨h0,h1,h2,h3⟩:=h
 refine⟨h0,h1,by omega,?_⟩
 rw[hM];exact h3
theorem DQ.sl{F:RO}{M:Mem}{a c:Nat}{vc:V}{b:Nat}{es:List (List V)}(h:DQ M a c vc b es):cq F M c 1 vc es:=by
 obtain⟨h0,h1,h2,⟨h3,rfl,h4⟩|⟨rfl,h4⟩⟩:=h
 ·exact S4 (d:=[V.l0]) (ty:=42) h4 h2 h0 h3
 ·exact bm.sl (c0:=a) (b:=b) (ty:=42) ⟨h0,.inr ⟨h1,h2,rfl,h4⟩⟩
theorem DQ.sh{M:Mem}{a c:Nat}{vc:V}{b:Nat}{es:List (List V)}(h:DQ M a c vc b es):PC M a c 42 1 vc es.length:=by
 obtain⟨h0,h1,h2,⟨h3,rfl,h4⟩|⟨rfl,h4⟩⟩:=h
 ·refine .inr ⟨b,h1,h2,.inl (by rw[h3]),?_⟩;have hl:=eF h0;unfold dq at h4;rw[hl]at h4;exact⟨_,_,_,h4⟩
 ·exact zp ⟨h0,.inr ⟨h1,h2,rfl,h4⟩⟩
theorem QA{F:RO}{M1:Mem}{a c y b:Nat}{vc wv:V}{es:List (List V)}(h:DQ M1 a c vc b es)(ok1:cV F M1 c)(hw:bF wv=true)(hy:y<c)(hby:b≠y)(hyM:M1.get y=some (dq [V.l0] 42 [wv]))(hn:es.length≤1000000):
 kc (r4 F M1 c 42 1 24 vc (.l y 0 1 1)) fun v' M' c'=>∃b',DQ M' a c' v' b' (es++[[wv]])∧c≤c'∧(b'=b∨c≤b')∧(∀x,x<c→x≠b→M'.get x=M1.get x)∧(∀x,c'≤x→M'.get x=none):=by
 have hys:cq F M1 c 1 (.l y 0 1 1) [[wv]]:=S4 (d:=[V.l0]) (ty:=42) hyM hy (fun e he=>by rw[List.mem_singleton]at he;subst he;rfl) rfl
 have hw1:aC [[wv]].flatten=true:=by show aC [wv]=true;rw[aE,ce,hw];rfl
 have hall:∀e∈es++[[wv]],e.length=1:=by
  intro e he;rcases List.mem_append.1 he with he|he
  ·exact h.1 e he
  ·rw[List.mem_singleton]at he;subst he;rfl
 have hr:kR (es.length+[[wv]].length) 24=true:=gD (by simp only[av,aV];omega) (by simp only[av,aV];omega)
 have hsl:=h.sl (F:=F)
 obtain⟨h0,h1,h2,⟨h3,rfl,h4⟩|⟨rfl,h4⟩⟩:=h
 ·refine(Qf (bytes:=24) hsl h3 (by decide) hys (by simp) hw1 hr).mono ?_;rintro v' M' c' ⟨rfl,rfl,rfl⟩;refine⟨c,⟨hall,by omega,aA _,.inr ⟨rfl,am _ _ _⟩⟩,aP _,.inr (ag _),fun x hx _=>ah _ _ (by omega),fun x hx=>by rw[ah _ _ (by omega)];exact ok1.hiM x (by omega)⟩
 ·have hA:bm M1 a c b 42 1 (.u b 0 es.length 0 es.length) es:=⟨h0,.inr ⟨h1,h2,rfl,h4⟩⟩
  have hg:Gr a M1 c M1:=⟨by omega,fun _ _=>rfl,ok1.hiM⟩
  refine(jo (bytes:=24) hA hg (by decide) hys hw1 hr).mono ?_;rintro v' M' c' ⟨b',hA2,g2,hle,hf,hb'⟩;refine⟨b',?_,hle,hb',hf,g2.new⟩;rcases hA2 with⟨a0,⟨a1,a2⟩|⟨a1,a2,a3,a4⟩⟩
  ·exact absurd a1 (by simp)
  ·exact⟨hall,a1,a2,.inr ⟨a3,a4⟩⟩
abbrev ig(u:List (Option V))(x0 x2 x4 x5 x6 x7 x8 x9 x10 x11:V):T:=(.n (.n (.n (.n (aQ u 63 31 95 15 79 47 111) (some x7) (aQ u 71 39 103 23 87 55 119)) (uO u 3) (.n (aQ u 67 35 99 19 83 51 115) (some x11) (aQ u 75 43 107 27 91 59 123))) (uO u 1) (.n (.n (aQ u 65 33 97 17 81 49 113) (some x9) (aQ u 73 41 105 25 89 57 121)) (some x5) (.n (aQ u 69 37 101 21 85 53 117) (uO u 13) (aQ u 77 45 109 29 93 61 125)))) (some x0) (.n (.n (.n (aQ u 64 32 96 16 80 48 112) (some x8) (aQ u 72 40 104 24 88 56 120)) (some x4) (.n (aQ u 68 36 100 20 84 52 116) (uO u 12) (aQ u 76 44 108 28 92 60 124))) (some x2) (.n (.n (aQ u 66 34 98 18 82 50 114) (some x10) (aQ u 74 42 106 26 90 58 122)) (some x6) (.n (aQ u 70 38 102 22 86 54 118) (uO u 14) (aQ u 78 46 110 30 94 62 126)))))
def SY:CC:=(.reg [(aa a2 (.al 25 [.l0])),(qq a3 (.mv (x6 0)))])
def aV0:=wu SY.eq_1
def SZ:CC:=(.reg [(qq gQ (.mv z0)),(qq eN (.ln .str iH)),(qq iw (.bi .gtr iq (x6 4096)))])
def aV1:=wu SZ.eq_1
def T0:CC:=(.reg [(qq gk (.bld [.l0] [])),(ez (.st 1 z2 gH)),(qq a3 (.mv (x6 3)))])
def aV2:=wu T0.eq_1
def T1:CC:=(.seq SZ (.cond jP (.seq T0 .ret) .skip))
def aV3:=wu T1.eq_1
def T3:CC:=(.reg [(qq gS (.mv z0)),(qq lj (.mkf 29 [] [z4])),(ee ke (.call 28 [ir,lQ])),(qq gT (.un .not mR))])
def aV4:=wu T3.eq_1
def T4:CC:=(.reg [(qq lL (.bld [.l0] [])),(ez (.st 1 z2 og)),(qq a3 (.mv (x6 4)))])
def aV5:=wu T4.eq_1
def T5:CC:=(.seq T3 (.cond oc (.seq T4 .ret) .skip))
def aV6:=wu T5.eq_1
def T6:CC:=(.reg [(qq kl (.mkf 30 [] [z4])),(qq a5 (.mv mW))])
def aV7:=wu T6.eq_1
def T7:CC:=(.reg [(aa a6 (.al 4 [(.b false)])),(ez (.st 1 z6 xF))])
def aV8:=wu T7.eq_1
def GP:CC:=(.reg [(qq kf (.mkf 31 [] [z4])),(aa a7 (.al 74 [.f0])),(ez (.st 1 z7 pf))])
def ai2:=wu GP.eq_1
def GQ:CC:=(.reg [(qq mS (.mkf 32 [] [z7,z6])),(qq a8 (.mv qQ))])
def ai3:=wu GQ.eq_1
def GR:CC:=(.reg [(aa a9 (.al 25 [.l0]))])
def ai4:=wu GR.eq_1
def GS:CC:=(.reg [(qq dX (.mv (x6 0)))])
def ai5:=wu GS.eq_1
def GT:CC:=(.reg [(qq mg (.mv gc)),(qq iU (.mv z5)),(ee mT (.cv qy [(.c (.s 1 33))])),(qq ll (.bld [(.i .i64 0),(.b false),.l0,.l0,(.b false),.l0] [(0,1,qx),(1,1,qR)])),(aa fy (.al 39 [(.i .i64 0),(.b false),.l0,.l0,(.b false),.l0])),(ez (.st 6 eg sN))])
def ai6:=wu GT.eq_1
def uP:CC:=(.reg [(qq mh (.ld1 z7)),(qq mU (.mv z0)),(qq sQ (.ln .str sZ)),(ee sR (.cv sY [wy])),(qq qz (.bld [.l0] [(0,1,wz)])),(aa lM (.bsl 42 1 1 [.l0] [(0,wA)])),(qq tA (.fa 5 eg)),(ez (.st 1 yO we))])
def ai7:=wu uP.eq_1
def GU:CC:=(.reg [(qq pS (.mv z5)),(ee mV (.cv uz [(.c (.s 1 60))]))])
def ai8:=wu GU.eq_1
def GV:CC:=(.reg [(qq ou (.mv z8)),(ee tB (.cv wB [])),(qq t4 (.fa 2 eg)),(ez (.st 1 wg yP))])
def ai9:=wu GV.eq_1
def uQ:CC:=(.seq GU (.cond wf GV .skip))
def aj0:=wu uQ.eq_1
def GW:CC:=(.reg [(qq tC (.mv z5)),(ee tD (.cv yQ [(.c (.s 1 124))]))])
def aj1:=wu GW.eq_1
def zu:CC:=(.seq GW (.cond yR .skip (.exit 2)))
def aj2:=wu zu.eq_1
def zw:CC:=(.dreg 11 [(0,0,(qq qX (.fa 5 eg))),(1,1,(qq uJ (.ld1 wC))),(2,0,(qq ow (.ld1 z7))),(3,0,(qq uK (.mv z0))),(4,8,(qq wh (.ln .str zd))),(5,28,(ee wN (.cv DO [BS]))),(6,60,(qq wO (.bld [.l0] [(0,1,FX)]))),(7,124,(aa wj (.bsl 42 1 1 [.l0] [(0,FY)]))),(8,255,(ee sS (.app 42 1 24 zc BT))),(9,511,(qq wP (.fa 5 eg))),(10,1023,(ez (.st 1 Gj FZ)))])
def aj3:=wu zw.eq_1
def zx:CC:=(.reg [(qq BZ (.mv z5)),(ee C0 (.cv Gk [(.c (.s 2 15934))])),(qq zj (.fa 4 eg)),(ez (.st 1 G0 OQ))])
def aj4:=wu zx.eq_1
def GY:CC:=(.reg [(qq C2 (.fa 4 eg)),(qq C3 (.ld1 Pl)),(qq wl (.mv OR)),(aK C4 (.mv z5) wl),(mw wm (.cv OT [(.c (.s 1 62))]) wl),(qq wn (.pk OS xT Pm))])
def BB:=wu GY.eq_1
def zy:CC:=(.reg [(qq wo (.mv z8)),(ee C5 (.cv Gl [])),(qq zk (.fa 3 eg)),(ez (.st 1 G3 Pn))])
def aj5:=wu zy.eq_1
def zz:CC:=(.seq GY (.cond OU zy .skip))
def BC:=wu zz.eq_1
def zA:CC:=(.reg [(qq qY (.fa 0 z9)),(qq uL (.ld1 Gm)),(qq zl (.ldn 6 eg)),(aa zm (.bsl 39 1 6 [(.i .i64 0),(.b false),.l0,.l0,(.b false),.l0] [(0,Gp)])),(ee zn (.app 39 6 96 Gn Gq)),(qq wQ (.fa 0 z9)),(ez (.st 1 G5 OV))])
def aj6:=wu zA.eq_1
def H0:CC:=(.reg [(ee yW (.call 33 [])),(qq fA (.mv (x6 0)))])
def aj7:=wu H0.eq_1
def H1:CC:=(.reg [(qq yX (.bi .lss wD (x6 4)))])
def aj8:=wu H1.eq_1
def H2:CC:=(.cond OX .skip (.exit 4))
def aj9:=wu H2.eq_1
def H3:CC:=(.reg [(qq C6 (.mv wD)),(qq C7 (.ixA1 4 1 OW wD)),(qq fR (.mv OY)),(qq fc (.mv OZ))])
def ak0:=wu H3.eq_1
def H4:CC:=(.reg [(qq C8 (.mv z5)),(qq C9 (.mv ey)),(ee t5 (.cv P0 [P2]))])
def ak1:=wu H4.eq_1
def H5:CC:=(.reg [(qq DW (.mv eX)),(qq dX (.mv Po))])
def ak2:=wu H5.eq_1
def H6:CC:=(.cond P3 (.seq H5 (.exit 1)) .skip)
def ak3:=wu H6.eq_1
def H7:CC:=(.reg [(qq DX (.bi .add wD (x6 1))),(qq fA (.mv Pp))])
def ak4:=wu H7.eq_1
def H8:CC:=(.seq H2 (.seq (.block 5 (.seq H3 (.seq H4 H6))) H7))
def ak5:=wu H8.eq_1
def zB:CC:=(.seq (.seq H0 (.block 4 (.loop (.seq H1 H8)))) (.exit 0))
def ak6:=wu zB.eq_1
def zC:CC:=(.seq (.block 2 (.loop (.seq zu (.block 3 zw)))) (.seq (.seq zx zz) (.seq zA zB)))
def O4:=wu zC.eq_1
def H9:CC:=(.loop (.block 1 (.seq GT (.seq uP (.seq uQ zC)))))
def ak7:=wu H9.eq_1
def uR:CC:=(.reg [(qq qZ (.ld1 z6)),(qq wR (.mv Pq)),(aK GA (.ld1 z4) wR),(aK GB (.ln .slice Pt) wR),(aK GC (.bi .gtr Pu (x6 0)) wR),(qq GD (.pk Ps xT SD)),(qq wS (.mv Pv)),(aK GE (.ldn 1 z9) wS),(mw Pa (.call 17 [Px]) wS),(aK Pb (.bi .neq SE (x6 0)) wS),(qq Pd (.pk Pw xT SF))])
def O5:=wu uR.eq_1
def Ha:CC:=(.reg [(qq Pe (.bld [.l0] [])),(ez (.st 1 z2 SH)),(qq a3 (.mv (x6 4)))])
def ak8:=wu Ha.eq_1
def uS:CC:=(.cond SG (.seq Ha .ret) .skip)
def ak9:=wu uS.eq_1
def uT:CC:=(.reg [(qq Pf (.ldn 1 z9)),(ez (.st 1 z2 Zl)),(qq a3 (.mv (x6 0)))])
def al0:=wu uT.eq_1
def Hb:CC:=(.seq (.block 0 H9) (.seq (.seq uR uS) (.seq uT .ret)))
def al1:=wu Hb.eq_1
def Hc:CC:=(.seq GQ (.seq GR (.seq GS (.seq .skip Hb))))
def al2:=wu Hc.eq_1
def Hd:CC:=(.seq (.reg [(aa a4 (.al 71 [.l0]))]) (.seq T5 (.seq T6 (.seq T7 (.seq GP Hc)))))
def al3:=wu Hd.eq_1
def He:CC:=(.reg [(qq mg (.mv gc)),(qq iU (.mv z5)),(ee mT (.cv qy [(.c (.s 1 33))])),(qq ll (.bld [(.i .i64 0),(.b false),.l0,.l0,(.b false),.l0] [(0,1,qx),(1,1,qR)])),(aa fy (.al 39 [(.i .i64 0),(.b false),.l0,.l0,(.b false),.l0])),(ez (.st 6 eg sN))])
def al4:=wu He.eq_1
def Hf:CC:=(.reg [(qq mh (.ld1 z7)),(qq mU (.mv z0)),(qq sQ (.ln .str sZ)),(ee sR (.cv sY [wy])),(qq qz (.bld [.l0] [(0,1,wz)])),(aa lM (.bsl 42 1 1 [.l0] [(0,wA)])),(qq tA (.fa 5 eg)),(ez (.st 1 yO we))])
def al5:=wu Hf.eq_1
def Hg:CC:=(.reg [(qq pS (.mv z5)),(ee mV (.cv uz [(.c (.s 1 60))]))])
def al6:=wu Hg.eq_1
def Hh:CC:=(.reg [(qq ou (.mv z8)),(ee tB (.cv wB [])),(qq t4 (.fa 2 eg)),(ez (.st 1 wg yP))])
def al7:=wu Hh.eq_1
def Hi:CC:=(.seq Hg (.cond wf Hh .skip))
def al8:=wu Hi.eq_1
def Hj:CC:=(.reg [(qq tC (.mv z5)),(ee tD (.cv yQ [(.c (.s 1 124))]))])
def al9:=wu Hj.eq_1
def Hk:CC:=(.seq Hj (.cond yR .skip (.exit 2)))
def am0:=wu Hk.eq_1
def Hl:CC:=(.dreg 11 [(0,0,(qq qX (.fa 5 eg))),(1,1,(qq uJ (.ld1 wC))),(2,0,(qq ow (.ld1 z7))),(3,0,(qq uK (.mv z0))),(4,8,(qq wh (.ln .str zd))),(5,28,(ee wN (.cv DO [BS]))),(6,60,(qq wO (.bld [.l0] [(0,1,FX)]))),(7,124,(aa wj (.bsl 42 1 1 [.l0] [(0,FY)]))),(8,255,(ee sS (.app 42 1 24 zc BT))),(9,511,(qq wP (.fa 5 eg))),(10,1023,(ez (.st 1 Gj FZ)))])
def am1:=wu Hl.eq_1
def Hm:CC:=(.reg [(qq BZ (.mv z5)),(ee C0 (.cv Gk [(.c (.s 2 15934))])),(qq zj (.fa 4 eg)),(ez (.st 1 G0 OQ))])
def am2:=wu Hm.eq_1
def Hn:CC:=(.reg [(qq C2 (.fa 4 eg)),(qq C3 (.ld1 Pl)),(qq wl (.mv OR)),(aK C4 (.mv z5) wl),(mw wm (.cv OT [(.c (.s 1 62))]) wl),(qq wn (.pk OS xT Pm))])
def am3:=wu Hn.eq_1
def Ho:CC:=(.reg [(qq wo (.mv z8)),(ee C5 (.cv Gl [])),(qq zk (.fa 3 eg)),(ez (.st 1 G3 Pn))])
def am4:=wu Ho.eq_1
def Hp:CC:=(.seq Hn (.cond OU Ho .skip))
def am5:=wu Hp.eq_1
def Hq:CC:=(.reg [(qq qY (.fa 0 z9)),(qq uL (.ld1 Gm)),(qq zl (.ldn 6 eg)),(aa zm (.bsl 39 1 6 [(.i .i64 0),(.b false),.l0,.l0,(.b false),.l0] [(0,Gp)])),(ee zn (.app 39 6 96 Gn Gq)),(qq wQ (.fa 0 z9)),(ez (.st 1 G5 OV))])
def am6:=wu Hq.eq_1
def Hr:CC:=(.reg [(ee yW (.call 33 [])),(qq fA (.mv (x6 0)))])
def am7:=wu Hr.eq_1
def Hs:CC:=(.reg [(qq yX (.bi .lss wD (x6 4)))])
def am8:=wu Hs.eq_1
def Ht:CC:=(.cond OX .skip (.exit 4))
def am9:=wu Ht.eq_1
def Hu:CC:=(.reg [(qq C6 (.mv wD)),(qq C7 (.ixA1 4 1 OW wD)),(qq fR (.mv OY)),(qq fc (.mv OZ))])
def an0:=wu Hu.eq_1
def Hv:CC:=(.reg [(qq C8 (.mv z5)),(qq C9 (.mv ey)),(ee t5 (.cv P0 [P2]))])
def an1:=wu Hv.eq_1
def Hw:CC:=(.reg [(qq DW (.mv eX)),(qq dX (.mv Po))])
def an2:=wu Hw.eq_1
def Hx:CC:=(.cond P3 (.seq Hw (.exit 1)) .skip)
def an3:=wu Hx.eq_1
def Hy:CC:=(.reg [(qq DX (.bi .add wD (x6 1))),(qq fA (.mv Pp))])
def an4:=wu Hy.eq_1
def Hz:CC:=(.seq Ht (.seq (.block 5 (.seq Hu (.seq Hv Hx))) Hy))
def an5:=wu Hz.eq_1
def HA:CC:=(.seq (.seq Hr (.block 4 (.loop (.seq Hs Hz)))) (.exit 0))
def an6:=wu HA.eq_1
def HB:CC:=(.seq (.block 2 (.loop (.seq Hk (.block 3 Hl)))) (.seq (.seq Hm Hp) (.seq Hq HA)))
def an7:=wu HB.eq_1
def HC:CC:=(.loop (.block 1 (.seq He (.seq Hf (.seq Hi HB)))))
def an8:=wu HC.eq_1
def HD:CC:=(.reg [(qq qZ (.ld1 z6)),(qq wR (.mv Pq)),(aK GA (.ld1 z4) wR),(aK GB (.ln .slice Pt) wR),(aK GC (.bi .gtr Pu (x6 0)) wR),(qq GD (.pk Ps xT SD)),(qq wS (.mv Pv)),(aK GE (.ldn 1 z9) wS),(mw Pa (.call 17 [Px]) wS),(aK Pb (.bi .neq SE (x6 0)) wS),(qq Pd (.pk Pw xT SF))])
def an9:=wu HD.eq_1
def HE:CC:=(.reg [(qq Pe (.bld [.l0] [])),(ez (.st 1 z2 SH)),(qq a3 (.mv (x6 4)))])
def ao0:=wu HE.eq_1
def HF:CC:=(.cond SG (.seq HE .ret) .skip)
def ao1:=wu HF.eq_1
def HG:CC:=(.reg [(qq Pf (.ldn 1 z9)),(ez (.st 1 z2 Zl)),(qq a3 (.mv (x6 0)))])
def ao2:=wu HG.eq_1
def HH:CC:=(.seq (.block 0 HC) (.seq (.seq HD HF) (.seq HG .ret)))
def ao3:=wu HH.eq_1
def HI:CC:=(.scope (.seq T1 Hd) (.tab 0 (.seq .skip HH) .skip))
def ao4:=wu HI.eq_1
def c10:CF:= .mk 7 [.cn a2 1,.t a3] (.seq SY HI)
theorem e10(v0:V):bz 7 [v0]=(.n FH (some v0) FH):=rfl
def lK:=ai @e10 (ai @aV0 (ai @aV1 (ai @aV2 (ai @aV3 (ai @aV4 (ai @aV5 (ai @aV6 (ai @aV7 (ai @aV8 (ai @ai2 (ai @ai3 (ai @ai4 (ai @ai5 (ai @ai6 (ai @ai7 (ai @ai8 (ai @ai9 (ai @aj0 (ai @aj1 (ai @aj2 (ai @aj3 (ai @aj4 (ai @BB (ai @aj5 (ai @BC (ai @aj6 (ai @aj7 (ai @aj8 (ai @aj9 (ai @ak0 (ai @ak1 (ai @ak2 (ai @ak3 (ai @ak4 (ai @ak5 (ai @ak6 (ai @O4 (ai @ak7 (ai @O5 (ai @ak8 (ai @ak9 (ai @al0 (ai @al1 (ai @al2 (ai @al3 (ai @al4 (ai @al5 (ai @al6 (ai @al7 (ai @al8 (ai @al9 (ai @am0 (ai @am1 (ai @am2 (ai @am3 (ai @am4 (ai @am5 (ai @am6 (ai @am7 (ai @am8 (ai @am9 (ai @an0 (ai @an1 (ai @an2 (ai @an3 (ai @an4 (ai @an5 (ai @an6 (ai @an7 (ai @an8 (ai @an9 (ai @ao0 (ai @ao1 (ai @ao2 (ai @ao3 (@ao4))))))))))))))))))))))))))))))))))))))))))))))))))))))))))))))))))))))))))))
structure G9(lo cs bl c1:Nat)(M1:Mem):Prop where
 h1:bl<lo
 h2:lo≤cs
 h3:cs+3≤c1
 m7:M1.get (cs+1)=some (af 74 [.f 31 [] [.p bl 0]])
structure RS(F:RO)(lo cs:Nat)(Ms:Mem)(bl:Nat)(M1:Mem)(c1:Nat)(M2:Mem)(c2:Nat)(bad:Bool)(ts:List T2):Prop where
 g:iS (fun x=>x=bl∨x=cs) c1 M1 c2 M2
 ok:cV F M2 c2
 tk:∃v,M2.get bl=some (af 71 [v])∧uD lo cs Ms v ts
 m6:M2.get cs=some (af 4 [.b bad])
 bk:Bk lo cs Ms M2
theorem RS.grx{F:RO}{lo cs bl c1 c2 c3:Nat}{Ms M1 M2 M3:Mem}{bad bad':Bool}{ts ts':List T2}(h:RS F lo cs Ms bl M1 c1 M2 c2 bad ts)(h1:bl<lo)(h2:lo≤cs)(h3:cs<c1)(g:iS (fun x=>x=bl∨x=cs) c2 M2 c3 M3)(htk:∃v,M3.get bl=some (af 71 [v])∧uD lo cs Ms v ts')(m6:M3.get cs=some (af 4 [.b bad'])):RS F lo cs Ms bl M1 c1 M3 c3 bad' ts':=by
 have hle:=h.g.le
 refine⟨h.g.trans g,g.ok h.ok fun b hb hx=>?_,htk,m6,fun x a b=>(g.old x (by omega) (by omega)).trans (h.bk x a b)⟩
 rcases hx with rfl|rfl
 ·obtain⟨v,hv,_⟩:=h.tk;exact⟨_,hv⟩
 ·exact⟨_,h.m6⟩
theorem RS.grow{F:RO}{lo cs bl c1 c2 c3:Nat}{Ms M1 M2 M3:Mem}{bad:Bool}{ts:List T2}(h:RS F lo cs Ms bl M1 c1 M2 c2 bad ts)(h1:bl<lo)(h2:lo≤cs)(h3:cs<c1)(g:Gr c2 M2 c3 M3):RS F lo cs Ms bl M1 c1 M3 c3 bad ts:=by
 have hle:=h.g.le
 obtain⟨v,hv,ht⟩:=h.tk
 exact h.grx h1 h2 h3 (iS.of g) ⟨v,(g.old _ (by omega)).trans hv,ht⟩ ((g.old _ (by omega)).trans h.m6)
theorem RS.put{F:RO}{lo cs bl c1 c2:Nat}{Ms M1 M2:Mem}{bad:Bool}{ts:List T2}(h:RS F lo cs Ms bl M1 c1 M2 c2 bad ts)(h1:bl<lo)(h2:lo≤cs)(h3:cs<c1){x:Nat}{y z:bv}(hx:c1≤x)(hx2:x<c2)(hm:M2.get x=some y):RS F lo cs Ms bl M1 c1 (M2.set x z) c2 bad ts:=by
 have hle:=h.g.le
 obtain⟨v,hv,ht⟩:=h.tk
 refine⟨⟨hle,fun b hb hn=>by rw[ah _ _ (by omega)];exact h.g.old b hb hn,fun b hb=>by rw[ah _ _ (by omega)];exact h.g.new b hb⟩,h.ok.put hx2 hm,⟨v,by rw[ah _ _ (by omega)];exact hv,ht⟩,by rw[ah _ _ (by omega)];exact h.m6,fun b h4 h5=>by rw[ah _ _ (by omega)];exact h.bk b h4 h5⟩
theorem RS.fr{F:RO}{lo cs bl c1 c2 c3:Nat}{Ms M1 M2 M3:Mem}{bad:Bool}{ts:List T2}(h:RS F lo cs Ms bl M1 c1 M2 c2 bad ts)(h1:bl<lo)(h2:lo≤cs)(h3:cs<c1)(g:iS (fun x=>c1≤x) c2 M2 c3 M3)(ok:cV F M3 c3):RS F lo cs Ms bl M1 c1 M3 c3 bad ts:=by
 have hle:=h.g.le
 have hle2:=g.le
 obtain⟨v,hv,ht⟩:=h.tk
 refine⟨⟨by omega,fun x a b=>(g.old x (by omega) (by omega)).trans (h.g.old x a b),g.new⟩,ok,⟨v,(g.old bl (by omega) (by omega)).trans hv,ht⟩,(g.old cs (by omega) (by omega)).trans h.m6,fun x a b=>(g.old x (by omega) (by omega)).trans (h.bk x a b)⟩
theorem R9(Φ:Nat→Option CF)(h30:Φ 30=some Le){F:RO}{lo cs bl c1 c2:Nat}{Ms M1 M2:Mem}{bad:Bool}{ts:List T2}(h:RS F lo cs Ms bl M1 c1 M2 c2 bad ts)(h1:bl<lo)(h2:lo≤cs)(h3:cs<c1)(s:List UInt8):
 Calls Φ F 30 [sV s,.p bl 0] M2 c2 fun r M' c'=>c'=c2∧(∀x,x≠bl→M'.get x=M2.get x)∧((∃rs,isS s ts=some rs∧r= .b true∧RS F lo cs Ms bl M1 c1 M' c2 bad rs)∨(isS s ts=none∧r= .b false∧RS F lo cs Ms bl M1 c1 M' c2 bad ts)):=by
 obtain⟨v,hv,ht⟩:=h.tk
 have hle:=h.g.le
 refine(w30 Φ h30 h.bk hv ht s).mono ?_
 rintro r M' c' ⟨rfl,⟨rs,v',e1,rfl,rfl,e2⟩|⟨e1,rfl,rfl⟩⟩
 ·exact⟨rfl,fun x hx=>ah _ _ hx,.inl ⟨rs,e1,rfl,h.grx h1 h2 h3 (iS.set h.ok (by omega) (.inl rfl) _) ⟨v',am _ _ _,e2⟩ (by rw[ah _ _ (by omega)];exact h.m6)⟩⟩
 ·exact⟨rfl,fun _ _=>rfl,.inr ⟨e1,rfl,h⟩⟩
theorem aP5(Φ:Nat→Option CF)(h32:Φ 32=some Ph)(h31:Φ 31=some Cj){F:RO}{lo cs bl c1 c2:Nat}{Ms M1 M2:Mem}{bad:Bool}{ts:List T2}(cx:G9 lo cs bl c1 M1)(h:RS F lo cs Ms bl M1 c1 M2 c2 bad ts):
 Calls Φ F 32 [.p (cs+1) 0,.p cs 0] M2 c2 fun r M' c'=>∃pv,r= .g [pv]∧bF pv=true∧DV lo cs Ms pv (redir ts).1∧RS F lo cs Ms bl M1 c1 M' c' (bad||(redir ts).2.1) (redir ts).2.2∧(∀x,x<c2→x≠bl→x≠cs→M'.get x=M2.get x)∧c2≤c':=by
 obtain⟨h1,h2,h3,m7⟩:=cx
 obtain⟨v,hv,ht⟩:=h.tk
 have hle:=h.g.le
 refine(w32 Φ h32 h31 h.ok (by omega) h1 h2 (by omega) (by omega) (ag _) (by omega) h.bk hv h.m6 ((h.g.old (cs+1) (by omega) (by omega)).trans m7) ht).mono ?_
 rintro r M' c' ⟨g,⟨w,rs,v',pv,e1,rfl,e2,e3,e4,e5,e6⟩|⟨e1,rfl,e2,e3⟩⟩
 ·have hr:redir ts=(w,false,rs):=by unfold redir;rw[e1]
  rw[hr];exact⟨pv,rfl,e2,e3,h.grx h1 h2 (by omega) g ⟨v',e4,e5⟩ (by rw[e6];cases bad<;>rfl),fun x a b d=>g.old x a (by omega),g.le⟩
 ·have hr:redir ts=([],true,ts):=by unfold redir;rw[e1]
  rw[hr];exact⟨.l0,rfl,rfl,fun F M' _=>⟨⟨fun e he=>(by cases he),.inl ⟨rfl,.inl rfl⟩⟩,aB _⟩,h.grx h1 h2 (by omega) g e2 (by rw[e3];cases bad<;>rfl),fun x a b d=>g.old x a (by omega),g.le⟩
theorem wdR(Φ:Nat→Option CF)(h31:Φ 31=some Cj){F:RO}{lo cs bl c1 c2 m:Nat}{Ms M1 M2:Mem}{bad:Bool}{ts:List T2}(cx:G9 lo cs bl c1 M1)(h:RS F lo cs Ms bl M1 c1 M2 c2 bad ts)(hm:ts.length≤m)(hm2:m≤1000000):
 Calls Φ F 31 [.i .i64 (m:Int),.p bl 0] M2 c2 fun r M' c'=>RS F lo cs Ms bl M1 c1 M' c' bad (cj ts).2∧wI lo cs Ms M' c2 c' r (cj ts).1∧(∀x,x<c2→x≠bl→M'.get x=M2.get x)∧c2≤c':=by
 obtain⟨h1,h2,h3,m7⟩:=cx
 obtain⟨v,hv,ht⟩:=h.tk
 have hle:=h.g.le
 refine(w31 Φ h31 h.ok (by omega) h1 h2 h.bk hv ht m hm2).mono ?_
 rintro r M' c' ⟨g,hW,htk⟩
 rw[sI m ts hm]at hW htk
 exact⟨h.grx h1 h2 (by omega) (g.wk fun _ _ e=> .inl e) htk ((g.old cs (by omega) (by omega)).trans h.m6),hW,fun x a b=>g.old x a b,g.le⟩
theorem n18(Φ:Nat→Option CF)(h30:Φ 30=some Le)(h31:Φ 31=some Cj)(h32:Φ 32=some Ph){F:RO}{lo cs bl c c1 c2:Nat}{Ms M1 M2:Mem}{bad:Bool}{ts:List T2}{s:List UInt8}{j:Int}{nt:Bool}{vc:V}(cx:G9 lo cs bl c1 M1)(h:RS F lo cs Ms bl M1 c1 M2 c2 bad ts)(hc:c1<c2)(mp:M2.get c1=some (af 39 [.i .i64 j,.b nt,.l0,.l0,.b false,vc]))(u:List (Option V))(Q:Ex→St→Prop)
 (hQ:∀(u:List (Option V)) M' c' vi,RS F lo cs Ms bl M1 c1 M' c' (bad||(cQ ts).2.1) (cQ ts).2.2→bF vi=true→DV lo cs Ms vi (cQ ts).1→M'.get c1=some (af 39 [.i .i64 j,.b nt,vi,.l0,.b false,vc])→c2≤c'→(∀x,c1<x→x<c2→M'.get x=M2.get x)→Q .nrm (.mk ((ig u (sV s) (.p c 0) (.p bl 0) (.f 30 [] [.p bl 0]) (.p cs 0) (.p (cs+1) 0) (.f 32 [] [.p (cs+1) 0,.p cs 0]) (.p (cs+2) 0) (.i .i64 j) (.p c1 0))) [] M' c')):
 Wp uQ (K Φ none 10 F) (.mk ((ig u (sV s) (.p c 0) (.p bl 0) (.f 30 [] [.p bl 0]) (.p cs 0) (.p (cs+1) 0) (.f 32 [] [.p (cs+1) 0,.p cs 0]) (.p (cs+2) 0) (.i .i64 j) (.p c1 0))) [] M2 c2) Q:=by
 have Gb:V.s 1 60=sV [60]:=rfl
 have hx:=cx.h1;have hx2:=cx.h2;have hx3:=cx.h3
 simp only[WX,lK]
 rw[Gb]
 refine aw ((R9 Φ h30 h cx.h1 cx.h2 (by omega) [60]).mono ?_)
 rintro r M3 c3 ⟨rfl,hf,⟨rs,e1,rfl,hR⟩|⟨e1,rfl,hR⟩⟩
 ·have hi:cQ ts=redir rs:=by unfold cQ;rw[e1]
  rw[hi]at hQ;simp only[WX,lK];refine aw ((aP5 Φ h32 h31 cx hR).mono ?_);rintro r M4 c4 ⟨pv,rfl,p1,p2,hR4,hf4,hlt⟩;have hle:=hR4.g.le;have m4:M4.get c1=some (af 39 [.i .i64 j,.b nt,.l0,.l0,.b false,vc]):=(hf4 c1 hc (by omega) (by omega)).trans ((hf c1 (by omega)).trans mp);have hG:flatten (V.g [pv])=[pv]:=rfl;have st:=aH m4 2 [pv] (by simp) (by rw[aE,ce,p1];rfl);simp only[WX,Nat.reduceAdd,hG,st];exact hQ (G1 (X1 (G1 (X1 (G8 (d9 (cP (cw (X2 (X1 [])))))))))) _ _ pv (hR4.put cx.h1 cx.h2 (by omega) (ag _) (by omega) m4) p1 p2 (am _ _ _) hlt (fun x a b=>by rw[ah _ _ (by omega),hf4 x b (by omega) (by omega)];exact hf x (by omega))
 ·have hi:cQ ts=([],false,ts):=by unfold cQ;rw[e1]
  rw[hi,Bool.or_false]at hQ;simp only[WX];exact hQ (G1 (X1 (G1 (X1 (G8 (d9 (cP (cw (X2 (X1 [])))))))))) _ _ .l0 hR rfl (fun F M' _=>⟨⟨fun e he=>(by cases he),.inl ⟨rfl,.inl rfl⟩⟩,aB _⟩) ((hf c1 (by omega)).trans mp) (ag _) (fun x a b=>hf x (by omega))
def yT(F:RO)(lo cs:Nat)(Ms M:Mem)(a c:Nat)(vc:V)(cl:List fx):Prop:=∃b es,DQ M a c vc b es∧es.length=cl.length∧cl.length≤1000000∧ ∀i (h:i<es.length) (h':i<cl.length),∃wv l h2,es[i]=[wv]∧a≤l∧l≤h2∧h2≤c∧(b<l∨h2≤b)∧uA lo cs Ms M l h2 fun M'=>CmT F l M' h2 wv cl[i]
theorem yT.keep{F:RO}{lo cs:Nat}{Ms M M2:Mem}{a c c2:Nat}{vc:V}{cl:List fx}(h:yT F lo cs Ms M a c vc cl)(hc:c≤c2)(hM:∀x,a≤x→x<c→M2.get x=M.get x):yT F lo cs Ms M2 a c2 vc cl:=by
 obtain⟨b,es,hv,h1,h2,h3⟩:=h
 refine⟨b,es,hv.up hc (hM b hv.2.1 hv.2.2.1),h1,h2,fun i hi hi'=>?_⟩
 obtain⟨wv,l,h2,e1,e2,e3,e4,e5,e6⟩:=h3 i hi hi'
 exact⟨wv,l,h2,e1,e2,e3,by omega,e5,e6.up fun x a1 a2=>hM x (by omega) (by omega)⟩
theorem yT.own{F:RO}{lo cs:Nat}{Ms M:Mem}{a c:Nat}{vc:V}{cl:List fx}(h:yT F lo cs Ms M a c vc cl):uA lo cs Ms M a c fun M'=>Zo F a M' c vc cl:=by
 intro M' hB hM
 obtain⟨b,es,hv,h1,h2,h3⟩:=h
 have hv':DQ M' a c vc b es:=hv.up (ag _) (hM b hv.2.1 hv.2.2.1)
 refine⟨⟨es,hv'.sl,h1,bg h2 (by decide),fun i hi hi'=>?_⟩,by rw[←h1];exact hv'.sh⟩
 obtain⟨wv,l,h2,e1,e2,e3,e4,e5,e6⟩:=h3 i hi hi'
 exact⟨wv,e1,(e6 M' hB fun x a1 a2=>hM x (by omega) (by omega)).up e2 e4⟩
theorem yT.one{F:RO}{lo cs:Nat}{Ms M:Mem}{a c:Nat}{vc:V}{cl:List fx}(h:yT F lo cs Ms M a c vc cl):bF vc=true∧flatten vc=[vc]∧aC [vc]=true:=by
 obtain⟨b,es,hv,_⟩:=h;exact hv.one
theorem yT.len{F:RO}{lo cs:Nat}{Ms M:Mem}{a c:Nat}{vc:V}{cl:List fx}(h:yT F lo cs Ms M a c vc cl):cl.length≤1000000:=by
 obtain⟨b,es,hv,_,h2,_⟩:=h;exact h2
theorem Nf{j:Int}{nt beh:Bool}{vi vo vc:V}(h1:bF vi=true)(h2:bF vo=true)(h3:bF vc=true):aC [.i .i64 j,.b nt,vi,vo,.b beh,vc]=true:=by
 rw[aE,aE,aE,aE,aE,aE,ce,h1,h2,h3];rfl
theorem n15(Φ:Nat→Option CF)(h31:Φ 31=some Cj){F:RO}{lo cs bl c c1 c2:Nat}{Ms M1 M2:Mem}{bad:Bool}{ts:List T2}{s:List UInt8}{j:Int}{nt:Bool}(cx:G9 lo cs bl c1 M1)(h:RS F lo cs Ms bl M1 c1 M2 c2 bad ts)(hc:c1<c2)(hm:ts.length≤s.length)(hs:s.length≤400000)(mp:M2.get c1=some (af 39 [.i .i64 j,.b nt,.l0,.l0,.b false,.l0]))(u:List (Option V))(Q:Ex→St→Prop)
 (hQ:∀(u:List (Option V)) M' c' vc,RS F lo cs Ms bl M1 c1 M' c' bad (cj ts).2→yT F lo cs Ms M' (c1+1) c' vc [(cj ts).1]→M'.get c1=some (af 39 [.i .i64 j,.b nt,.l0,.l0,.b false,vc])→c2≤c'→Q .nrm (.mk ((ig u (sV s) (.p c 0) (.p bl 0) (.f 30 [] [.p bl 0]) (.p cs 0) (.p (cs+1) 0) (.f 32 [] [.p (cs+1) 0,.p cs 0]) (.p (cs+2) 0) (.i .i64 j) (.p c1 0))) [] M' c')):
 Wp uP (K Φ none 10 F) (.mk ((ig u (sV s) (.p c 0) (.p bl 0) (.f 30 [] [.p bl 0]) (.p cs 0) (.p (cs+1) 0) (.f 32 [] [.p (cs+1) 0,.p cs 0]) (.p (cs+2) 0) (.i .i64 j) (.p c1 0))) [] M2 c2) Q:=by
 have hx:=cx.h1;have hx2:=cx.h2;have hx3:=cx.h3
 have l7:load1 F M2 (cs+1) 0=some (.f 31 [] [.p bl 0]):=aq ((h.g.old (cs+1) (by omega) (by omega)).trans cx.m7) 0
 simp only[WX,lK,l7]
 refine aw ((wdR Φ h31 cx h hm (by omega)).mono ?_)
 rintro r M3 c3 ⟨hR,hW,hf,hle⟩
 obtain⟨w1,w2,w3⟩:=hW.one
 have hG:∀v,flatten (V.g [v])=[v]:=fun _=>rfl
 have gZ:=(Gr.refl hR.ok).set c3 (dq [V.l0] 42 [r]) (ag _) (aA _) (aP _)
 have m3:(M3.set c3 (dq [V.l0] 42 [r])).get c1=some (af 39 [.i .i64 j,.b nt,.l0,.l0,.b false,.l0]):=(ah _ _ (by omega)).trans ((hf c1 hc (by omega)).trans mp)
 have st:=aH m3 5 [.l c3 0 1 1] (by simp) rfl
 simp only[WX,Nat.reduceAdd,Nat.reduceLeDiff,hG,w1,w2,st]
 have hR3:=(hR.grow cx.h1 cx.h2 (by omega) gZ).put cx.h1 cx.h2 (by omega) (ag _) (z:=af 39 (over [.i .i64 j,.b nt,.l0,.l0,.b false,.l0] 5 [.l c3 0 1 1])) (by omega) m3
 refine hQ (G1 (X1 (G1 (X1 (G8 (d9 (cP (cw (X2 (X1 [])))))))))) _ _ (.l c3 0 1 1) hR3 ?_ (am _ _ _) (by omega)
 refine⟨c3,[[r]],⟨fun e he=>by rw[List.mem_singleton]at he;subst he;rfl,by omega,aA _,.inl ⟨rfl,rfl,by rw[ah _ _ (by omega)];exact am _ _ _⟩⟩,rfl,by show 1≤1000000;omega,fun i hi hi'=>?_⟩
 have hi0:i=0:=by simp only[av,aV]at hi;omega
 subst hi0
 refine⟨r,c2,c3,rfl,by omega,by omega,by omega,by omega,?_⟩
 have:=(hW.own (F:=F) (by omega)).up (M2:=(M3.set c3 (dq [V.l0] 42 [r])).set c1 (af 39 (over [.i .i64 j,.b nt,.l0,.l0,.b false,.l0] 5 [.l c3 0 1 1]))) fun x a1 a2=>by rw[ah _ _ (by omega),ah _ _ (by omega)]
 exact this
theorem n21(Φ:Nat→Option CF)(h30:Φ 30=some Le)(h31:Φ 31=some Cj){F:RO}{lo cs bl c c1 c2:Nat}{Ms M1 M2:Mem}{bad:Bool}{ts:List T2}{s:List UInt8}{j:Int}{nt:Bool}{vi vc:V}{cl:List fx}(cx:G9 lo cs bl c1 M1)(h:RS F lo cs Ms bl M1 c1 M2 c2 bad ts)(hc:c1<c2)(hm:ts.length≤s.length)(hs:s.length≤400000)(hvi:bF vi=true)(mp:M2.get c1=some (af 39 [.i .i64 j,.b nt,vi,.l0,.b false,vc]))(hca:yT F lo cs Ms M2 (c1+1) c2 vc cl)(hcl:cl.length+ts.length≤900000)(u:List (Option V))(Q:Ex→St→Prop)
 (hQ:∀(u:List (Option V)) M' c' vc,RS F lo cs Ms bl M1 c1 M' c' bad (cY ts).2→yT F lo cs Ms M' (c1+1) c' vc (cl++(cY ts).1)→M'.get c1=some (af 39 [.i .i64 j,.b nt,vi,.l0,.b false,vc])→c2≤c'→Q (.ext 2) (.mk ((ig u (sV s) (.p c 0) (.p bl 0) (.f 30 [] [.p bl 0]) (.p cs 0) (.p (cs+1) 0) (.f 32 [] [.p (cs+1) 0,.p cs 0]) (.p (cs+2) 0) (.i .i64 j) (.p c1 0))) [] M' c')):
 Wp (.loop (.seq zu (.block 3 zw))) (K Φ none 10 F) (.mk ((ig u (sV s) (.p c 0) (.p bl 0) (.f 30 [] [.p bl 0]) (.p cs 0) (.p (cs+1) 0) (.f 32 [] [.p (cs+1) 0,.p cs 0]) (.p (cs+2) 0) (.i .i64 j) (.p c1 0))) [] M2 c2) Q:=by
 have hx:=cx.h1;have hx2:=cx.h2;have hx3:=cx.h3
 have c124:V.s 1 124=sV [124]:=rfl
 obtain⟨I,hI⟩:∃I:Nat→St→Prop,∀n s',I n s'↔(∃(c3:Nat) (M3:Mem) (tr:List T2) (vc':V) (cu:List fx) (u:List (Option V)),n=tr.length∧s'= .mk ((ig u (sV s) (.p c 0) (.p bl 0) (.f 30 [] [.p bl 0]) (.p cs 0) (.p (cs+1) 0) (.f 32 [] [.p (cs+1) 0,.p cs 0]) (.p (cs+2) 0) (.i .i64 j) (.p c1 0))) [] M3 c3∧RS F lo cs Ms bl M1 c1 M3 c3 bad tr∧c2≤c3∧tr.length≤s.length∧cu.length+tr.length≤900000∧M3.get c1=some (af 39 [.i .i64 j,.b nt,vi,.l0,.b false,vc'])∧yT F lo cs Ms M3 (c1+1) c3 vc' cu∧cl++(cY ts).1=cu++(cY tr).1∧(cY ts).2=(cY tr).2):=⟨fun n s'=>_,fun _ _=>Iff.rfl⟩
 refine bT I ?_ ts.length _ ((hI _ _).2 ⟨_,_,_,_,_,(G1 (X1 (G1 (X1 (G8 (d9 (cP (cw (X2 (X1 [])))))))))),rfl,rfl,h,ag _,hm,hcl,mp,hca,rfl,rfl⟩)
 intro n s' hIs
 obtain⟨c3,M3,tr,vc',cu,u,rfl,rfl,hR,hle,hml,hcu,mp3,hca3,he1,he2⟩:=(hI _ _).1 hIs
 clear hIs
 simp only[WX,lK]
 rw[c124]
 refine aw ((R9 Φ h30 hR cx.h1 cx.h2 (by omega) [124]).mono ?_)
 rintro r M4 c4 ⟨rfl,hf,⟨rs,e1,rfl,hR4⟩|⟨e1,rfl,hR4⟩⟩
 ·have hrl:=eL e1;have hp:=rQ e1;have mp4:=(hf c1 (by omega)).trans mp3;have l5:load1 F M4 c1 5=some vc':=aq mp4 5;have l7:load1 F M4 (cs+1) 0=some (.f 31 [] [.p bl 0]):=aq ((hR4.g.old (cs+1) (by omega) (by omega)).trans cx.m7) 0;have hca4:yT F lo cs Ms M4 (c1+1) c4 vc' cu:=hca3.keep (ag _) fun x a1 a2=>hf x (by omega);have hfr:=hR4.ok.free;simp only[WX,lK,l5,l7];have g5:Gr c4 M4 (c4+11) M4:=(Gr.refl hR4.ok).up (by omega);have hR5:=hR4.grow cx.h1 cx.h2 (by omega) g5;obtain⟨v,hv,ht⟩:=hR5.tk;refine au9 (hx:=fun x=>x=bl) _ _ _ _ _ _ _ _ _ _ _ hR5.ok (by intro e he;simp only[bf,List.not_mem_nil,or_false]at he;rcases he with rfl|rfl<;>show¬_=bl<;>dsimp only<;>omega) (fun b hb hx=>by rw[hx];exact⟨_,hv⟩) ?_;intro F1 N1 okn hlk hkp;have hkp2:∀x,x<cs→N1.get x=M4.get x:=fun x hx=>hkp x (by intro e he;simp only[bf,List.not_mem_nil,or_false]at he;rcases he with rfl|rfl<;>dsimp only<;>omega);refine(show kc (cS (gV Φ) F1 31 [.i .i64 (s.length:Int),.p bl 0] N1 (c4+11) (Φ 31)) _ from(w31 Φ h31 okn (by omega) hx hx2 (fun x a b=>(hkp2 x b).trans (hR5.bk x a b)) ((hkp2 bl (by omega)).trans hv) ht s.length (by omega)).mono ?_);rintro wv N2 c5 ⟨gN,hW,v2,hv2,ht2⟩;rw[sI s.length rs (by omega)]at hW ht2;refine⟨gN,fun M6 g6 hM6=>?_⟩;have hle6:=g6.le;have hR6:RS F lo cs Ms bl M1 c1 M6 c5 bad (cj rs).2:=hR5.grx cx.h1 cx.h2 (by omega) (g6.wk fun _ _ e=> .inl e) ⟨v2,(hM6 bl (.inr rfl)).trans hv2,ht2⟩ ((g6.old cs (by omega) (by omega)).trans hR5.m6);have hW6:wI lo cs Ms M6 (c4+11) c5 wv (cj rs).1:=by
   obtain⟨b,es,hA,a2,a3,a4⟩:=hW;refine⟨b,es,?_,a2,a3,a4⟩;rcases hA with⟨a0,a|⟨b1,b2,b3,b4⟩⟩
   ·exact⟨a0,.inl a⟩
   ·exact⟨a0,.inr ⟨b1,b2,b3,by rw[hM6 b (.inl b1)];exact b4⟩⟩
  obtain⟨w1,w2,w3⟩:=hW6.one;have mp6:=(g6.old c1 (by omega) (by omega)).trans mp4;have hca6:yT F lo cs Ms M6 (c1+1) c4 vc' cu:=hca4.keep (ag _) fun x a1 a2=>g6.old x (by omega) (by omega);have lk:(look F M6 (c4+7)).isNone=true:=by rw[cA (g6.old _ (by omega) (by omega)),hR4.ok.look (by omega)];rfl
  have rf:bN (c4+7) [(2,cs+1),(1,c1)]=true:=by rw[bu _ _ _ _ (by omega),bu _ _ _ _ (by omega),cJ]
  have hG:∀v,flatten (V.g [v])=[v]:=fun _=>rfl;simp only[WX,Nat.reducePow,Nat.reduceDiv,Nat.reduceMod,Nat.reduceBEq,Nat.reduceLeDiff,lk,rf,w8,nN,sH,hG,w1,w2,Ly];obtain⟨b,es,hvA,q1,q2,q3⟩:=hca4;have hb1:=hvA.2.1;have hb2:=hvA.2.2.1;have gZ4:iS (fun x=>x=bl∨x=cs) c4 M4 c5 (M6.set (c4+7) (dq [V.l0] 42 [wv])):=⟨by omega,fun x a b=>by rw[ah _ _ (by omega)];exact g6.old x (by omega) (fun e=>b (.inl e)),fun x a=>by rw[ah _ _ (by omega)];exact g6.new x a⟩
  have hRZ:=hR4.grx (bad':=bad) (ts':=(cj rs).2) cx.h1 cx.h2 (by omega) gZ4 ⟨v2,(ah _ _ (by omega)).trans ((hM6 bl (.inr rfl)).trans hv2),ht2⟩ ((ah _ _ (by omega)).trans ((g6.old cs (by omega) (by omega)).trans hR4.m6));have hM4:∀x,c1≤x→x<c4→(M6.set (c4+7) (dq [V.l0] 42 [wv])).get x=M4.get x:=fun x a1 a2=>by rw[ah _ _ (by omega)];exact g6.old x (by omega) (by omega)
  have hvZ:=hvA.up (M2:=M6.set (c4+7) (dq [V.l0] 42 [wv])) (c2:=c5) (by omega) (hM4 b (by omega) hb2);refine fm ((QA hvZ hRZ.ok w1 (show c4+7<c5 by omega) (by omega) (am _ _ _) (by omega)).mono ?_);rintro v' M7 c7 ⟨b',hv7,hle7,hb7,hf7,hn7⟩;have gx7:iS (fun x=>x=b) c5 (M6.set (c4+7) (dq [V.l0] 42 [wv])) c7 M7:=⟨hle7,fun x a b=>hf7 x a b,hn7⟩
  have ok7:cV F M7 c7:=gx7.ok hRZ.ok fun x a e=>by
   rw[e];obtain⟨_,_,_,⟨_,_,hm⟩|⟨_,hm⟩⟩:=hvZ
   ·exact⟨_,hm⟩
   ·exact⟨_,hm⟩
  have hR7:=hRZ.fr cx.h1 cx.h2 (by omega) (gx7.wk fun x _ e=>by rw[e];omega) ok7;have mp7:M7.get c1=some (af 39 [.i .i64 j,.b nt,vi,.l0,.b false,vc']):=(hf7 c1 (by omega) (by omega)).trans ((hM4 c1 (ag _) (by omega)).trans mp4);obtain⟨k1,k2,k3⟩:=hv7.one;have st:=aH mp7 5 [v'] (by simp) k3;have ho:over [.i .i64 j,.b nt,vi,.l0,.b false,vc'] 5 [v']=[.i .i64 j,.b nt,vi,.l0,.b false,v']:=rfl;rw[ho]at st;have hR8:=hR7.put cx.h1 cx.h2 (by omega) (ag _) (z:=af 39 [.i .i64 j,.b nt,vi,.l0,.b false,v']) (by omega) mp7;have f8:=hR8.ok.free;refine⟨ok7.free,?_⟩;simp only[WX,Nat.reducePow,Nat.reduceDiv,Nat.reduceMod,Nat.reduceBEq,il,k2,st,f8];refine⟨(cj rs).2.length,by have:=jj rs;omega,(hI _ _).2 ⟨c7,_,(cj rs).2,v',cu++[(cj rs).1],(G1 (X1 (G1 (X1 (G8 (d9 (cP (cw (X2 (X1 [])))))))))),rfl,rfl,hR8,by omega,by have:=jj rs;omega,by have:=jj rs;rw[aF,List.length_singleton];omega,am _ _ _,?_,by rw[he1,hp];simp,by rw[he2,hp]⟩⟩;refine⟨b',es++[[wv]],hv7.up (ag _) (ah _ _ (by have:=hv7.2.1;omega)),by rw[aF,aF,q1];rfl,by rw[aF,List.length_singleton];omega,fun i hi hi'=>?_⟩
  have FR:∀x,c1<x→x<c5→x≠b→x≠c4+7→(M7.set c1 (af 39 [.i .i64 j,.b nt,vi,.l0,.b false,v'])).get x=M6.get x:=fun x a1 a2 a3 a4=>by
   rw[ah _ _ (by omega),hf7 x a2 a3,ah _ _ a4]
  by_cases hie:i<es.length
  ·obtain⟨wv',l,h2,e1,e2,e3,e4,e5,e6⟩:=q3 i hie (by omega);refine⟨wv',l,h2,by rw[ff hie];exact e1,e2,e3,by omega,by omega,?_⟩;have:=e6.up (M2:=M7.set c1 (af 39 [.i .i64 j,.b nt,vi,.l0,.b false,v'])) fun x a1 a2=>(FR x (by omega) (by omega) (by omega) (by omega)).trans (g6.old x (by omega) (by omega));rw[ff (by omega)];exact this
  ·rw[aF]at hi;simp only[av,aV]at hi;obtain rfl:i=es.length:=by omega
   refine⟨wv,c4+11,c5,by rw[fe (ag _)];simp,by omega,by omega,by omega,by omega,?_⟩;have:=(hW6.own (F:=F) (by omega)).up (M2:=M7.set c1 (af 39 [.i .i64 j,.b nt,vi,.l0,.b false,v'])) fun x a1 a2=>FR x (by omega) (by omega) (by omega) (by omega);rw[fe (by omega)];simp only[q1,Nat.sub_self,List.getElem_cons_zero];exact this
 ·rw[mF e1,bQ]at he1;rw[mF e1]at he2;simp only[WX];rw[he1,he2]at hQ;exact hQ (G1 (X1 (G1 (X1 (G8 (d9 (cP (cw (X2 (X1 [])))))))))) _ _ vc' hR4 (hca3.keep (ag _) fun x a1 a2=>hf x (by omega)) ((hf c1 (by omega)).trans mp3) hle
theorem n24(Φ:Nat→Option CF)(h31:Φ 31=some Cj)(h32:Φ 32=some Ph){F:RO}{lo cs bl c c1 c2:Nat}{Ms M1 M2:Mem}{bad:Bool}{ts:List T2}{s:List UInt8}{j:Int}{nt beh:Bool}{vi vc:V}(cx:G9 lo cs bl c1 M1)(h:RS F lo cs Ms bl M1 c1 M2 c2 bad ts)(hc:c1<c2)(mp:M2.get c1=some (af 39 [.i .i64 j,.b nt,vi,.l0,.b beh,vc]))(u:List (Option V))(Q:Ex→St→Prop)
 (hQ:∀(u:List (Option V)) M' c' vo,RS F lo cs Ms bl M1 c1 M' c' (bad||(redir ts).2.1) (redir ts).2.2→bF vo=true→DV lo cs Ms vo (redir ts).1→M'.get c1=some (af 39 [.i .i64 j,.b nt,vi,vo,.b beh,vc])→c2≤c'→(∀x,c1<x→x<c2→M'.get x=M2.get x)→Q .nrm (.mk ((ig u (sV s) (.p c 0) (.p bl 0) (.f 30 [] [.p bl 0]) (.p cs 0) (.p (cs+1) 0) (.f 32 [] [.p (cs+1) 0,.p cs 0]) (.p (cs+2) 0) (.i .i64 j) (.p c1 0))) [] M' c')):
 Wp zy (K Φ none 10 F) (.mk ((ig u (sV s) (.p c 0) (.p bl 0) (.f 30 [] [.p bl 0]) (.p cs 0) (.p (cs+1) 0) (.f 32 [] [.p (cs+1) 0,.p cs 0]) (.p (cs+2) 0) (.i .i64 j) (.p c1 0))) [] M2 c2) Q:=by
 have hx:=cx.h1;have hx2:=cx.h2;have hx3:=cx.h3
 simp only[WX,lK]
 refine aw ((aP5 Φ h32 h31 cx h).mono ?_)
 rintro r M4 c4 ⟨pv,rfl,p1,p2,hR4,hf4,hlt⟩
 have m4:M4.get c1=some (af 39 [.i .i64 j,.b nt,vi,.l0,.b beh,vc]):=(hf4 c1 hc (by omega) (by omega)).trans mp
 have hG:flatten (V.g [pv])=[pv]:=rfl
 have st:=aH m4 3 [pv] (by simp) (by rw[aE,ce,p1];rfl)
 simp only[WX,Nat.reduceAdd,hG,st]
 exact hQ (G1 (X1 (G1 (X1 (G8 (d9 (cP (cw (X2 (X1 [])))))))))) _ _ pv (hR4.put cx.h1 cx.h2 (by omega) (ag _) (by omega) m4) p1 p2 (am _ _ _) hlt (fun x a b=>by rw[ah _ _ (by omega)];exact hf4 x b (by omega) (by omega))
theorem Sn(lo cs:Nat)(Ms:Mem):DV lo cs Ms .l0 []:=fun F M' _=>⟨⟨fun e he=>(by cases he),.inl ⟨rfl,.inl rfl⟩⟩,aB _⟩
theorem n22(Φ:Nat→Option CF)(h30:Φ 30=some Le)(h31:Φ 31=some Cj)(h32:Φ 32=some Ph){F:RO}{lo cs bl c c1 c2:Nat}{Ms M1 M2:Mem}{bad:Bool}{ts:List T2}{s:List UInt8}{j:Int}{nt:Bool}{vi vc:V}(cx:G9 lo cs bl c1 M1)(h:RS F lo cs Ms bl M1 c1 M2 c2 bad ts)(hc:c1<c2)(mp:M2.get c1=some (af 39 [.i .i64 j,.b nt,vi,.l0,.b false,vc]))(u:List (Option V))(Q:Ex→St→Prop)
 (hQ:∀(u:List (Option V)) M' c' vo,RS F lo cs Ms bl M1 c1 M' c' (bad||(dy ts).2.2.1) (dy ts).2.2.2→bF vo=true→DV lo cs Ms vo (dy ts).2.1→M'.get c1=some (af 39 [.i .i64 j,.b nt,vi,vo,.b (dy ts).1,vc])→c2≤c'→(∀x,c1<x→x<c2→M'.get x=M2.get x)→Q .nrm (.mk ((ig u (sV s) (.p c 0) (.p bl 0) (.f 30 [] [.p bl 0]) (.p cs 0) (.p (cs+1) 0) (.f 32 [] [.p (cs+1) 0,.p cs 0]) (.p (cs+2) 0) (.i .i64 j) (.p c1 0))) [] M' c')):
 Wp zx (K Φ none 10 F) (.mk ((ig u (sV s) (.p c 0) (.p bl 0) (.f 30 [] [.p bl 0]) (.p cs 0) (.p (cs+1) 0) (.f 32 [] [.p (cs+1) 0,.p cs 0]) (.p (cs+2) 0) (.i .i64 j) (.p c1 0))) [] M2 c2) (qp zz (K Φ none 10 F) Q):=by
 have hx:=cx.h1;have hx2:=cx.h2;have hx3:=cx.h3
 have Eg:V.s 1 62=sV [62]:=rfl
 have cgg:V.s 2 15934=sV [62,62]:=rfl
 simp only[WX,lK]
 rw[cgg]
 refine aw ((R9 Φ h30 h cx.h1 cx.h2 (by omega) [62,62]).mono ?_)
 rintro r M3 c3 ⟨rfl,hf,⟨rs,e1,rfl,hR⟩|⟨e1,rfl,hR⟩⟩
 ·have ho:dy ts=(true,redir rs):=by unfold dy;rw[e1]
  rw[ho]at hQ;have m3:=(hf c1 (by omega)).trans mp;have st:=aH m3 4 [V.b true] (by simp) rfl;have hov:over [.i .i64 j,.b nt,vi,.l0,.b false,vc] 4 [V.b true]=[.i .i64 j,.b nt,vi,.l0,.b true,vc]:=rfl;rw[hov]at st;have m4:=am M3 c1 (af 39 [.i .i64 j,.b nt,vi,.l0,.b true,vc]);have l4:load1 F (M3.set c1 (af 39 [.i .i64 j,.b nt,vi,.l0,.b true,vc])) c1 4=some (.b true):=aq m4 4;have hR4:=hR.put cx.h1 cx.h2 (by omega) (ag _) (z:=af 39 [.i .i64 j,.b nt,vi,.l0,.b true,vc]) hc m3;simp only[WX,BB,BC,st,l4];refine n24 Φ h31 h32 cx hR4 hc m4 (G1 (X1 (G1 (X1 (G8 (d9 (cP (cw (X2 (X1 [])))))))))) _ ?_;intro u M5 c5 vo hR5 o1 o2 m5 hle hf5;exact hQ u M5 c5 vo hR5 o1 o2 m5 hle fun x a b=>(hf5 x a b).trans ((ah _ _ (by omega)).trans (hf x (by omega)))
 ·have m3:=(hf c1 (by omega)).trans mp;have st:=aH m3 4 [V.b false] (by simp) rfl;have hov:over [.i .i64 j,.b nt,vi,.l0,.b false,vc] 4 [V.b false]=[.i .i64 j,.b nt,vi,.l0,.b false,vc]:=rfl;rw[hov]at st;have m4:=am M3 c1 (af 39 [.i .i64 j,.b nt,vi,.l0,.b false,vc]);have l4:load1 F (M3.set c1 (af 39 [.i .i64 j,.b nt,vi,.l0,.b false,vc])) c1 4=some (.b false):=aq m4 4;have hR4:=hR.put cx.h1 cx.h2 (by omega) (ag _) (z:=af 39 [.i .i64 j,.b nt,vi,.l0,.b false,vc]) hc m3;simp only[WX,BB,BC,st,l4];rw[Eg];refine aw ((R9 Φ h30 hR4 cx.h1 cx.h2 (by omega) [62]).mono ?_);rintro r M5 c5 ⟨rfl,hf5,⟨rs,e2,rfl,hR5⟩|⟨e2,rfl,hR5⟩⟩
  ·have ho:dy ts=(false,redir rs):=by unfold dy;rw[e1,e2]
   rw[ho]at hQ;simp only[WX];refine n24 Φ h31 h32 cx hR5 hc ((hf5 c1 (by omega)).trans m4) (G1 (X1 (G1 (X1 (G8 (d9 (cP (cw (X2 (X1 [])))))))))) _ ?_;intro u M6 c6 vo hR6 o1 o2 m6 hle hf6;exact hQ u M6 c6 vo hR6 o1 o2 m6 hle fun x a b=>(hf6 x a b).trans ((hf5 x (by omega)).trans ((ah _ _ (by omega)).trans (hf x (by omega))))
  ·have ho:dy ts=(false,[],false,ts):=by unfold dy;rw[e1,e2]
   rw[ho,Bool.or_false]at hQ;simp only[WX];exact hQ (G1 (X1 (G1 (X1 (G8 (d9 (cP (cw (X2 (X1 [])))))))))) _ _ .l0 hR5 rfl (Sn lo cs Ms) ((hf5 c1 (by omega)).trans m4) (ag _) fun x a b=>(hf5 x (by omega)).trans ((ah _ _ (by omega)).trans (hf x (by omega)))
def qS(F:RO)(lo cs:Nat)(Ms M:Mem)(a c:Nat)(vl:V)(dn:List eB):Prop:=∃b es,bm M a c b 39 6 vl es∧es.length=dn.length∧dn.length≤1000000∧ ∀i (h:i<es.length) (h':i<dn.length),∃l h2,a≤l∧l≤h2∧h2≤c∧(b<l∨h2≤b)∧uA lo cs Ms M l h2 fun M'=>Gx F l M' h2 es[i] dn[i]
theorem qS.keep{F:RO}{lo cs:Nat}{Ms M M2:Mem}{a c c2:Nat}{vl:V}{dn:List eB}(h:qS F lo cs Ms M a c vl dn)(hc:c≤c2)(hM:∀x,a≤x→x<c→M2.get x=M.get x):qS F lo cs Ms M2 a c2 vl dn:=by
 obtain⟨b,es,hA,h1,h2,h3⟩:=h
 refine⟨b,es,?_,h1,h2,fun i hi hi'=>?_⟩
 ·rcases hA with⟨a0,x|⟨a1,a2,a3,a4⟩⟩
  ·exact⟨a0,.inl x⟩
  ·exact⟨a0,.inr ⟨a1,by omega,a3,(hM b a1 a2).trans a4⟩⟩
 ·obtain⟨l,h2,e2,e3,e4,e5,e6⟩:=h3 i hi hi';exact⟨l,h2,e2,e3,by omega,e5,e6.up fun x a1 a2=>hM x (by omega) (by omega)⟩
theorem qS.own{F:RO}{lo cs:Nat}{Ms M:Mem}{a c:Nat}{vl:V}{dn:List eB}(h:qS F lo cs Ms M a c vl dn):uA lo cs Ms M a c fun M'=>PB F a M' c vl dn:=by
 intro M' hB hM
 obtain⟨b,es,hA,h1,h2,h3⟩:=h
 have hA':bm M' a c b 39 6 vl es:=by
  rcases hA with⟨a0,x|⟨a1,a2,a3,a4⟩⟩
  ·exact⟨a0,.inl x⟩
  ·exact⟨a0,.inr ⟨a1,a2,a3,(hM b a1 a2).trans a4⟩⟩
 refine⟨⟨es,hA'.sl,h1,bg h2 (by decide),fun i hi hi'=>?_⟩,by rw[←h1];exact zp hA'⟩
 obtain⟨l,h2,e2,e3,e4,e5,e6⟩:=h3 i hi hi'
 exact Gx.up e2 e4 _ _ (e6 M' hB fun x a1 a2=>hM x (by omega) (by omega))
theorem n26(Φ:Nat→Option CF){F:RO}{lo cs bl c c1 c2:Nat}{Ms M1 M2:Mem}{bad:Bool}{ts:List T2}{s:List UInt8}{j:Int}{nt beh:Bool}{vi vo vc vl:V}{w1 w2:List Pc}{cl:List fx}{dn:List eB}(cx:G9 lo cs bl c1 M1)(h:RS F lo cs Ms bl M1 c1 M2 c2 bad ts)(hc:c1<c2)(h9:M1.get (cs+2)=some (af 25 [vl]))(hL:qS F lo cs Ms M1 (cs+3) c1 vl dn)(hdn:dn.length≤900000)
 (mp:M2.get c1=some (af 39 [.i .i64 j,.b nt,vi,vo,.b beh,vc])) (i1:bF vi=true) (o1:bF vo=true) (hvi:DV lo cs Ms vi w1) (hvo:DV lo cs Ms vo w2) (hca:yT F lo cs Ms M2 (c1+1) c2 vc cl) (u:List (Option V)) (Q:Ex→St→Prop)
 (hQ:∀(u:List (Option V)) M' c' vl',RS F lo cs Ms bl M' c' M' c' bad ts→G9 lo cs bl c' M'→M'.get (cs+2)=some (af 25 [vl'])→qS F lo cs Ms M' (cs+3) c' vl' (dn++[⟨j,nt,w1,w2,beh,cl⟩])→(∀x,x<cs+3→x≠bl→x≠cs→x≠cs+2→M'.get x=M1.get x)→c1≤c'→Q .nrm (.mk ((ig u (sV s) (.p c 0) (.p bl 0) (.f 30 [] [.p bl 0]) (.p cs 0) (.p (cs+1) 0) (.f 32 [] [.p (cs+1) 0,.p cs 0]) (.p (cs+2) 0) (.i .i64 j) (.p c1 0))) [] M' c')):
 Wp zA (K Φ none 10 F) (.mk ((ig u (sV s) (.p c 0) (.p bl 0) (.f 30 [] [.p bl 0]) (.p cs 0) (.p (cs+1) 0) (.f 32 [] [.p (cs+1) 0,.p cs 0]) (.p (cs+2) 0) (.i .i64 j) (.p c1 0))) [] M2 c2) Q:=by
 have hx:=cx.h1;have hx2:=cx.h2;have hx3:=cx.h3
 have m9:M2.get (cs+2)=some (af 25 [vl]):=(h.g.old _ (by omega) (by omega)).trans h9
 have l9:load1 F M2 (cs+2) 0=some vl:=aq m9 0
 have ln:loadN F M2 c1 0 6=some [.i .i64 j,.b nt,vi,vo,.b beh,vc]:=bc mp 6 rfl
 obtain⟨v1,v2,v3⟩:=hca.one
 have hG:flatten (V.g [.i .i64 j,.b nt,vi,vo,.b beh,vc])=[.i .i64 j,.b nt,vi,vo,.b beh,vc]:=rfl
 have hall:=Nf (j:=j) (nt:=nt) (beh:=beh) i1 o1 v1
 have gZ:=(Gr.refl h.ok).set c2 (dq [.i .i64 0,.b false,.l0,.l0,.b false,.l0] 39 [.i .i64 j,.b nt,vi,vo,.b beh,vc]) (ag _) (aA _) (aP _)
 have okZ:=gZ.ok h.ok
 have hRZ:=h.grow cx.h1 cx.h2 (by omega) gZ
 have hys:cq F (M2.set c2 (dq [.i .i64 0,.b false,.l0,.l0,.b false,.l0] 39 [.i .i64 j,.b nt,vi,vo,.b beh,vc])) (c2+1) 6 (.l c2 0 1 1) [[.i .i64 j,.b nt,vi,vo,.b beh,vc]]:=S4 (d:=[.i .i64 0,.b false,.l0,.l0,.b false,.l0]) (ty:=39) (by rw[am];rfl) (aA _) (fun e he=>by rw[List.mem_singleton]at he;subst he;rfl) rfl
 have hPO:uA lo cs Ms M2 c1 c2 fun M'=>Gx F c1 M' c2 [.i .i64 j,.b nt,vi,vo,.b beh,vc] ⟨j,nt,w1,w2,beh,cl⟩:=by
  intro M' hB hM;refine⟨vi,vo,vc,rfl,(hvi F M' hB).upc (by omega),(hvo F M' hB).upc (by omega),?_⟩;exact(hca.own M' hB fun x a1 a2=>hM x (by omega) a2).up (by omega) (ag _)
 have hL2:qS F lo cs Ms M2 (cs+3) c1 vl dn:=hL.keep (ag _) fun x a1 a2=>h.g.old x a2 (by omega)
 obtain⟨b,es,hA,q1,q2,q3⟩:=hL2
 obtain⟨b1,hA1,hb1⟩:∃b1,bm (M2.set c2 (dq [.i .i64 0,.b false,.l0,.l0,.b false,.l0] 39 [.i .i64 j,.b nt,vi,vo,.b beh,vc])) (cs+3) (c2+1) b1 39 6 vl es∧((b1=b∧cs+3≤b∧b<c1∧M2.get b=some (qm 39 es.flatten))∨(es=[]∧c2+1≤b1)):=by
  rcases hA with⟨a0,⟨a1,a2⟩|⟨a1,a2,a3,a4⟩⟩
  ·exact⟨c2+1,⟨a0,.inl ⟨a1,a2⟩⟩,.inr ⟨a1,ag _⟩⟩
  ·exact⟨b,⟨a0,.inr ⟨a1,by omega,a3,by rw[ah _ _ (by omega)];exact a4⟩⟩,.inl ⟨rfl,a1,a2,a4⟩⟩
 have gA:Gr (cs+3) M2 (c2+1) (M2.set c2 (dq [.i .i64 0,.b false,.l0,.l0,.b false,.l0] 39 [.i .i64 j,.b nt,vi,vo,.b beh,vc])):=⟨by omega,fun x hx=>gZ.old x (by omega),gZ.new⟩
 simp only[WX,Nat.reduceAdd,lK,l9,ln,hG,i1,o1,v1,Bool.and_self,be]
 refine aw ((jo (bytes:=96) hA1 gA (by decide) hys (by show aC [.i .i64 j,.b nt,vi,vo,.b beh,vc]=true;exact hall) (gD (by simp only[av,aV];omega) (by simp only[av,aV];omega))).mono ?_)
 rintro vl' M3 c3 ⟨b',hA3,g3,hle3,hfr,hb'⟩
 have w3:bF vl'=true∧flatten vl'=[vl']∧aC [vl']=true:=by
  rcases hA3 with⟨_,⟨_,rfl⟩|⟨_,_,rfl,_⟩⟩<;>exact⟨rfl,rfl,rfl⟩
 obtain⟨k1,k2,k3⟩:=w3
 have m93:M3.get (cs+2)=some (af 25 [vl]):=(g3.old _ (by omega)).trans m9
 have st:=aH m93 0 [vl'] (by simp) k3
 simp only[WX,k2,st]
 have OLD:∀x,x<c2→x≠cs+2→x≠b1→(M3.set (cs+2) (af 25 [vl'])).get x=M2.get x:=fun x a1 a2 a3=>by
  rw[ah _ _ a2,hfr x (by omega) a3];exact gZ.old x a1
 have gF:iS (fun x=>x=cs+2∨x=b1) c2 M2 c3 (M3.set (cs+2) (af 25 [vl'])):=⟨by omega,fun x a1 a2=>OLD x a1 (fun e=>a2 (.inl e)) (fun e=>a2 (.inr e)),fun x hx=>by rw[ah _ _ (by omega)];exact g3.new x hx⟩
 have hb1c:b1<c2→cs+3≤b1∧b1<c1:=by
  intro hlt;rcases hb1 with⟨rfl,a1,a2,_⟩|⟨_,a2⟩<;>omega
 have okF:cV F (M3.set (cs+2) (af 25 [vl'])) c3:=gF.ok h.ok fun x a e=>by
  rcases e with rfl|rfl
  ·exact⟨_,m9⟩
  ·rcases hb1 with⟨rfl,_,_,hm⟩|⟨_,a2⟩
   ·exact⟨_,hm⟩
   ·omega
 obtain⟨v,hv,ht⟩:=h.tk
 have hble:b1<c2∨c2≤b1:=by omega
 have NB:∀x,x<cs+3→x≠b1:=fun x a e=>by
  rcases hble with hb|hb
  ·have:=hb1c hb;omega
  ·omega
 refine hQ (G1 (X1 (G1 (X1 (G8 (d9 (cP (cw (X2 (X1 [])))))))))) _ _ vl' ⟨iS.of (Gr.refl okF),okF,⟨v,(OLD bl (by omega) (by omega) (NB _ (by omega))).trans hv,ht⟩,(OLD cs (by omega) (by omega) (NB _ (by omega))).trans h.m6,fun x a1 a2=>(OLD x (by omega) (by omega) (NB _ (by omega))).trans (h.bk x a1 a2)⟩ ⟨cx.h1,cx.h2,by omega,(OLD _ (by omega) (by omega) (NB _ (by omega))).trans ((h.g.old _ (by omega) (by omega)).trans cx.m7)⟩ (am _ _ _) ?_ ?_ (by omega)
 ·refine⟨b',es++[[.i .i64 j,.b nt,vi,vo,.b beh,vc]],kp hA3 (by omega),by rw[aF,aF,q1];rfl,by rw[aF,List.length_singleton];omega,fun i hi hi'=>?_⟩;by_cases hie:i<es.length
  ·obtain⟨l,h2,e2,e3,e4,e5,e6⟩:=q3 i hie (by omega);have hb1':b1<l∨h2≤b1:=by
    rcases hb1 with⟨rfl,_,_⟩|⟨_,a2⟩<;>omega
   refine⟨l,h2,e2,e3,by omega,by omega,?_⟩;have:=e6.up (M2:=M3.set (cs+2) (af 25 [vl'])) fun x a1 a2=>OLD x (by omega) (by omega) (by omega);rw[ff (by omega)];rw[ff (by omega)];exact this
  ·rw[aF]at hi;simp only[av,aV]at hi;obtain rfl:i=es.length:=by omega
   have hb1':b1<c1∨c2≤b1:=by
    rcases hble with hb|hb
    ·have:=hb1c hb;omega
    ·omega
   refine⟨c1,c2,by omega,by omega,by omega,by omega,?_⟩;have:=hPO.up (M2:=M3.set (cs+2) (af 25 [vl'])) fun x a1 a2=>OLD x (by omega) (by omega) (by omega);rw[fe (ag _)];rw[fe (by omega)];simp only[q1,Nat.sub_self,List.getElem_cons_zero];exact this
 ·exact fun x a1 a2 a3 a4=>(OLD x (by omega) a4 (NB x a1)).trans (h.g.old x (by omega) (by omega))
abbrev Dx(u:List (Option V))(x0 x2 x4 x5 x6 x7 x8 x9 x10:V):T:=(.n (.n (.n (.n (aQ u 63 31 95 15 79 47 111) (some x7) (aQ u 71 39 103 23 87 55 119)) (uO u 3) (.n (aQ u 67 35 99 19 83 51 115) (uO u 11) (aQ u 75 43 107 27 91 59 123))) (uO u 1) (.n (.n (aQ u 65 33 97 17 81 49 113) (some x9) (aQ u 73 41 105 25 89 57 121)) (some x5) (.n (aQ u 69 37 101 21 85 53 117) (uO u 13) (aQ u 77 45 109 29 93 61 125)))) (some x0) (.n (.n (.n (aQ u 64 32 96 16 80 48 112) (some x8) (aQ u 72 40 104 24 88 56 120)) (some x4) (.n (aQ u 68 36 100 20 84 52 116) (uO u 12) (aQ u 76 44 108 28 92 60 124))) (some x2) (.n (.n (aQ u 66 34 98 18 82 50 114) (some x10) (aQ u 74 42 106 26 90 58 122)) (some x6) (.n (aQ u 70 38 102 22 86 54 118) (uO u 14) (aQ u 78 46 110 30 94 62 126)))))
theorem Ra(ts:List T2):isS [] ts=none:=by
 cases ts with
 |nil=>rfl
 |cons t r=>rw[bX,ab (fun h=>h.2 rfl)]
theorem n36(Φ:Nat→Option CF)(h30:Φ 30=some Le)(h33:Φ 33=some Ga){F:RO}{lo cs bl c c1 c2:Nat}{Ms M1 M2:Mem}{bad:Bool}{ts:List T2}{s:List UInt8}{j:Int}(cx:G9 lo cs bl c2 M2)(h:RS F lo cs Ms bl M2 c2 M2 c2 bad ts)(u:List (Option V))(Q:Ex→St→Prop)
 (hQ0:ej ts=none→ ∀(u:List (Option V)) M' c',RS F lo cs Ms bl M2 c2 M' c' bad ts→Q (.ext 0) (.mk ((Dx u (sV s) (.p c 0) (.p bl 0) (.f 30 [] [.p bl 0]) (.p cs 0) (.p (cs+1) 0) (.f 32 [] [.p (cs+1) 0,.p cs 0]) (.p (cs+2) 0) (.i .i64 j))) [] M' c'))
 (hQ1:∀n rs,ej ts=some (n,rs)→ ∀(u:List (Option V)) M' c',RS F lo cs Ms bl M2 c2 M' c' bad rs→Q (.ext 1) (.mk ((Dx u (sV s) (.p c 0) (.p bl 0) (.f 30 [] [.p bl 0]) (.p cs 0) (.p (cs+1) 0) (.f 32 [] [.p (cs+1) 0,.p cs 0]) (.p (cs+2) 0) (.i .i64 n))) [] M' c')):
 Wp zB (K Φ none 10 F) (.mk ((ig u (sV s) (.p c 0) (.p bl 0) (.f 30 [] [.p bl 0]) (.p cs 0) (.p (cs+1) 0) (.f 32 [] [.p (cs+1) 0,.p cs 0]) (.p (cs+2) 0) (.i .i64 j) (.p c1 0))) [] M2 c2) Q:=by
 have hx:=cx.h1;have hx2:=cx.h2;have hx3:=cx.h3
 simp only[WX,lK]
 refine aw ((w33 Φ h33 h.ok).mono ?_)
 rintro r M3 c3 ⟨rfl,g3⟩
 have hR:=h.grow hx hx2 (by omega) g3
 have i0:pF 4 1 Mp (.i .i64 0)=some (sV []):=by unfold Mp;rw[oI];rfl
 have i1:pF 4 1 Mp (.i .i64 1)=some (sV [59]):=by unfold Mp;rw[oI];rfl
 have i2:pF 4 1 Mp (.i .i64 2)=some (sV [38,38]):=by unfold Mp;rw[oI];rfl
 have i3:pF 4 1 Mp (.i .i64 3)=some (sV [124,124]):=by unfold Mp;rw[oI];rfl
 have q0:du .add (.i .i64 0) (.i .i64 1)=some (.i .i64 1):=by rw[bJ _ _ (by decide) (by decide)];rfl
 have q1:du .add (.i .i64 1) (.i .i64 1)=some (.i .i64 2):=by rw[bJ _ _ (by decide) (by decide)];rfl
 have q2:du .add (.i .i64 2) (.i .i64 1)=some (.i .i64 3):=by rw[bJ _ _ (by decide) (by decide)];rfl
 have q3:du .add (.i .i64 3) (.i .i64 1)=some (.i .i64 4):=by rw[bJ _ _ (by decide) (by decide)];rfl
 simp only[WX]
 rw[iG]
 simp only[WX,Int.reduceLT,lK,i0]
 refine aw ((R9 Φ h30 hR hx hx2 (by omega) []).mono ?_)
 rintro r M4 c4 ⟨rfl,_,⟨rs,e1,_⟩|⟨_,rfl,hR⟩⟩
 ·rw[Ra]at e1;cases e1
 simp only[WX,lK,q0]
 rw[iG]
 simp only[WX,Int.reduceLT,lK,i1]
 refine aw ((R9 Φ h30 hR hx hx2 (by omega) [59]).mono ?_)
 rintro r M5 c5 ⟨rfl,_,⟨rs,e1,rfl,hR⟩|⟨e1,rfl,hR⟩⟩
 ·simp only[WX,Nat.reduceEqDiff,lK];exact hQ1 1 rs (by unfold ej;rw[e1]) (G1 (X1 (G1 (X1 (G4 (G2 (G1 (d9 (cP (cw (X4 []))))))))))) _ _ hR
 simp only[WX,lK,q1]
 rw[iG]
 simp only[WX,Int.reduceLT,lK,i2]
 refine aw ((R9 Φ h30 hR hx hx2 (by omega) [38,38]).mono ?_)
 rintro r M6 c6 ⟨rfl,_,⟨rs,e2,rfl,hR⟩|⟨e2,rfl,hR⟩⟩
 ·simp only[WX,Nat.reduceEqDiff,lK];exact hQ1 2 rs (by unfold ej;rw[e1,e2]) (G1 (X1 (G1 (X1 (G4 (G2 (G1 (d9 (cP (cw (X4 []))))))))))) _ _ hR
 simp only[WX,lK,q2]
 rw[iG]
 simp only[WX,Int.reduceLT,lK,i3]
 refine aw ((R9 Φ h30 hR hx hx2 (by omega) [124,124]).mono ?_)
 rintro r M7 c7 ⟨rfl,_,⟨rs,e3,rfl,hR⟩|⟨e3,rfl,hR⟩⟩
 ·simp only[WX,Nat.reduceEqDiff,lK];exact hQ1 3 rs (by unfold ej;rw[e1,e2,e3]) (G1 (X1 (G1 (X1 (G4 (G2 (G1 (d9 (cP (cw (X4 []))))))))))) _ _ hR
 simp only[WX,lK,q3]
 rw[iG]
 simp only[WX,Int.reduceLT,lK]
 exact hQ0 (by unfold ej;rw[e1,e2,e3]) (G1 (X1 (G1 (X1 (G4 (G2 (G1 (d9 (cP (cw (X4 []))))))))))) _ _ hR
def LnF(F:RO)(lo c:Nat)(M:Mem)(v:V)(l:List eB):Prop:=∀M':Mem,(∀x,lo≤x→x<c→M'.get x=M.get x)→PB F lo M' c v l
theorem vz{F:RO}{lo c:Nat}{M:Mem}:LnF F lo c M .l0 []:=fun M' _=>⟨⟨[],⟨fun e he=>(by cases he),.inl ⟨rfl,.inl rfl⟩⟩,rfl,aB _,fun i h=>(by cases h)⟩,.inl ⟨rfl,rfl⟩⟩
def scF(_ _:Nat)(_:St):Prop:=False
theorem PB.up{F:RO}{lo lo':Nat}{M:Mem}{c c':Nat}{v:V}{l:List eB}(h:PB F lo M c v l)(hl:lo'≤lo)(hc:c≤c'):PB F lo' M c' v l:=⟨cE.imp h.1 hc (Gx.up hl hc),h.2.up hl hc⟩
def PsP(F:RO)(s:List UInt8)(M:Mem)(c:Nat)(r:V)(M':Mem)(c':Nat):Prop:=∃v,r= .t [.g [v],.i .i64 (fY s).2]∧LnF F c c' M' v (fY s).1∧Gr c M c' M'
theorem b77(Φ:Nat→Option CF)(h17:Φ 17=some XY)(h40:Φ 40=some Qm)(h63:Φ 63=some Lh)(h62:Φ 62=some Eg)(h80:Φ 80=some Eh)(h81:Φ 81=some Ei)(h82:Φ 82=some Ge)(h90:Φ 90=some Ej)(h83:Φ 83=some Ck)(h61:Φ 61=some zY)(h39:Φ 39=some Ql)(h33:Φ 33=some Ga)(h57:Φ 57=some vd)(h58:Φ 58=some Lg)(h59:Φ 59=some yY)(h60:Φ 60=some Gb)(h79:Φ 79=some Li)(h89:Φ 89=some Gf)(h77:Φ 77=some (.orc (aN h77)))(h52:Φ 52=some wp)(h54:Φ 54=some wq)(h71:Φ 71=some tJ){F:RO}{cs c c1:Nat}{Ms M M1:Mem}{bad:Bool}{tr:List T2}{s:List UInt8}{j:Int}{vl:V}{dn:List eB}(h:RS F (c+2) cs Ms (c+1) M1 c1 M1 c1 bad tr)(h2:c+2≤cs)(h3:cs+3≤c1)(m9:M1.get (cs+2)=some (af 25 [vl]))(hL:qS F (c+2) cs Ms M1 (cs+3) c1 vl dn)(mc:M1.get c=some (af 25 [.l0]))(old:∀x,x<c→M1.get x=M.get x)
 (hlen:¬4096<s.length) (hto:ki s=true) (hLA:dp 0 (cU s)=(dn,bad,tr)) (hS:∀p∈dn,P8 p) (hz:dt (lP dn)≤1000000) (u:List (Option V)):
 Wp uR (K Φ none 10 F) (.mk ((Dx u (sV s) (.p c 0) (.p (c+1) 0) (.f 30 [] [.p (c+1) 0]) (.p cs 0) (.p (cs+1) 0) (.f 32 [] [.p (cs+1) 0,.p cs 0]) (.p (cs+2) 0) (.i .i64 j))) [] M1 c1) (qp uS (K Φ none 10 F) (qp (.seq uT .ret) (K Φ none 10 F) (jI scF 0 (lO F [.cn (.r .h) 1,.t (.l (.l .h))] fun r M' c'=>PsP F s M c r M' c')))):=by
 have hprs:fY s=if(bad||(decide (0<tr.length)|| !wt dn))=true then([],4)else(dn,0):=by
  unfold fY;rw[ab hlen,ab (by rw[hto];simp),hLA]
 have l6:load1 F M1 cs 0=some (.b bad):=aq h.m6 0
 have stc:=aH mc 0 [V.l0] (by simp) rfl
 have hovc:over [V.l0] 0 [V.l0]=[V.l0]:=rfl
 rw[hovc,←d8 mc]at stc
 have lc:loadN F M1 c 0 1=some [V.l0]:=bc mc 1 rfl
 have hG:∀v,flatten (V.g [v])=[v]:=fun _=>rfl
 have ERR:∀M' c',Gr c1 M1 c' M'→fY s=([],4)→PsP F s M c (.t [.g [.l0],.i .i64 4]) M' c':=by
  intro M' c' g hp;have hle:=g.le;exact⟨.l0,by rw[hp],by rw[hp];exact vz,by omega,fun x hx=>(g.old x (by omega)).trans (old x hx),g.new⟩
 cases bad with
 |true=>
  simp only[WX,lK,dG,l6,hG,stc,lc];exact ERR _ _ (Gr.refl h.ok) (by rw[hprs];rfl)
 |false=>
  obtain⟨v,hv,ht⟩:=h.tk;have lv:load1 F M1 (c+1) 0=some v:=aq hv 0;have nt:=ht.len;cases hd:decide (0<tr.length)with
  |true=>
   have d0:decide ((0:Int)<(tr.length:Int))=true:=aj (by have:=bL hd;omega);simp only[WX,lK,dG,l6,lv,nt,d0,hG,stc,lc];exact ERR _ _ (Gr.refl h.ok) (by rw[hprs,hd];rfl)
  |false=>
   have d0:decide ((0:Int)<(tr.length:Int))=false:=ak (by have:=of_decide_eq_false hd;omega);have l9:loadN F M1 (cs+2) 0 1=some [vl]:=bc m9 1 rfl;have hLT:=hL.own M1 h.bk fun _ _ _=>rfl;simp only[WX,lK,l6,lv,nt,d0,l9];refine aw ((w17 Φ h17 h40 h63 h62 h80 h81 h82 h90 h83 h61 h39 h33 h57 h58 h59 h60 h79 h89 h77 h52 h54 h71 h.ok hLT.ln hS hz).mono ?_);rintro r M2 c2 ⟨rfl,g2⟩;have hle2:=g2.le;have ok2:=g2.ok h.ok;cases hk:wt dn with
   |false=>
    have e2:ZV false= .i .i64 2:=rfl;have d2:decide (¬((2:Int)=0))=true:=rfl;have mc2:M2.get c=some (af 25 [.l0]):=(g2.old c (by omega)).trans mc;have stc:=aH mc2 0 [V.l0] (by simp) rfl;rw[hovc,←d8 mc2]at stc;have lc:loadN F M2 c 0 1=some [V.l0]:=bc mc2 1 rfl;simp only[WX,lK,dG,e2,d2,hG,stc,lc];exact ERR _ _ g2 (by rw[hprs,hd,hk];rfl)
   |true=>
    have e2:ZV true= .i .i64 0:=rfl;have d2:decide (¬((0:Int)=0))=false:=rfl;have mc2:M2.get c=some (af 25 [.l0]):=(g2.old c (by omega)).trans mc;obtain⟨y1,y2,y3⟩:=hLT.ln.one;have stc:=aH mc2 0 [vl] (by simp) y3;have l92:loadN F M2 (cs+2) 0 1=some [vl]:=(g2.loadN (by omega) _ _).trans l9;have hov:over [V.l0] 0 [vl]=[vl]:=rfl;rw[hov]at stc;have lc:loadN F (M2.set c (af 25 [vl])) c 0 1=some [vl]:=bc (am _ _ _) 1 rfl;simp only[WX,lK,dG,e2,d2,hG,l92,stc,lc];have hp:fY s=(dn,0):=by rw[hprs,hd,hk];rfl
    refine⟨vl,by rw[hp],?_,by omega,fun x hx=>by rw[ah _ _ (by omega)];exact(g2.old x (by omega)).trans (old x hx),fun x hx=>by rw[ah _ _ (by omega)];exact g2.new x hx⟩;rw[hp];intro M' hM';have hA:∀x,c<x→x<c1→M'.get x=M1.get x:=fun x a1 a2=>(hM' x (by omega) (by omega)).trans ((ah _ _ (by omega)).trans (g2.old x a2));exact(hL.own M' (fun x a1 a2=>(hA x (by omega) (by omega)).trans (h.bk x a1 a2)) fun x a1 a2=>hA x (by omega) a2).up (by omega) hle2
theorem r10(Φ:Nat→Option CF)(h:Φ 10=some c10)(h28:Φ 28=some XZ)(h56:Φ 56=some Qo)(h55:Φ 55=some (.orc (aN h55)))(h73:Φ 73=some (.orc (aN h73)))(h75:Φ 75=some (.orc (aN h75)))(h76:Φ 76=some (.orc (aN h88)))(h74:Φ 74=some Gd)(h29:Φ 29=some c29)(h30:Φ 30=some Le)(h31:Φ 31=some Cj)(h32:Φ 32=some Ph)(h17:Φ 17=some XY)(h40:Φ 40=some Qm)(h63:Φ 63=some Lh)(h62:Φ 62=some Eg)(h80:Φ 80=some Eh)(h81:Φ 81=some Ei)(h82:Φ 82=some Ge)(h90:Φ 90=some Ej)(h83:Φ 83=some Ck)(h61:Φ 61=some zY)(h39:Φ 39=some Ql)(h33:Φ 33=some Ga)(h57:Φ 57=some vd)(h58:Φ 58=some Lg)(h59:Φ 59=some yY)(h60:Φ 60=some Gb)(h79:Φ 79=some Li)(h89:Φ 89=some Gf)(h77:Φ 77=some (.orc (aN h77)))(h52:Φ 52=some wp)(h54:Φ 54=some wq)(h71:Φ 71=some tJ){F:RO}{M:Mem}{c:Nat}(ok:cV F M c)(s:List UInt8)
 (hPB:s.length≤4096→(∀p∈(dp 0 (cU s)).1,P8 p)∧dt (lP (dp 0 (cU s)).1)≤1000000):
 Calls Φ F 10 [sV s] M c fun r M' c'=>PsP F s M c r M' c':=by
 refine aI h ?_
 have hG:∀v,flatten (V.g [v])=[v]:=fun _=>rfl
 have g1:=(Gr.refl ok).set c (af 25 [.l0]) (ag _) (aA _) (aP _)
 simp only[WX,lK]
 refine uy scF (fun n l s h=>h.elim) 0 _ _ ?_
 by_cases hlen:4096<s.length
 ·have d1:decide ((4096:Int)<(s.length:Int))=true:=aj (by omega);have mc:=am M c (af 25 [.l0]);have stc:=aH mc 0 [V.l0] (by simp) rfl;have hovc:over [V.l0] 0 [V.l0]=[V.l0]:=rfl;rw[hovc,←d8 mc]at stc;have lc:loadN F (M.set c (af 25 [.l0])) c 0 1=some [V.l0]:=bc mc 1 rfl;simp only[WX,lK,dG,d1,hG,stc,lc];have hp:fY s=([],3):=by unfold fY;rw[ac hlen]
  exact⟨.l0,by rw[hp],by rw[hp];exact vz,g1⟩
 obtain⟨hPS,hPZ⟩:=hPB (by omega)
 have d1:decide ((4096:Int)<(s.length:Int))=false:=ak (by omega)
 have g2:Gr c M (c+2) ((M.set c (af 25 [.l0])).set (c+1) (af 71 [.l0])):=g1.set (c+1) _ (by omega) (by omega) (by omega)
 have mc2:((M.set c (af 25 [.l0])).set (c+1) (af 71 [.l0])).get c=some (af 25 [.l0]):=(ah _ _ (by omega)).trans (am _ _ _)
 have mb2:((M.set c (af 25 [.l0])).set (c+1) (af 71 [.l0])).get (c+1)=some (af 71 [.l0]):=am _ _ _
 simp only[WX,Nat.reduceAdd,lK,d1]
 generalize(M.set c (af 25 [.l0])).set (c+1) (af 71 [.l0])=X at g2 mc2 mb2⊢
 have okX:=g2.ok ok
 have hTl:(cU s).length=(tk s 0).length:=List.length_map ..
 have htl:=NT s 0
 refine aw ((aR4 Φ h28 h56 h55 h73 h75 h76 h77 h74 (s:=s) (by omega) (I:=DU F (cU s) (c+2) X (c+1)) (J:=fun _ _=>False) (DU.start okX mb2) (fun k N1 n1 hI=>⟨hI.1,hI.2.1.le⟩) (fun k N1 n1 N2 n2 hI g=>DU.grow (by omega) hI g) ?_).mono ?_)
 ·intro k N1 n1 pv b hk hI hp hA;have hk':k<(cU s).length:=by omega
  have e:(cU s)[k]=(tk s 0)[k].2:=by simp[cU]
  have hpl:(cU s)[k].2.length≤MC:=by
   rw[e];have:=vX (s.length+1) s 0 (tk s 0)[k] (List.getElem_mem _);show _≤9223372036854775807;omega
  have hh:=w29 Φ h29 (F:=F) (tl:=cU s) (at_:=(tk s 0)[k].1) (show c+1<c+2 by omega) hI hk' (by omega) hp hpl (by rw[e];exact hA);rw[e]at hh;exact hh.mono fun r M' c' hr=> .inl hr
 ·intro r M2 cs hor;obtain⟨rfl,hI⟩:=hor.resolve_right fun h=>h.2;rw[←hTl]at hI;have hOk2:=hI.1;have hgx:=hI.2.1;have hle:=hgx.le;have mc3:M2.get c=some (af 25 [.l0]):=(hgx.old c (by omega) (by omega)).trans mc2;have old3:∀x,x<c→M2.get x=M.get x:=fun x hx=>(hgx.old x (by omega) (by omega)).trans (g2.old x hx);have new3:=hgx.new;cases hto:ki s with
  |false=>
   have stc:=aH mc3 0 [V.l0] (by simp) rfl;have hovc:over [V.l0] 0 [V.l0]=[V.l0]:=rfl;rw[hovc,←d8 mc3]at stc;have lc:loadN F M2 c 0 1=some [V.l0]:=bc mc3 1 rfl;simp only[WX,lK,dG,hG,stc,lc];have hp:fY s=([],4):=by unfold fY;rw[ab hlen,ac hto]
   exact⟨.l0,by rw[hp],by rw[hp];exact vz,by omega,old3,new3⟩
  |true=>
   obtain⟨v,hv,ht⟩:=DU.done (by omega) hI (by omega);have s6:bK (M2.set cs (af 4 [.b false])) cs 0 [.b false]=some (M2.set cs (af 4 [.b false])):=eQ rfl rfl;have s7:bK ((M2.set cs (af 4 [.b false])).set (cs+1) (af 74 [.f0])) (cs+1) 0 [.f 31 [] [.p (c+1) 0]]=some ((M2.set cs (af 4 [.b false])).set (cs+1) (af 74 [.f 31 [] [.p (c+1) 0]])):=eQ rfl rfl;have hfn:∀a b c,flatten (V.f a b c)=[V.f a b c]:=fun _ _ _=>rfl;simp only[WX,Nat.reduceAdd,lK,s6,s7,hfn];have gY:Gr cs M2 (cs+3) (((M2.set cs (af 4 [.b false])).set (cs+1) (af 74 [.f 31 [] [.p (c+1) 0]])).set (cs+2) (af 25 [.l0])):=(((Gr.refl hOk2).set cs _ (ag _) (aA _) (aP _)).set (cs+1) _ (by omega) (show cs+1<cs+2 by omega) (by omega)).set (cs+2) _ (by omega) (by omega) (by omega);have y6:(((M2.set cs (af 4 [.b false])).set (cs+1) (af 74 [.f 31 [] [.p (c+1) 0]])).set (cs+2) (af 25 [.l0])).get cs=some (af 4 [.b false]):=(ah _ _ (by omega)).trans ((ah _ _ (by omega)).trans (am _ _ _));have y7:(((M2.set cs (af 4 [.b false])).set (cs+1) (af 74 [.f 31 [] [.p (c+1) 0]])).set (cs+2) (af 25 [.l0])).get (cs+1)=some (af 74 [.f 31 [] [.p (c+1) 0]]):=(ah _ _ (by omega)).trans (am _ _ _);have y9:(((M2.set cs (af 4 [.b false])).set (cs+1) (af 74 [.f 31 [] [.p (c+1) 0]])).set (cs+2) (af 25 [.l0])).get (cs+2)=some (af 25 [.l0]):=am _ _ _;generalize((M2.set cs (af 4 [.b false])).set (cs+1) (af 74 [.f 31 [] [.p (c+1) 0]])).set (cs+2) (af 25 [.l0])=Y at gY y6 y7 y9⊢;have okY:=gY.ok hOk2;have hRY:RS F (c+2) cs M2 (c+1) Y (cs+3) Y (cs+3) false (cU s):=⟨iS.of (Gr.refl okY),okY,⟨v,(gY.old _ (by omega)).trans hv,ht⟩,y6,fun x a b=>gY.old x b⟩
   have mcY:=(gY.old c (by omega)).trans mc3;have oldY:∀x,x<c→Y.get x=M.get x:=fun x hx=>(gY.old x (by omega)).trans (old3 x hx);obtain⟨I,hI⟩:∃I:Nat→St→Prop,∀n s',I n s'↔(∃(c1:Nat) (M1:Mem) (tr:List T2) (j:Int) (bad:Bool) (dn:List eB) (vl:V) (u:List (Option V)),n=tr.length∧s'= .mk ((Dx u (sV s) (.p c 0) (.p (c+1) 0) (.f 30 [] [.p (c+1) 0]) (.p cs 0) (.p (cs+1) 0) (.f 32 [] [.p (cs+1) 0,.p cs 0]) (.p (cs+2) 0) (.i .i64 j))) [] M1 c1∧RS F (c+2) cs M2 (c+1) M1 c1 M1 c1 bad tr∧G9 (c+2) cs (c+1) c1 M1∧M1.get (cs+2)=some (af 25 [vl])∧qS F (c+2) cs M2 M1 (cs+3) c1 vl dn∧dn.length+tr.length≤500000∧tr.length≤s.length∧M1.get c=some (af 25 [.l0])∧(∀x,x<c→M1.get x=M.get x)∧dp 0 (cU s)=(dn++(dp j tr).1,bad||(dp j tr).2.1,(dp j tr).2.2)):=⟨fun n s'=>_,fun _ _=>Iff.rfl⟩
   refine bT I ?_ (cU s).length _ ((hI _ _).2 ⟨_,_,_,0,false,[],.l0,(G1 (X1 (G1 (X1 (G4 (G2 (G1 (d9 (cP (cw (X4 []))))))))))),rfl,rfl,hRY,⟨by omega,by omega,ag _,y7⟩,y9,⟨0,[],bm.nil,rfl,aB _,fun i h=>(by cases h)⟩,by simp only[aV];omega,by omega,mcY,oldY,by simp⟩);intro n s' hIs;obtain⟨c1,M1,tr,j,bad,dn,vl,u,rfl,rfl,hR,cx,m9,hL,hdl,htl2,mc1,old1,hLA⟩:=(hI _ _).1 hIs;clear hIs;have hx:=cx.h1;have hx2:=cx.h2;have hx3:=cx.h3;have c33':V.s 1 33=sV [33]:=rfl;simp only[WX,lK];rw[c33'];refine aw ((R9 Φ h30 hR hx hx2 (by omega) [33]).mono ?_)
   have STEP:∀(nt:Bool) (ts1:List T2) (M3:Mem) (u:List (Option V)),iM tr=(nt,ts1)→RS F (c+2) cs M2 (c+1) M1 c1 M3 (c1+1) bad ts1→M3.get c1=some (af 39 [.i .i64 j,.b nt,.l0,.l0,.b false,.l0])→ts1.length≤tr.length→
    Wp uP (K Φ none 10 F) (.mk ((ig u (sV s) (.p c 0) (.p (c+1) 0) (.f 30 [] [.p (c+1) 0]) (.p cs 0) (.p (cs+1) 0) (.f 32 [] [.p (cs+1) 0,.p cs 0]) (.p (cs+2) 0) (.i .i64 j) (.p c1 0))) [] M3 (c1+1)) (qp (uQ.seq zC) (K Φ none 10 F) (mm 1 (s9 I tr.length (mm 0 (qp ((uR.seq uS).seq (uT.seq .ret)) (K Φ none 10 F) (jI scF 0 (lO F [.cn (.r .h) 1,.t (.l (.l .h))] fun r M' c'=>PsP F s M c r M' c'))))))):=by
    intro nt ts1 M3 u hnt hR3 mp3 hl1;have hp:cM j tr=(⟨j,nt,(cQ (cj ts1).2).1,(dy (cY (cQ (cj ts1).2).2.2).2).2.1,(dy (cY (cQ (cj ts1).2).2.2).2).1,(cj ts1).1::(cY (cQ (cj ts1).2).2.2).1⟩,(cQ (cj ts1).2).2.1||(dy (cY (cQ (cj ts1).2).2.2).2).2.2.1,(dy (cY (cQ (cj ts1).2).2.2).2).2.2.2):=by unfold cM;rw[hnt]
    have hl2:=jj ts1;have hl3:=xK (cj ts1).2;have hl4:=oQ j tr;refine n15 Φ h31 cx hR3 (aA _) (by omega) (by omega) mp3 u _ ?_;intro u M4 c4 vc hR4 hca4 mp4 hle4;simp only[WX];refine n18 Φ h30 h31 h32 cx hR4 (by omega) mp4 (G1 (X1 (G1 (X1 (G8 (d9 (cP (cw (X2 (X1 [])))))))))) _ ?_;intro u M5 c5 vi hR5 i1 hvi mp5 hle5 hf5;simp only[WX,O4];refine n21 Φ h30 h31 cx hR5 (by omega) (by omega) (by omega) i1 mp5 (hca4.keep hle5 fun x a b=>hf5 x (by omega) b) (by simp only[av,aV];omega) (G1 (X1 (G1 (X1 (G8 (d9 (cP (cw (X2 (X1 [])))))))))) _ ?_;intro u M6 c6 vc6 hR6 hca6 mp6 hle6;simp only[WX,Nat.reduceEqDiff,reduceCtorEq,O5,mJ];refine n22 Φ h30 h31 h32 cx hR6 (by omega) mp6 (G1 (X1 (G1 (X1 (G8 (d9 (cP (cw (X2 (X1 [])))))))))) _ ?_;intro u M7 c7 vo hR7 o1 hvo mp7 hle7 hf7;simp only[WX];refine n26 Φ cx hR7 (by omega) m9 hL (by omega) mp7 i1 o1 hvi hvo (hca6.keep hle7 fun x a b=>hf7 x (by omega) b) (G1 (X1 (G1 (X1 (G8 (d9 (cP (cw (X2 (X1 [])))))))))) _ ?_;intro u M8 c8 vl8 hR8 cx8 m98 hL8 hold8 hle8;have mc8:M8.get c=some (af 25 [.l0]):=(hold8 c (by omega) (by omega) (by omega) (by omega)).trans mc1;have old8:∀x,x<c→M8.get x=M.get x:=fun x hx=>(hold8 x (by omega) (by omega) (by omega) (by omega)).trans (old1 x hx);simp only[WX];have K9:∀(M9:Mem) (c9:Nat) (b9:Bool) (t9:List T2),RS F (c+2) cs M2 (c+1) M8 c8 M9 c9 b9 t9→RS F (c+2) cs M2 (c+1) M9 c9 M9 c9 b9 t9∧G9 (c+2) cs (c+1) c9 M9∧M9.get (cs+2)=some (af 25 [vl8])∧qS F (c+2) cs M2 M9 (cs+3) c9 vl8 (dn++[(cM j tr).1])∧M9.get c=some (af 25 [.l0])∧(∀x,x<c→M9.get x=M.get x):=by
     intro M9 c9 b9 t9 hR9;have hle9:=hR9.g.le;refine⟨⟨iS.of (Gr.refl hR9.ok),hR9.ok,hR9.tk,hR9.m6,hR9.bk⟩,⟨by omega,by omega,by omega,(hR9.g.old _ (by omega) (by omega)).trans cx8.m7⟩,(hR9.g.old _ (by omega) (by omega)).trans m98,?_,(hR9.g.old _ (by omega) (by omega)).trans mc8,fun x hx=>(hR9.g.old _ (by omega) (by omega)).trans (old8 x hx)⟩;rw[hp];exact hL8.keep hle9 fun x a b=>hR9.g.old x b (by omega)
    refine n36 Φ h30 h33 (M1:=M8) cx8 hR8 (G1 (X1 (G1 (X1 (G8 (d9 (cP (cw (X2 (X1 [])))))))))) _ ?_ ?_
    ·intro hj u M9 c9 hR9;obtain⟨k1,k2,k3,k4,k5,k6⟩:=K9 _ _ _ _ hR9;have hj2:ej (cM j tr).2.2=none:=by rw[hp];exact hj
     have hLA':dp 0 (cU s)=(dn++[(cM j tr).1],(bad||(cQ (cj ts1).2).2.1)||(dy (cY (cQ (cj ts1).2).2.2).2).2.2.1,(dy (cY (cQ (cj ts1).2).2.2).2).2.2.2):=by
      rw[hLA,rF hj2,hp,Bool.or_assoc]
     rw[hLA']at hPS hPZ;simp only[WX,reduceCtorEq,mJ];exact b77 Φ h17 h40 h63 h62 h80 h81 h82 h90 h83 h61 h39 h33 h57 h58 h59 h60 h79 h89 h77 h52 h54 h71 k1 (by omega) k2.h3 k3 k4 k5 k6 hlen hto hLA' hPS hPZ (G1 (X1 (G1 (X1 (G4 (G2 (G1 (d9 (cP (cw (X4 [])))))))))))
    ·intro n rs hj u M9 c9 hR9;obtain⟨k1,k2,k3,k4,k5,k6⟩:=K9 _ _ _ _ hR9;have hj2:ej (cM j tr).2.2=some (n,rs):=by rw[hp];exact hj
     have hjl:=oJ hj2;simp only[WX,reduceCtorEq,lK,mJ];exact⟨rs.length,by omega,(hI _ _).2 ⟨c9,M9,rs,n,_,dn++[(cM j tr).1],vl8,(G1 (X1 (G1 (X1 (G4 (G2 (G1 (d9 (cP (cw (X4 []))))))))))),rfl,rfl,k1,k2,k3,k4,by rw[aF,List.length_singleton];omega,by omega,k5,k6,by rw[hLA,rG hj2,hp];simp only[bh,List.singleton_append,Bool.or_assoc]⟩⟩
   have hG6:∀b:Bool,flatten (V.g [.i .i64 j,.b b,.l0,.l0,.b false,.l0])=[.i .i64 j,.b b,.l0,.l0,.b false,.l0]:=fun _=>rfl;have ALL:∀(b:Bool) (M3:Mem) (ts1:List T2),RS F (c+2) cs M2 (c+1) M1 c1 M3 c1 bad ts1→bK (M3.set c1 (af 39 [.i .i64 0,.b false,.l0,.l0,.b false,.l0])) c1 0 [.i .i64 j,.b b,.l0,.l0,.b false,.l0]=some (M3.set c1 (af 39 [.i .i64 j,.b b,.l0,.l0,.b false,.l0]))∧RS F (c+2) cs M2 (c+1) M1 c1 (M3.set c1 (af 39 [.i .i64 j,.b b,.l0,.l0,.b false,.l0])) (c1+1) bad ts1:=fun b M3 ts1 hR3=>⟨eQ rfl rfl,hR3.grow hx hx2 (by omega) ((Gr.refl hR3.ok).set c1 _ (ag _) (aA _) (aP _))⟩;rintro r M3 c3 ⟨rfl,hf,⟨rs,e1,rfl,hR3⟩|⟨e1,rfl,hR3⟩⟩
   ·obtain⟨sn,hR4⟩:=ALL true M3 rs hR3;have hl:=eL e1;simp only[WX,Nat.reduceAdd,Nat.reduceLeDiff,hG6,sn];exact STEP true rs _ (G1 (X1 (G1 (X1 (G8 (d9 (cP (cw (X2 (X1 [])))))))))) (by unfold iM;rw[e1]) hR4 (am _ _ _) (by omega)
   ·obtain⟨sn,hR4⟩:=ALL false M3 tr hR3;simp only[WX,Nat.reduceAdd,Nat.reduceLeDiff,hG6,sn];exact STEP false tr _ (G1 (X1 (G1 (X1 (G8 (d9 (cP (cw (X2 (X1 [])))))))))) (by unfold iM;rw[e1]) hR4 (am _ _ _) (ag _)
def pa:List Pc→Nat
 |[]=>0
 |p::r=>p.1.length+2+pa r
theorem qI(a b:List Pc):pa (a++b)=pa a+pa b:=by
 induction a with
 |nil=>simp[pa]
 |cons p r ih=>show p.1.length+2+pa (r++b)=_;rw[ih];simp only[pa];omega
theorem Se(w:List Pc):w.length≤pa w:=by
 induction w with
 |nil=>exact ag _
 |cons p r ih=>simp only[pa,av];omega
theorem Sf{w:List Pc}{q:Pc}(h:q∈w):q.1.length≤pa w:=by
 induction w with
 |nil=>cases h
 |cons p r ih=>
  rcases bf.1 h with rfl|h
  ·simp only[pa];omega
  ·have:=ih h;simp only[pa];omega
theorem ae8(p:Pc):(oS p).length≤p.1.length+2:=by
 unfold oS
 split
 ·simp
 ·split
  ·omega
  ·simp
theorem OI(w:List Pc):(cN w).length≤pa w:=by
 induction w with
 |nil=>exact ag _
 |cons p r ih=>have:=ae8 p;simp only[cN,pa,aF];omega
theorem ah2{r bs:List UInt8}{k:Nat}{b:Bool}(h:stW r=some (some (k,bs,b))):bs.length≤k+1:=by
 cases r with
 |nil=>cases h
 |cons c t=>
  rw[stW]at h;split at h
  ·cases h
  ·split at h
   ·split at h
    ·injection h with h;injection h with h;injection h with h1 h2;injection h2 with h2 h3
     subst h1 h2;rw[List.length_take];omega
    ·cases h
   ·split at h
    ·split at h
     ·injection h with h;injection h with h;injection h with h1 h2;injection h2 with h2 h3
      subst h1 h2;simp
     ·cases h
    ·split at h
     ·injection h with h;injection h with h;injection h with h1 h2;injection h2 with h2 h3
      subst h1 h2;simp
     ·cases h
theorem YA{r bs:List UInt8}{k:Nat}{b:Bool}(h:stW r=some (some (k,bs,b))):k+1≤r.length:=by
 cases r with
 |nil=>cases h
 |cons c t=>
  rw[stW]at h;split at h
  ·cases h
  ·split at h
   ·split at h
    ·rename_i hq;injection h with h;injection h with h;injection h with h1 h2
     subst h1;rw[av];have:qn t<t.length:=by
      apply Classical.byContradiction;intro hn;rw[List.drop_eq_nil_of_le (by omega)]at hq;cases hq
     omega
    ·cases h
   ·split at h
    ·split at h
     ·rename_i hq;injection h with h;injection h with h;injection h with h1 h2
      subst h1;rw[av];cases t with
      |nil=>cases hq
      |cons a t=>rw[av];omega
     ·cases h
    ·split at h
     ·injection h with h;injection h with h;injection h with h1 h2
      subst h1;rw[av];omega
     ·cases h
theorem B6:∀(f:Nat) (r:List UInt8) (w:List Pc) (text:List UInt8) (sm:Bool) (n:Nat) (ps:List Pc) (m:Nat),oX f r w text sm n=some (ps,m)→m≤n+r.length
 |0,_,_,_,_,_,_,_,h=>by cases h
 |f+1,r,w,text,sm,n,ps,m,h=>by
  rw[oX]at h;split at h
  ·injection h with h;injection h with h1 h2;omega
  ·cases h
  ·rename_i k bs hs;have:=B6 f _ _ _ _ _ _ _ h;have:=YA hs;rw[aZ]at *;omega
  ·rename_i k bs hs;have:=B6 f _ _ _ _ _ _ _ h;have:=YA hs;rw[aZ]at *;omega
theorem B7:∀(f:Nat) (r:List UInt8) (w:List Pc) (text:List UInt8) (sm:Bool) (n:Nat) (ps:List Pc) (m:Nat),oX f r w text sm n=some (ps,m)→pa ps+4*n≤pa w+text.length+2+4*m
 |0,_,_,_,_,_,_,_,h=>by cases h
 |f+1,r,w,text,sm,n,ps,m,h=>by
  rw[oX]at h;split at h
  ·injection h with h;injection h with h1 h2
   subst h1 h2;unfold m8;split
   ·rw[qI];simp only[pa];omega
   ·omega
  ·cases h
  ·have:=B7 f _ _ _ _ _ _ _ h;have e:pa (gi w text)≤pa w+text.length+4:=by
    unfold gi;split
    ·rw[qI,qI];simp only[pa,aV];omega
    ·rw[qI];simp only[pa,aV];omega
   simp only[aV]at this;omega
  ·rename_i k bs hs;have:=B7 f _ _ _ _ _ _ _ h;have hb:=ah2 hs;rw[aF]at this;omega
def ij:List T2→Nat
 |[]=>0
 |t::r=>pa t.2+10+ij r
theorem vZ:∀(f:Nat) (r:List UInt8) (i:Nat),ij ((sX f r i).map (·.2))≤16*r.length
 |0,_,_=>aB _
 |_+1,[],_=>ag _
 |f+1,x::t,i=>by
  unfold sX;split
  ·have:=vZ f t (i+1);rw[av];omega
  ·split
   ·rename_i hs;have h1:=gw hs;have h2:=vZ f ((x::t).drop (bU (x::t)).length) (i+(bU (x::t)).length);have h3:=kS (x::t);rw[aZ]at h2;rw[List.map_cons,ij];simp only[pa];omega
   ·split
    ·exact aB _
    ·split
     ·exact aB _
     ·rename_i ps n h hn;have h1:=vZ f ((x::t).drop n) (i+n);have h2:=B7 _ _ _ _ _ _ _ _ h;rw[aZ]at h1;rw[List.map_cons,ij];simp only[pa,aV]at h2⊢;have h3:=B6 _ _ _ _ _ _ _ _ h;omega
theorem iC{s:List UInt8}{ts r:List T2}(h:isS s ts=some r):ij r+10≤ij ts:=by
 cases ts with
 |nil=>cases h
 |cons t q=>
  rw[bX]at h;split at h
  ·injection h with h;subst h;simp only[ij];omega
  ·cases h
theorem sJ:∀(m:Nat) (ts:List T2),dt ((dI m ts).1.map cN)+ij (dI m ts).2≤ij ts∧ ∀k,(BK k (dI m ts).1).length+ij (dI m ts).2≤ij ts
 |0,ts=>⟨by simp[dI,dt],fun k=>by simp[dI,BK]⟩
 |_+1,[]=>⟨ag _,fun k=>ag _⟩
 |m+1,t::r=>by
  rw[dI];split
  ·obtain⟨h1,h2⟩:=sJ m r;have hw:=OI t.2;refine⟨by simp only[List.map_cons,dt,ij];omega,fun k=>?_⟩;have:=h2 (k+1);simp only[BK,ij,aF];split<;>simp<;>omega
  ·exact⟨by simp[dt],fun k=>by simp[BK]⟩
def psz:List fx→Nat
 |[]=>0
 |c::r=>2+dt (c.map cN)+psz r
def AP:List fx→Nat
 |[]=>0
 |c::r=>3+(BK 0 c).length+AP r
theorem Co(inp:List Pc):∀(k:Nat) (cl:List fx),0<k→dt (iY inp k cl)=psz cl∧(Em inp k cl).length=AP cl
 |_,[],_=>⟨rfl,rfl⟩
 |k,c::r,h=>by
  obtain⟨h1,h2⟩:=Co inp (k+1) r (by omega);have hk:decide (k=0)=false:=ak (by omega);constructor
  ·rw[iY,bM,bM,bM,h1,ac h,hk,Bool.false_and,ab (by simp)];simp only[dt,psz,av,aV];omega
  ·rw[Em,aF,aF,aF,h2,ac h];unfold inR;rw[hk,Bool.false_and,ab (by simp)];simp only[AP,av,aV];omega
theorem uc:∀(f:Nat) (ts:List T2),psz (eW f ts).1+ij (eW f ts).2≤ij ts∧AP (eW f ts).1+ij (eW f ts).2≤ij ts
 |0,_=>⟨by simp[eW,psz],by simp[eW,AP]⟩
 |f+1,ts=>by
  rw[eW];split
  ·rename_i r h;have h1:=iC h;obtain⟨h2,h3⟩:=sJ r.length r;have h3:=h3 0;obtain⟨h4,h5⟩:=uc f (cj r).2;unfold cj at *;simp only[psz,AP];omega
  ·simp[psz,AP]
theorem MH{ts r:List T2}{w:List Pc}(h:AH ts=some (w,r)):ij ts=pa w+10+ij r:=by
 cases ts with
 |nil=>cases h
 |cons t q=>
  rw[j9]at h;split at h
  ·injection h with h;injection h with h1 h2;subst h1 h2;rfl
  ·cases h
theorem oZ(ts:List T2):(cN (redir ts).1).length+ij (redir ts).2.2≤ij ts:=by
 unfold redir
 split
 ·rename_i w r h;have:=MH h;have:=OI w;dsimp only;omega
 ·simp[cN]
theorem Mi(ts:List T2):dt (if hasW (cQ ts).1=true then[[60],cN (cQ ts).1]else[])+ij (cQ ts).2.2≤ij ts∧(if hasW (cQ ts).1=true then[32,60,32]++cN (cQ ts).1 else[]).length+ij (cQ ts).2.2≤ij ts:=by
 unfold cQ
 split
 ·rename_i r h;have:=iC h;have:=oZ r;split
  ·simp only[dt,aF,av,aV];omega
  ·simp only[dt,aV];omega
 ·rw[ab (by simp[hasW])];rw[ab (by simp[hasW])];simp[dt]
theorem ML(ts:List T2):dt (mD (dy ts).1 (dy ts).2.1)+ij (dy ts).2.2.2≤ij ts∧(F8 (dy ts).1 (dy ts).2.1).length+ij (dy ts).2.2.2≤ij ts:=by
 unfold dy
 split
 ·rename_i r h;have:=iC h;have:=oZ r;unfold mD F8;dsimp only;rw[ac rfl];split<;>simp only[dt,aF,av,aV,ac]<;>omega
 ·split
  ·rename_i r h;have:=iC h;have:=oZ r;unfold mD F8;dsimp only;rw[ab (by simp)];split
   ·rw[ab (by simp)];simp only[dt,aF,av,aV];omega
   ·simp only[dt,aV];omega
  ·unfold mD F8;simp[dt,hasW]
theorem Rm(ts:List T2):dt (if(iM ts).1=true then[[33]]else[])+ij (iM ts).2≤ij ts∧(if(iM ts).1=true then([33,32]:List UInt8)else[]).length+ij (iM ts).2≤ij ts:=by
 unfold iM
 split
 ·rename_i r h;have:=iC h;rw[ac rfl,ac rfl];simp only[dt,av,aV];omega
 ·rw[ab (by simp),ab (by simp)];simp[dt]
def ug(p:eB):List (List UInt8):=(if p.nt=true then[[33]]else[])++(iY p.inp 0 p.cmds++mD p.beh p.out)
def CU(p:eB):List UInt8:=(if p.nt=true then[33,32]else[])++(Em p.inp 0 p.cmds++F8 p.beh p.out)
theorem Fa(j:Int)(ts:List T2):dt (ug (cM j ts).1)+ij (cM j ts).2.2≤ij ts∧(CU (cM j ts).1).length+ij (cM j ts).2.2≤ij ts:=by
 obtain⟨a1,a2⟩:=Rm ts
 obtain⟨b1,b2⟩:=sJ (iM ts).2.length (iM ts).2
 have b2:=b2 0
 obtain⟨c1,c2⟩:=Mi (cj (iM ts).2).2
 obtain⟨d1,d2⟩:=uc (cQ (cj (iM ts).2).2).2.2.length (cQ (cj (iM ts).2).2).2.2
 obtain⟨e1,e2⟩:=ML (cY (cQ (cj (iM ts).2).2).2.2).2
 obtain⟨f1,f2⟩:=Co (cQ (cj (iM ts).2).2).1 1 (cY (cQ (cj (iM ts).2).2).2.2).1 (by decide)
 unfold cM ug CU
 dsimp only
 rw[bM,bM,aF,aF,iY,Em,bM,bM,bM,aF,aF,aF,f1,f2]
 unfold inR
 simp only[decide_true,Bool.true_and,ab (show¬(0:Nat)<0 by omega),dt,aV]
 unfold cY cj at *
 omega
theorem Mq(n:Nat):(sT n).length≤2∧(jnS n).length≤4:=by
 match n with
 |0=>decide
 |1=>decide
 |2=>decide
 |3=>decide
 |_+4=>exact⟨aB _,aB _⟩
theorem ER{ts r:List T2}{j:Int}(h:ej ts=some (j,r)):ij r+10≤ij ts:=by
 unfold ej at h
 split at h
 ·rename_i q hq;have:=iC hq;injection h with h;injection h with _ h;subst h;exact this
 ·split at h
  ·rename_i q hq;have:=iC hq;injection h with h;injection h with _ h;subst h;exact this
  ·split at h
   ·rename_i q hq;have:=iC hq;injection h with h;injection h with _ h;subst h;exact this
   ·cases h
theorem ae4(p:eB):dt (MV p)≤dt (ug p)+3:=by
 have:=(Mq p.join.toNat).1
 unfold MV ug
 rw[bM]
 split
 ·simp only[dt];omega
 ·simp only[dt];omega
theorem Zh(i:Nat)(p:eB)(r:List eB):(Zg i (p::r)).length≤(CU p).length+4+(Zg (i+1) r).length:=by
 have:=(Mq p.join.toNat).2
 rw[Zg]
 unfold CU
 simp only[aF]
 split
 ·omega
 ·simp only[aV];omega
theorem u4:∀(f:Nat) (j:Int) (ts:List T2),dt (lP (fi f j ts).1)+ij (fi f j ts).2.2≤ij ts+3∧ ∀i,(Zg i (fi f j ts).1).length+ij (fi f j ts).2.2≤ij ts+4
 |0,_,ts=>⟨by simp[fi,lP,dt],fun i=>by simp[fi,Zg]⟩
 |f+1,j,ts=>by
  obtain⟨h1,h2⟩:=Fa j ts;have h3:=ae4 (cM j ts).1;rw[fi];split
  ·refine⟨by rw[lP,bM];simp only[lP,dt];omega,fun i=>?_⟩;have:=Zh i (cM j ts).1 [];simp only[Zg,aV]at this⊢;simp only[bQ]at this⊢;omega
  ·rename_i j' r hj;have h4:=ER hj;obtain⟨h5,h6⟩:=u4 f j' r;refine⟨by rw[lP,bM];dsimp only;omega,fun i=>?_⟩;have:=Zh i (cM j ts).1 (fi f j' r).1;have:=h6 (i+1);dsimp only;omega
def TK(k:Nat)(ts:List T2):Prop:=∀t∈ts,pa t.2≤k
def WK(k:Nat)(w:List Pc):Prop:=pa w≤k
theorem ah5{ts:List T2}:TK (ij ts) ts:=by
 intro t ht
 induction ts with
 |nil=>cases ht
 |cons a r ih=>
  rcases bf.1 ht with rfl|h
  ·simp only[ij];omega
  ·have:=ih h;simp only[ij];omega
theorem TK.isS{k:Nat}{s:List UInt8}{ts r:List T2}(h:TK k ts)(e:isS s ts=some r):TK k r:=by
 cases ts with
 |nil=>cases e
 |cons t q=>
  rw[bX]at e;split at e
  ·injection e with e;subst e;exact fun t ht=>h t (bn _ ht)
  ·cases e
theorem TK.wds{k:Nat}:∀(m:Nat) {ts:List T2},TK k ts→(∀w∈(dI m ts).1,WK k w)∧TK k (dI m ts).2
 |0,ts,h=>⟨fun w hw=>(by cases hw),h⟩
 |_+1,[],h=>⟨fun w hw=>(by cases hw),h⟩
 |m+1,t::r,h=>by
  rw[dI];split
  ·obtain⟨h1,h2⟩:=TK.wds m (ts:=r) fun t ht=>h t (bn _ ht);refine⟨fun w hw=>?_,h2⟩;rcases bf.1 hw with rfl|hw
   ·exact h t (bw ..)
   ·exact h1 w hw
  ·exact⟨fun w hw=>(by cases hw),h⟩
theorem TK.redir{k:Nat}{ts:List T2}(h:TK k ts):WK k (redir ts).1∧TK k (redir ts).2.2:=by
 cases ts with
 |nil=>exact⟨aB _,h⟩
 |cons t r=>
  unfold Ev.redir;rw[j9];by_cases ht:t.1=[]
  ·rw[ac ht];exact⟨h t (bw ..),fun t ht=>h t (bn _ ht)⟩
  ·rw[ab ht];exact⟨aB _,h⟩
theorem TK.inp{k:Nat}{ts:List T2}(h:TK k ts):WK k (cQ ts).1∧TK k (cQ ts).2.2:=by
 unfold cQ
 split
 ·rename_i r e;exact(h.isS e).redir
 ·exact⟨aB _,h⟩
theorem TK.out{k:Nat}{ts:List T2}(h:TK k ts):WK k (dy ts).2.1∧TK k (dy ts).2.2.2:=by
 unfold dy
 split
 ·rename_i r e;exact(h.isS e).redir
 ·split
  ·rename_i r e;exact(h.isS e).redir
  ·exact⟨aB _,h⟩
theorem TK.nt{k:Nat}{ts:List T2}(h:TK k ts):TK k (iM ts).2:=by
 unfold iM
 split
 ·rename_i r e;exact h.isS e
 ·exact h
theorem TK.pipe{k:Nat}:∀(f:Nat) {ts:List T2},TK k ts→(∀c∈(eW f ts).1,∀w∈c,WK k w)∧TK k (eW f ts).2
 |0,_,h=>⟨fun c hc=>(by cases hc),h⟩
 |f+1,ts,h=>by
  rw[eW];split
  ·rename_i r e;obtain⟨h1,h2⟩:=TK.wds r.length (h.isS e);obtain⟨h3,h4⟩:=TK.pipe f (ts:=(cj r).2) h2;refine⟨fun c hc=>?_,h4⟩;rcases bf.1 hc with rfl|hc
   ·exact h1
   ·exact h3 c hc
  ·exact⟨fun c hc=>(by cases hc),h⟩
theorem WK.s{k:Nat}{w:List Pc}(h:WK k w)(hk:k≤1000000):(∀q∈w,q.1.length≤1000000)∧w.length≤1000000:=
 ⟨fun q hq=>bg (Sf hq) (bg h hk),bg (Se w) (bg h hk)⟩
theorem TK.part{k:Nat}{ts:List T2}(j:Int)(h:TK k ts)(hk:k≤1000000):P8 (cM j ts).1∧TK k (cM j ts).2.2:=by
 obtain⟨a1,a2⟩:=TK.wds (iM ts).2.length h.nt
 obtain⟨b1,b2⟩:=TK.inp (ts:=(cj (iM ts).2).2) a2
 obtain⟨c1,c2⟩:=TK.pipe (cQ (cj (iM ts).2).2).2.2.length b2
 obtain⟨d1,d2⟩:=TK.out (ts:=(cY (cQ (cj (iM ts).2).2).2.2).2) c2
 refine⟨⟨(b1.s hk).1,(d1.s hk).1,fun x hx w hw=>?_,(b1.s hk).2,(d1.s hk).2⟩,d2⟩
 rcases bf.1 hx with rfl|hx
 ·exact(WK.s (a1 w hw) hk).1
 ·exact(WK.s (c1 x hx w hw) hk).1
theorem TK.line{k:Nat}(hk:k≤1000000):∀(f:Nat) (j:Int) {ts:List T2},TK k ts→ ∀p∈(fi f j ts).1,P8 p
 |0,_,_,_,p,hp=>by cases hp
 |f+1,j,ts,h,p,hp=>by
  obtain⟨h1,h2⟩:=h.part j hk;rw[fi]at hp;split at hp
  ·rcases bf.1 hp with rfl|hp
   ·exact h1
   ·cases hp
  ·rename_i j' r hj;rcases bf.1 hp with rfl|hp
   ·exact h1
   ·refine TK.line hk f j' (ts:=r) ?_ p hp;unfold ej at hj;split at hj
    ·rename_i q hq;injection hj with hj;injection hj with _ hj;subst hj;exact h2.isS hq
    ·split at hj
     ·rename_i q hq;injection hj with hj;injection hj with _ hj;subst hj;exact h2.isS hq
     ·split at hj
      ·rename_i q hq;injection hj with hj;injection hj with _ hj;subst hj;exact h2.isS hq
      ·cases hj
theorem oR{s:List UInt8}(h:s.length≤4096):(∀p∈(dp 0 (cU s)).1,P8 p)∧dt (lP (dp 0 (cU s)).1)≤1000000∧(Zg 0 (dp 0 (cU s)).1).length≤1000000:=by
 have h1:ij (cU s)≤16*s.length:=vZ (s.length+1) s 0
 obtain⟨h2,h3⟩:=u4 ((cU s).length+1) 0 (cU s)
 have h3:=h3 0
 unfold dp
 exact⟨TK.line (k:=16*s.length) (by omega) _ 0 (fun t ht=>bg (ah5 t ht) h1),by omega,by omega⟩
def CuS(cu:Nat)(v:V)(TT:List T2)(M:Mem)(ts:List T2):Prop:=∃k:Nat,M.get cu=some (af 80 [v,.i .i64 (k:Int)])∧k≤TT.length∧ts=TT.drop k
structure RR(F:RO)(lo cs:Nat)(Ms:Mem)(v:V)(TT:List T2)(M1:Mem)(c1:Nat)(M2:Mem)(c2:Nat)(ts:List T2):Prop where
 g:iS (fun x=>x=cs) c1 M1 c2 M2
 ok:cV F M2 c2
 cu:CuS cs v TT M2 ts
 bk:Bk lo cs Ms M2
end
end Go.Proofs.YtmbpllipombieaaDoor.Ev
