/- What is proved here: pieces of the evaluator's soundness: if the evaluator comes to a value, the model's run comes to it, for every world and tape; no conditions beyond the hypotheses of each theorem. -/
import Derived.Test.YtmbpllipombieaaDoorEv8
set_option linter.unusedSimpArgs false
set_option linter.unusedVariables false
set_option linter.defProp false
set_option maxRecDepth 10000
set_option maxHeartbeats 16000000
namespace Go.Proofs.YtmbpllipombieaaDoor.Ev
open Go
noncomputable section
abbrev aE6(u:List (Option V))(x0 x1 x4:V):T:=(.n (.n (aq u 15 7 23 3 19 11 27) (some x1) (aq u 17 9 25 5 21 13 29)) (some x0) (.n (.n (fq u 16 8 24) (some x4) (fq u 20 12 28)) (uO u 2) (aq u 18 10 26 6 22 14 30)))
def ZX:CC:=(.reg [(aa a4 (.bx 59 2 z1)),(qq a5 (.mv xF))])
def ZY:CC:=(.reg [(qq a6 (.ld1 z2)),(qq a7 (.ldn 2 z4)),(aa a8 (.bsl 59 1 2 [(.s 0 0),.l0] [(0,z7)])),(ee a9 (.app 59 2 40 z6 z8)),(ez (.st 1 z2 z9))])
def ZZ:CC:=(.reg [(qq a5 (.mv xT))])
def c29:CF:= .mk 4 [.t a5] (.seq ZX (.seq ZY (.seq ZZ .ret)))
theorem e29(v0 v1 v2:V):bz 4 [v0,v1,v2]=(.n (.n re (some v1) re) (some v0) (.n re (some v2) re)):=rfl
def B29:=ai @e29 (ai (wu ZX.eq_1) (ai (wu ZY.eq_1) (wu ZZ.eq_1)))
def a00:CC:=(.reg [(qq a3 (.mv xF))])
def a01:CC:=(.reg [(qq a4 (.ld1 z1)),(qq a5 (.ln .slice z4)),(qq a6 (.bi .eql z5 (x6 0))),(qq a7 (.mv z6)),(aA a8 (.ld1 z1) a7),(aA a9 (.iaS 2 z8 (x6 0)) a7),(aA dT (.fa 0 z9) a7),(aA eP (.ld1 ft) a7),(aA fg (.mv z0) a7),(aA eQ (.bi .neq dL eN) a7),(qq fh (.pk z7 xT ed)),(qq dM (.mv gb)),(aA fu (.mv z0) dM),(aA gL (.bi .eql iA (.c (.s 0 0))) dM),(qq fy (.pk gK xT iB))])
def a02:CC:=(.reg [(qq a3 (.mv xF))])
def a03:CC:=(.seq a01 (.cond iC (.seq a02 .ret) .skip))
def a04:CC:=(.reg [(qq jr (.ld1 z1)),(qq gH (.slL 2 l8 (some (x6 1)) none none)),(ez (.st 1 z1 la))])
def a05:CC:=(.reg [(qq a3 (.mv xT))])
def Vl:CF:= .mk 5 [.t a3] (.seq a00 (.seq a03 (.seq a04 (.seq a05 .ret))))
theorem e30(v0 v1:V):bz 5 [v0,v1]=(.n (.n jp (some v1) jp) (some v0) ow):=rfl
def B30:=ai @e30 (ai (wu a00.eq_1) (ai (wu a01.eq_1) (ai (wu a02.eq_1) (ai (wu a03.eq_1) (ai (wu a04.eq_1) (wu a05.eq_1))))))
def a06:CC:=(.reg [(qq a5 (.ld1 z1)),(qq a6 (.ln .slice z5)),(qq a7 (.bi .gtr z6 (x6 0))),(qq a8 (.mv z7)),(aF a9 (.ld1 z1) a8),(aF dT (.iaS 2 z9 (x6 0)) a8),(aF eP (.fa 0 ft) a8),(aF fg (.ld1 dL) a8),(aF eQ (.bi .eql eN (.c (.s 0 0))) a8),(qq fh (.pk z8 ed xF)),(qq dM (.mv gb)),(aF fu (.mv z4) dM),(aF gL (.ln .slice iA) dM),(aF fy (.mv z0) dM),(aF jr (.bi .lss iB iC) dM),(qq gH (.pk gK l8 xF))])
def Gt:=wu a06.eq_1
def a07:CC:=(.seq a06 (.cond la .skip (.exit 0)))
def Gu:=wu a07.eq_1
def a08:CC:=(.reg [(qq fY (.mv z4)),(qq jt (.ld1 z1)),(qq gU (.iaS 2 lA (x6 0))),(qq jX (.fa 1 lg)),(qq gv (.ldn 1 kM)),(aa kd (.bsl 36 1 1 [.l0] [(0,lB)])),(ee gV (.app 36 1 24 kL nl)),(qq a4 (.mv nn))])
def bL6:=wu a08.eq_1
def a09:CC:=(.reg [(qq lE (.ld1 z1)),(qq ip (.slL 2 nK (some (x6 1)) none none)),(ez (.st 1 z1 ot))])
def bL7:=wu a09.eq_1
def aa0:CC:=(.block 0 (.loop (.seq a07 (.block 1 (.seq a08 a09)))))
def bL8:=wu aa0.eq_1
def MM:CC:=(.reg [(qq ke (.mv z4)),(qq a3 (.mv oz))])
def bL9:=wu MM.eq_1
def aa1:CC:=(.seq (.reg [(qq a4 (.mv (.c .l0)))]) (.seq aa0 (.seq MM .ret)))
def bM0:=wu aa1.eq_1
def aa2:CC:=(.seq (.reg [(qq a3 (.mv (.c .l0)))]) aa1)
def bM1:=wu aa2.eq_1
def Hc:CF:= .mk 5 [.t a3] aa2
theorem e31(v0 v1:V):bz 5 [v0,v1]=(.n (.n jp (some v1) jp) (some v0) ow):=rfl
def B31:=ai @e31 (ai @Gt (ai @Gu (ai @bL6 (ai @bL7 (ai @bL8 (ai @bL9 (ai @bM0 (@bM1))))))))
def aa3:CC:=(.reg [(qq a5 (.ld1 z0)),(ee a6 (.cv z5 [(x6 1)])),(qq a7 (.ln .slice z6)),(qq a8 (.mv (x6 0)))])
def aa4:CC:=(.reg [(qq a9 (.bi .lss z8 z7))])
def aa5:CC:=(.reg [(qq dT (.iaS 1 z6 z8)),(qq eP (.ldn 1 ft)),(aa a4 (.al 36 [.l0])),(ez (.st 1 z4 dL))])
def aa6:CC:=(.reg [(qq fg (.ldn 1 z4)),(ez (.st 1 z2 eN))])
def aa7:CC:=(.reg [(qq eQ (.bi .add z8 (x6 1))),(qq a8 (.mv ed))])
def aa8:CC:=(.seq (.cond z9 .skip (.exit 0)) (.seq (.block 1 (.seq aa5 (.seq aa6 .ret))) aa7))
def aa9:CC:=(.reg [(ez (.st 1 z1 xT))])
def ab0:CC:=(.reg [(qq fh (.bld [.l0] [])),(ez (.st 1 z2 gb))])
def ab1:CC:=(.seq (.seq aa3 (.block 0 (.loop (.seq aa4 aa8)))) (.seq aa9 (.seq ab0 .ret)))
def MN:CC:=(.seq (.reg [(aa a2 (.al 36 [.l0]))]) ab1)
def W4:CF:= .mk 4 [.cn a2 1] MN
theorem e32(v0 v1:V):bz 4 [v0,v1]=(.n (.n re (some v1) re) (some v0) jp):=rfl
def B32:=ai @e32 (ai (wu aa3.eq_1) (ai (wu aa4.eq_1) (ai (wu aa5.eq_1) (ai (wu aa6.eq_1) (ai (wu aa7.eq_1) (ai (wu aa8.eq_1) (ai (wu aa9.eq_1) (ai (wu ab0.eq_1) (ai (wu ab1.eq_1) (wu MN.eq_1))))))))))
abbrev T2:=List UInt8×List Pc
def Bk(lo cs:Nat)(Ms M':Mem):Prop:=∀x,lo≤x→x<cs→M'.get x=Ms.get x
def GO(lo cs:Nat)(Ms:Mem)(v:V)(w:List Pc):Prop:=∀(F:RO) M',Bk lo cs Ms M'→dw F M' cs v w
def wT(lo cs:Nat)(Ms:Mem)(v:V)(ts:List T2):Prop:=∃es:List (List V),(∀(F:RO) M',Bk lo cs Ms M'→cA F M' cs 2 v es)∧es.length=ts.length∧ts.length≤1000000∧ ∀i (h:i<es.length) (h':i<ts.length),∃pv,es[i]=[sV ts[i].1,pv]∧GO lo cs Ms pv ts[i].2
theorem cA.upc{F:RO}{M:Mem}{c c' sz:Nat}{v:V}{es:List (List V)}(h:cA F M c sz v es)(hc:c≤c'):cA F M c' sz v es:=by
 rcases h with⟨a,b|⟨b,o,hv,hb,hcs⟩⟩
 ·exact⟨a,.inl b⟩
 ·exact⟨a,.inr ⟨b,o,hv,by omega,hcs⟩⟩
theorem dw.upc{F:RO}{M:Mem}{c c':Nat}{v:V}{w:List Pc}(h:dw F M c v w)(hc:c≤c'):dw F M c' v w:=⟨h.1.upc hc,h.2⟩
theorem wT.len{lo cs:Nat}{Ms:Mem}{v:V}{ts:List T2}(h:wT lo cs Ms v ts):uK v=some (.i .i64 (ts.length:Int)):=by
 obtain⟨es,h1,h2,_⟩:=h
 rw[←h2];exact(h1 [] Ms fun _ _ _=>rfl).len
theorem wT.head{F:RO}{lo cs:Nat}{Ms M:Mem}{v:V}{t:T2}{r:List T2}(h:wT lo cs Ms v (t::r))(hB:Bk lo cs Ms M):
 ∃b o pv,b<cs∧fF 2 v (.i .i64 0)=some (.p b o)∧load1 F M b o=some (sV t.1)∧loadN F M b (o+1) 1=some [pv]∧GO lo cs Ms pv t.2:=by
 obtain⟨es,h1,h2,h3,h4⟩:=h
 have h0:0<es.length:=by rw[h2];simp
 obtain⟨b,o,a1,a2,a3⟩:=(h1 F M hB).at 0 h0
 obtain⟨pv,e,hw⟩:=h4 0 h0 (by simp)
 rw[e]at a3
 have c0:=a3 0 (by simp)
 have c1:=a3.loadN 1 1 (by simp) (by decide)
 exact⟨b,o,pv,a1,a2 .i64,c0,c1,hw⟩
theorem wT.tail{lo cs:Nat}{Ms:Mem}{v:V}{t:T2}{r:List T2}(h:wT lo cs Ms v (t::r)):∃v',vh 2 v (some (.i .i64 1)) none none=some v'∧wT lo cs Ms v' r∧bO v'=true∧flatten v'=[v']∧aL [v']=true:=by
 obtain⟨es,h1,h2,h3,h4⟩:=h
 have hne:es≠[]:=by intro e;rw[e]at h2;cases h2
 obtain⟨v',e1,e2⟩:=Gc (h1 [] Ms fun _ _ _=>rfl) hne
 refine⟨v',e1,⟨es.tail,fun F M' hM'=>?_,by rw[List.length_tail,h2];rfl,by rw[av]at h3;omega,fun i hi hi'=>?_⟩,mZ e2⟩
 ·obtain⟨v2,e3,e4⟩:=Gc (h1 F M' hM') hne;rw[e1]at e3;obtain rfl:=ae e3;exact e4
 ·have:=h4 (i+1) (by rw[List.length_tail]at hi;omega) (by simpa using hi');simp only[List.getElem_cons_succ]at this;rw[List.getElem_tail];exact this
def isS(s:List UInt8):List T2→Option (List T2)
 |t::r=>if t.1=s∧s≠[]then some r else none
 |[]=>none
theorem cC(s:List UInt8)(t:T2)(r:List T2):isS s (t::r)=if t.1=s∧s≠[]then some r else none:=rfl
theorem w30(Φ:Nat→Option CF)(h:Φ 30=some Vl){F:RO}{lo cs bl c:Nat}{Ms M:Mem}{v:V}{ts:List T2}(hB:Bk lo cs Ms M)(mb:M.get bl=some (af 71 [v]))(hT:wT lo cs Ms v ts)(s:List UInt8):
 Calls Φ F 30 [sV s,.p bl 0] M c fun r M' c'=>c'=c∧((∃rs v',isS s ts=some rs∧r= .b true∧M'=M.set bl (af 71 [v'])∧wT lo cs Ms v' rs)∨(isS s ts=none∧r= .b false∧M'=M)):=by
 refine aN h ?_
 have l0:load1 F M bl 0=some v:=au mb 0
 have n1:=hT.len
 cases ts with
 |nil=>
  have d0:decide (((0:Nat):Int)=0)=true:=rfl;simp only[WX,B30,l0,n1,d0];exact .inr rfl
 |cons t r=>
  have d0:decide (((r.length+1:Nat):Int)=0)=false:=ag (by omega);have n1:uK v=some (.i .i64 ((r.length+1:Nat):Int)):=n1;obtain⟨b,o,pv,hb,ia,lt,lp,hw⟩:=hT.head (F:=F) hB;have qn:=nR t.1 s;have qe:=cG s [];have e0:V.s 0 0=sV []:=rfl;rw[←e0]at qe;by_cases h1:t.1=s
  ·rw[ah h1]at qn;by_cases h2:s=[]
   ·rw[ah h2]at qe;simp only[WX,B30,l0,n1,d0,ia,lt,qn,qe,aB];exact .inr (by rw[cC,ab (fun h=>h.2 h2)])
   ·rw[ag h2]at qe;obtain⟨v',e1,e2,w1,w2,w3⟩:=hT.tail;have st:=aJ mb 0 [v'] (by simp) w3;simp only[WX,B30,l0,n1,d0,ia,lt,qn,qe,e1,w2,st,aB];exact .inl ⟨r,v',by rw[cC,ac ⟨h1,h2⟩],rfl,e2⟩
  ·rw[ag h1]at qn;simp only[WX,B30,l0,n1,d0,ia,lt,qn,aB];exact .inr (by rw[cC,ab (fun h=>h1 h.1)])
def dX:Nat→List T2→eF×List T2
 |0,ts=>([],ts)
 |_+1,[]=>([],[])
 |m+1,t::r=>if t.1=[]then(t.2::(dX m r).1,(dX m r).2)else([],t::r)
def zw(lo cs:Nat)(Ms M:Mem)(c0 c:Nat)(v:V)(l:eF):Prop:=∃b es,bm M c0 c b 36 1 v es∧es.length=l.length∧l.length≤1000000∧ ∀i (h:i<es.length) (h':i<l.length),∃pv,es[i]=[pv]∧GO lo cs Ms pv l[i]
theorem w31(Φ:Nat→Option CF)(h:Φ 31=some Hc){F:RO}{lo cs bl c:Nat}{Ms M:Mem}{v:V}{ts:List T2}(ok:cK F M c)(hcs:cs≤c)(hbl:bl<lo)(hlc:lo≤cs)(hB:Bk lo cs Ms M)(mb:M.get bl=some (af 71 [v]))(hT:wT lo cs Ms v ts)(m:Nat)(hm:m≤1000000):
 Calls Φ F 31 [.i .i64 (m:Int),.p bl 0] M c fun r M' c'=>jq (fun x=>x=bl) c M c' M'∧zw lo cs Ms M' c c' r (dX m ts).1∧ ∃v',M'.get bl=some (af 71 [v'])∧wT lo cs Ms v' (dX m ts).2:=by
 refine aN h ?_
 simp only[WX,B31]
 obtain⟨I,hI⟩:∃I:Nat→St→Prop,∀n s',I n s'↔(∃(c1 k b:Nat) (M1:Mem) (ov v1:V) (cu:eF) (es:List (List V)) (tr:List T2) (u:List (Option V)),n=tr.length∧s'= .mk ((aE6 u (.i .i64 (m:Int)) (.p bl 0) ov)) [] M1 c1∧jq (fun x=>x=bl) c M c1 M1∧bm M1 c c1 b 36 1 ov es∧es.length=cu.length∧cu.length+k=m∧(∀i (h:i<es.length) (h':i<cu.length),∃pv,es[i]=[pv]∧GO lo cs Ms pv cu[i])∧M1.get bl=some (af 71 [v1])∧wT lo cs Ms v1 tr∧dX m ts=(cu++(dX k tr).1,(dX k tr).2)):=⟨fun n s'=>_,fun _ _=>Iff.rfl⟩
 refine bw I ?_ ts.length _ ((hI _ _).2 ⟨c,m,0,M,.l0,v,[],[],ts,(G2 (X2 (G1 (bB (X8 (X2 [])))))),rfl,rfl,jq.of (Gr.refl ok),bm.nil,rfl,by simp,fun i h _=>(by cases h),mb,hT,rfl⟩)
 intro n s' hIs
 obtain⟨c1,k,b,M1,ov,v1,cu,es,tr,u,rfl,rfl,gx,hA,hel,hk,hes,mb1,hT1,hwe⟩:=(hI _ _).1 hIs
 clear hIs
 have hB1:Bk lo cs Ms M1:=fun x h1 h2=>(gx.old x (by omega) (by omega)).trans (hB x h1 h2)
 have l0:load1 F M1 bl 0=some v1:=au mb1 0
 have n1:=hT1.len
 have hlA:=(hA.sl (F:=F)).len
 have FIN:∀u:List (Option V),dX k tr=([],tr)→Wp MM (K Φ none 31 F) (.mk ((aE6 u (.i .i64 (m:Int)) (.p bl 0) ov)) [] M1 c1) (gJ .ret (K Φ none 31 F) (nk F [.t (.l (.l .h))] fun r M' c'=>jq (fun x=>x=bl) c M c' M'∧zw lo cs Ms M' c c' r (dX m ts).1∧ ∃v',M'.get bl=some (af 71 [v'])∧wT lo cs Ms v' (dX m ts).2)):=by
  intro u he;rw[he,bF]at hwe;simp only[WX,B31];rw[hwe];exact⟨gx,⟨b,es,hA,hel,by show cu.length≤_;omega,hes⟩,v1,mb1,hT1⟩
 cases tr with
 |nil=>
  have d0:decide ((0:Int)<((0:Nat):Int))=false:=rfl;simp only[WX,Gt,Gu,l0,n1,d0];exact FIN (G2 (X2 (G1 (bB (X8 (X2 [])))))) (by cases k<;>rfl)
 |cons t r=>
  have d0:decide ((0:Int)<((r.length+1:Nat):Int))=true:=ah (by omega);have n1:uK v1=some (.i .i64 ((r.length+1:Nat):Int)):=n1;obtain⟨tb,o,pv,htb,ia,lt,lp,hw⟩:=hT1.head (F:=F) hB1;have qe:=cG t.1 [];have e0:V.s 0 0=sV []:=rfl;rw[←e0]at qe;by_cases h1:t.1=[]
  ·rw[ah h1]at qe;cases k with
   |zero=>
    have d1:decide ((es.length:Int)<(m:Int))=false:=ag (by omega);simp only[WX,Gt,Gu,l0,n1,d0,ia,lt,qe,hlA,d1,aB];exact FIN (G2 (X2 (G1 (bB (X8 (X2 [])))))) rfl
   |succ k=>
    have d1:decide ((es.length:Int)<(m:Int))=true:=ah (by omega);obtain⟨v',e1,e2,w1,w2,w3⟩:=hT1.tail;obtain⟨p1,p2,p3⟩:=(hw F M1 hB1).one;have hG:∀v,flatten (V.g [v])=[v]:=fun _=>rfl;have ok1:cK F M1 c1:=gx.ok ok (fun b hb hx=>by rw[hx];exact⟨_,mb⟩);have hle:=gx.le;have gZ:=(Gr.refl ok1).set c1 (d7 [V.l0] 36 [pv]) (aj _) (ay _) (aH _);have hy:cA F (M1.set c1 (d7 [V.l0] 36 [pv])) (c1+1) 1 (.l c1 0 1 1) [[pv]]:=J0 (d:=[V.l0]) (ty:=36) (by rw[am];rfl) (ay _) (fun e he=>by rw[List.mem_singleton]at he;subst he;rfl) rfl;have gA:Gr c M1 (c1+1) (M1.set c1 (d7 [V.l0] 36 [pv])):=⟨by omega,fun x hx=>gZ.old x (by omega),gZ.new⟩
    simp only[WX,B31,l0,n1,d0,ia,lt,qe,hlA,d1,lp,hG,p1,aB];refine aD ((hJ (bytes:=24) (hA.gr gZ) gA (by decide) hy (by show aL [pv]=true;exact p3) (fP (by simp only[av,aM];omega) (by simp only[av,aM];omega))).mono ?_);rintro ov' M2 c2 ⟨b',hA2,g2,hle2,hfr2,hb2⟩;have mb2:M2.get bl=some (af 71 [v1]):=(g2.old bl (by omega)).trans mb1;have l2:load1 F M2 bl 0=some v1:=au mb2 0;have st:=aJ mb2 0 [v'] (by simp) w3;simp only[WX,B31,l2,e1,w2,st];have hA3:bm (M2.set bl (af 71 [v'])) c c2 b' 36 1 ov' (es++[[pv]]):=lH hA2 (by omega);refine⟨r.length,ay _,(hI _ _).2 ⟨c2,k,b',_,ov',v',cu++[t.2],es++[[pv]],r,(G2 (X2 (G1 (bB (X8 (X2 [])))))),rfl,rfl,?_,hA3,by rw[aG,aG,hel];rfl,by rw[aG];simp only[av,aM];omega,?_,am _ _ _,e2,?_⟩⟩
    ·refine⟨by omega,fun x hx hn=>?_,fun x hx=>?_⟩
     ·rw[ak _ _ hn,g2.old x hx];exact gx.old x hx hn
     ·rw[ak _ _ (by omega)];exact g2.new x hx
    ·intro i h1 h2;by_cases hi:i<es.length
     ·obtain⟨pv0,a1,a2⟩:=hes i hi (by omega);exact⟨pv0,by rw[eu hi];exact a1,by rw[eu (by omega)];exact a2⟩
     ·rw[aG]at h1;simp only[av,aM]at h1;obtain rfl:i=es.length:=by omega
      exact⟨pv,by rw[ej (aj _)];simp,by rw[ej (by omega)];simp only[hel,Nat.sub_self,List.getElem_cons_zero];exact hw⟩
    ·rw[hwe,dX,ac h1];simp
  ·rw[ag h1]at qe;simp only[WX,Gt,Gu,l0,n1,d0,ia,lt,qe,aB];exact FIN (G2 (X2 (G1 (bB (X8 (X2 [])))))) (by cases k with|zero=>rfl|succ k=>rw[dX,ab h1])
def DC:List T2→Option (List Pc×List T2)
 |t::r=>if t.1=[]then some (t.2,r)else none
 |[]=>none
theorem jC(t:T2)(r:List T2):DC (t::r)=if t.1=[]then some (t.2,r)else none:=rfl
theorem UW(ts:List T2):dX 1 ts=match DC ts with|some (w,r)=>([w],r)|none=>([],ts):=by
 cases ts with
 |nil=>rfl
 |cons t r=>
  rw[dX,jC];split<;>rfl
theorem w32(Φ:Nat→Option CF)(h:Φ 32=some W4)(h31:Φ 31=some Hc){F:RO}{lo cs bl b6 b7 c:Nat}{Ms M:Mem}{v:V}{y:Bool}{ts:List T2}(ok:cK F M c)(hcs:cs≤c)(hbl:bl<lo)(hlc:lo≤cs)(hb6:b6<c)(hb7:b7<c)(h67:cs≤b6)(h66:b6≠b7)(hB:Bk lo cs Ms M)(mb:M.get bl=some (af 71 [v]))(m6:M.get b6=some (af 4 [.b y]))(m7:M.get b7=some (af 74 [.f 31 [] [.p bl 0]]))(hT:wT lo cs Ms v ts):
 Calls Φ F 32 [.p b7 0,.p b6 0] M c fun r M' c'=>jq (fun x=>x=bl∨x=b6) c M c' M'∧((∃w rs v' pv,DC ts=some (w,rs)∧r= .g [pv]∧bO pv=true∧GO lo cs Ms pv w∧M'.get bl=some (af 71 [v'])∧wT lo cs Ms v' rs∧M'.get b6=some (af 4 [.b y]))∨(DC ts=none∧r= .g [.l0]∧(∃v',M'.get bl=some (af 71 [v'])∧wT lo cs Ms v' ts)∧M'.get b6=some (af 4 [.b true]))):=by
 refine aN h ?_
 have gX:=(Gr.refl ok).set c (af 36 [.l0]) (aj _) (ay _) (aH _)
 have mc:(M.set c (af 36 [.l0])).get c=some (af 36 [.l0]):=am _ _ _
 have l7:load1 F (M.set c (af 36 [.l0])) b7 0=some (.f 31 [] [.p bl 0]):=au ((gX.old b7 hb7).trans m7) 0
 simp only[WX,B32,l7]
 generalize M.set c (af 36 [.l0])=X at gX mc⊢
 have okX:=gX.ok ok
 refine aD ((w31 Φ h31 okX (by omega) hbl hlc (fun x a b=>(gX.old x (by omega)).trans (hB x a b)) ((gX.old bl (by omega)).trans mb) hT 1 (by decide)).mono ?_)
 rintro r M2 c2 ⟨g2,hW,v',mb2,hT2⟩
 have m62:M2.get b6=some (af 4 [.b y]):=(g2.old b6 (by omega) (by omega)).trans ((gX.old b6 hb6).trans m6)
 have mc2:M2.get c=some (af 36 [.l0]):=(g2.old c (by omega) (by omega)).trans mc
 have hle2:=g2.le
 have ok2:cK F M2 c2:=g2.ok okX (fun b hb hx=>by rw[hx];exact⟨_,(gX.old bl (by omega)).trans mb⟩)
 have GX:jq (fun x=>x=bl∨x=b6) c M c2 M2:=(jq.of gX).trans (g2.wk fun b _ hx=> .inl hx)
 rw[UW]at hW hT2
 have hG:∀v,flatten (V.g [v])=[v]:=fun _=>rfl
 obtain⟨ob,es,hA,hel,_,hes⟩:=hW
 have hS:=hA.sl (F:=F)
 have n2:=hS.len
 have BOX:∀(M':Mem) (w:V) (z:bJ),M'=(M2.set c2 z).set c (af 36 [w])→M'.get bl=M2.get bl∧M'.get b6=M2.get b6∧jq (fun x=>x=bl∨x=b6) c M (c2+1) M':=by
  intro M' w z e;subst e;refine⟨by rw[ak _ _ (by omega),ak _ _ (by omega)],by rw[ak _ _ (by omega),ak _ _ (by omega)],by omega,fun x hx hn=>?_,fun x hx=>?_⟩
  ·rw[ak _ _ (by omega),ak _ _ (by omega)];exact GX.old x hx hn
  ·rw[ak _ _ (by omega),ak _ _ (by omega)];exact GX.new x (by omega)
 cases ho:DC ts with
 |some wr=>
  obtain⟨w,rs⟩:=wr;rw[ho]at hel hes hT2;dsimp only at hel hes hT2;have hel:es.length=1:=hel;obtain⟨pv,e1,hw⟩:=hes 0 (by omega) (by simp);have hw:GO lo cs Ms pv w:=hw;obtain⟨p1,p2,p3⟩:=(hw F Ms fun _ _ _=>rfl).one;obtain⟨b,o,hb,ia,cl⟩:=hS.at 0 (by omega);rw[e1]at cl;have ia:fF 1 r (.i .i64 0)=some (.p b o):=ia .i64;have lp:loadN F M2 b o 1=some [pv]:=by have:=cl.load (by simp);exact this
  rw[hel]at n2;have d1:decide ((0:Int)<((1:Nat):Int))=true:=rfl;have sn:bS (M2.set c2 (af 36 [.l0])) c2 0 [pv]=some (M2.set c2 (af 36 [pv])):=dS rfl p3;have l4:loadN F (M2.set c2 (af 36 [pv])) c2 0 1=some [pv]:=aY (am _ _ _) 1 rfl;have mcx:(M2.set c2 (af 36 [pv])).get c=some (af 36 [.l0]):=(ak _ _ (by omega)).trans mc2;have sc:bS (M2.set c2 (af 36 [pv])) c 0 [pv]=some ((M2.set c2 (af 36 [pv])).set c (af 36 [pv])):=aJ mcx 0 [pv] (by simp) p3;have lr:loadN F ((M2.set c2 (af 36 [pv])).set c (af 36 [pv])) c 0 1=some [pv]:=aY (am _ _ _) 1 rfl;obtain⟨B1,B2,B3⟩:=BOX _ pv _ rfl;simp only[WX,reduceCtorEq,n2];rw[jf];simp only[WX,B32,d1,ia,lp,hG,sn,l4,sc,lr];exact⟨B3,w,rs,v',pv,rfl,rfl,p1,hw,B1.trans mb2,hT2,B2.trans m62⟩
 |none=>
  rw[ho]at hel hT2;dsimp only at hel hT2;have hel:es.length=0:=hel;rw[hel]at n2;have d1:decide ((0:Int)<((0:Nat):Int))=false:=rfl;have s6:bS M2 b6 0 [.b true]=some (M2.set b6 (af 4 [.b true])):=aJ m62 0 [.b true] (by simp) rfl;have mc3:(M2.set b6 (af 4 [.b true])).get c=some (af 36 [.l0]):=(ak _ _ (by omega)).trans mc2;have sc:bS (M2.set b6 (af 4 [.b true])) c 0 [.l0]=some ((M2.set b6 (af 4 [.b true])).set c (af 36 [.l0])):=aJ mc3 0 [.l0] (by simp) rfl;have lr:loadN F ((M2.set b6 (af 4 [.b true])).set c (af 36 [.l0])) c 0 1=some [.l0]:=aY (am _ _ _) 1 rfl;simp only[WX,reduceCtorEq,n2];rw[jf];simp only[WX,B32,d1,s6,sc,lr,hG];refine⟨⟨by omega,fun x hx hn=>?_,fun x hx=>?_⟩,.inr ⟨⟨v',?_,hT2⟩,?_⟩⟩
  ·rw[ak _ _ (by omega),ak _ _ (fun e=>hn (.inr e))];exact GX.old x hx hn
  ·rw[ak _ _ (by omega),ak _ _ (by omega)];exact GX.new x (by omega)
  ·rw[ak _ _ (by omega),ak _ _ (by omega),mb2]
  ·rw[ak _ _ (by omega)];exact am _ _ _
def GN(F:RO)(tl:List T2)(c:Nat)(M:Mem)(bl:Nat)(k:Nat)(M1:Mem)(c1:Nat):Prop:=cK F M1 c1∧jq (fun x=>x=bl) c M c1 M1∧ ∃(v:V) (b:Nat) (es:List (List V)),M1.get bl=some (af 71 [v])∧bm M1 c c1 b 59 2 v es∧es.length=k∧ ∀i (h:i<es.length),∃(h':i<tl.length) (pv:V) (lo hi:Nat),es[i]=[sV tl[i].1,pv]∧bO pv=true∧c≤lo∧hi≤c1∧(b<lo∨hi≤b)∧(∀F:RO,lD F M1 lo hi 2 pv (jm tl[i].2))∧tl[i].2.length≤Dy
theorem GN.start{F:RO}{tl:List T2}{c bl:Nat}{M:Mem}(ok:cK F M c)(mb:M.get bl=some (af 71 [.l0])):GN F tl c M bl 0 M c:=
 ⟨ok,jq.of (Gr.refl ok),.l0,0,[],mb,bm.nil,rfl,fun i h=>(by cases h)⟩
theorem GN.grow{F:RO}{tl:List T2}{c bl k c1 c2:Nat}{M M1 M2:Mem}(hbl:bl<c)(h:GN F tl c M bl k M1 c1)(g:Gr c1 M1 c2 M2):GN F tl c M bl k M2 c2:=by
 obtain⟨ok,gx,v,b,es,mb,hA,hl,he⟩:=h
 have hle:=gx.le
 have hle2:=g.le
 obtain⟨b',hA',hb'⟩:∃b',bm M2 c c2 b' 59 2 v es∧(b'=b∨es=[]):=by
  rcases hA with⟨a0,⟨a1,a2⟩|⟨a1,a2,a3,a4⟩⟩
  ·exact⟨b,⟨a0,.inl ⟨a1,a2⟩⟩,.inl rfl⟩
  ·exact⟨b,bm.gr ⟨a0,.inr ⟨a1,a2,a3,a4⟩⟩ g,.inl rfl⟩
 refine⟨g.ok ok,gx.trans (jq.of g),v,b',es,(g.old bl (by omega)).trans mb,hA',hl,fun i hi=>?_⟩
 obtain⟨h',pv,lo,hi2,e1,e2,e3,e4,e5,e6,e7⟩:=he i hi
 have hbb:b'=b:=hb'.resolve_right (by intro e;rw[e]at hi;cases hi)
 exact⟨h',pv,lo,hi2,e1,e2,e3,by omega,by rw[hbb];exact e5,fun F=>(e6 F).up (aj _) (aj _) (fun x _ hx=>g.old x (by omega)),e7⟩
theorem w29(Φ:Nat→Option CF)(h:Φ 29=some c29){F:RO}{tl:List T2}{c bl k c1 b0 at_:Nat}{M M1:Mem}{pv:V}(hbl:bl<c)(hI:GN F tl c M bl k M1 c1)(hk:k<tl.length)(hkl:k≤400000)(hp1:bO pv=true)(hpl:tl[k].2.length≤Dy)(hA:bm M1 c c1 b0 64 2 pv (jm tl[k].2)):
 Calls Φ F 29 [.i .i64 (at_:Int),.g [sV tl[k].1,pv],.p bl 0] M1 c1 fun r M' c'=>r= .b true∧GN F tl c M bl (k+1) M' c':=by
 refine aN h ?_
 have hI0:=hI
 obtain⟨ok,gx,v,b,es,mb,hA1,hl,he⟩:=hI
 have hle:=gx.le
 have hF:∀w,flatten (sV w)=[sV w]:=fun _=>rfl
 have hO:∀w,bO (sV w)=true:=fun _=>rfl
 have hG2:flatten (V.g [sV tl[k].1,pv])=[sV tl[k].1,pv]:=rfl
 have hAll:aL [sV tl[k].1,pv]=true:=by rw[aw,aw,bZ,hp1];rfl
 have g1:=(Gr.refl ok).set c1 (af 59 [sV tl[k].1,pv]) (aj _) (ay _) (aH _)
 have m1:(M1.set c1 (af 59 [sV tl[k].1,pv])).get c1=some (af 59 [sV tl[k].1,pv]):=am _ _ _
 have l1:loadN F (M1.set c1 (af 59 [sV tl[k].1,pv])) c1 0 2=some [sV tl[k].1,pv]:=aY m1 2 rfl
 have lb:load1 F (M1.set c1 (af 59 [sV tl[k].1,pv])) bl 0=some v:=au ((g1.old bl (by omega)).trans mb) 0
 generalize hX:M1.set c1 (af 59 [sV tl[k].1,pv])=X at g1 m1 l1 lb
 have okX:=g1.ok ok
 have gZ:=(Gr.refl okX).set (c1+1) (d7 [V.s 0 0,V.l0] 59 [sV tl[k].1,pv]) (aj _) (ay _) (aH _)
 have hy:cA F (X.set (c1+1) (d7 [V.s 0 0,V.l0] 59 [sV tl[k].1,pv])) (c1+2) 2 (.l (c1+1) 0 1 1) [[sV tl[k].1,pv]]:=J0 (d:=[V.s 0 0,V.l0]) (ty:=59) (by rw[am];rfl) (ay _) (fun e he=>by rw[List.mem_singleton]at he;subst he;rfl) rfl
 have GZ:Gr c1 M1 (c1+2) (X.set (c1+1) (d7 [V.s 0 0,V.l0] 59 [sV tl[k].1,pv])):=g1.trans gZ
 have gA:Gr c M1 (c1+2) (X.set (c1+1) (d7 [V.s 0 0,V.l0] 59 [sV tl[k].1,pv])):=⟨by omega,fun x hx=>GZ.old x (by omega),GZ.new⟩
 obtain⟨b1,hA2,hb1⟩:∃b1,bm (X.set (c1+1) (d7 [V.s 0 0,V.l0] 59 [sV tl[k].1,pv])) c (c1+2) b1 59 2 v es∧((b1=b∧b<c1∧M1.get b=some (qo 59 es.flatten))∨(es=[]∧c1≤b1)):=by
  rcases hA1 with⟨a0,⟨a1,a2⟩|⟨a1,a2,a3,a4⟩⟩
  ·exact⟨c1,⟨a0,.inl ⟨a1,a2⟩⟩,.inr ⟨a1,aj _⟩⟩
  ·exact⟨b,bm.gr ⟨a0,.inr ⟨a1,a2,a3,a4⟩⟩ GZ,.inl ⟨rfl,a2,a4⟩⟩
 simp only[WX,Nat.reduceAdd,B29,hG2,hAll,hX,l1,lb]
 refine aD ((hJ (bytes:=40) hA2 gA (by decide) hy (by show aL [sV tl[k].1,pv]=true;exact hAll) (fP (by simp only[av,aM];omega) (by simp only[av,aM];omega))).mono ?_)
 rintro v' M2 c2 ⟨b',hA3,g3,hle3,hfr,hb'⟩
 have w3:bO v'=true∧flatten v'=[v']∧aL [v']=true:=by
  rcases hA3 with⟨_,⟨_,rfl⟩|⟨_,_,rfl,_⟩⟩<;>exact⟨rfl,rfl,rfl⟩
 obtain⟨w1,w2,w3⟩:=w3
 have mb2:M2.get bl=some (af 71 [v]):=(g3.old bl (by omega)).trans mb
 have st:=aJ mb2 0 [v'] (by simp) w3
 simp only[WX,B29,w2,st]
 have OLD:∀x,x<c1→x≠bl→x≠b1→(M2.set bl (af 71 [v'])).get x=M1.get x:=fun x h1 h2 h3=>by
  rw[ak _ _ h2,hfr x (by omega) h3];exact GZ.old x h1
 have gF:jq (fun x=>x=bl∨x=b1) c1 M1 c2 (M2.set bl (af 71 [v'])):=⟨by omega,fun x h1 h2=>OLD x h1 (fun e=>h2 (.inl e)) (fun e=>h2 (.inr e)),fun x hx=>by rw[ak _ _ (by omega)];exact g3.new x hx⟩
 have okF:=gF.ok ok fun x hx hh=>by
  rcases hh with rfl|rfl
  ·exact⟨_,mb⟩
  ·rcases hb1 with⟨rfl,_,hm⟩|⟨_,hc⟩
   ·exact⟨_,hm⟩
   ·omega
 refine⟨okF,⟨by omega,fun x hx hn=>?_,gF.new⟩,v',b',es++[[sV tl[k].1,pv]],am _ _ _,lH hA3 (by omega),by rw[aG,hl];rfl,fun i hi=>?_⟩
 ·rw[ak _ _ hn];exact(g3.old x hx).trans (gx.old x hx hn)
 ·by_cases hie:i<es.length
  ·obtain⟨h',pv',lo,hi2,e1,e2,e3,e4,e5,e6,e7⟩:=he i hie;have hb1':b1<lo∨hi2≤b1:=by
    rcases hb1 with⟨rfl,_,_⟩|⟨_,hc⟩
    ·exact e5
    ·omega
   exact⟨h',pv',lo,hi2,by rw[eu hie];exact e1,e2,e3,by omega,by omega,fun F=>(e6 F).up (aj _) (aj _) (fun x h1 h2=>OLD x (by omega) (by omega) (by omega)),e7⟩
  ·rw[aG]at hi;simp only[av,aM]at hi;obtain rfl:i=es.length:=by omega
   subst hl;have ge:(es++[[sV tl[es.length].1,pv]])[es.length]'(by simp)=[sV tl[es.length].1,pv]:=by rw[ej (aj _)];simp
   rcases hA with⟨a0,⟨a1,a2⟩|⟨a1,a2,a3,a4⟩⟩
   ·refine⟨hk,pv,c,c,ge,hp1,aj _,by omega,by omega,?_,hpl⟩;rw[a2,a1];exact fun F=>bm.own (c0:=c) (b:=0) (ty:=64) bm.nil
   ·have hne:b0≠b1:=by
     rcases hb1 with⟨rfl,_,hm⟩|⟨_,hc⟩
     ·intro e;subst e;rw[a4]at hm;have:=ae hm;unfold qo at this;injection this with this
      exact absurd this (by decide)
     ·omega
    have hO1:∀F:RO,lD F M1 b0 (b0+1) 2 pv (jm tl[es.length].2):=fun F=>bm.own (c0:=b0) (b:=b0) (ty:=64) ⟨a0,.inr ⟨aj _,ay _,a3,a4⟩⟩;exact⟨hk,pv,b0,b0+1,ge,hp1,a1,by omega,by omega,fun F=>(hO1 F).up (aj _) (aj _) (fun x h1 h2=>OLD x (by omega) (by omega) (by omega)),hpl⟩
theorem GN.done{F:RO}{tl:List T2}{c bl c1:Nat}{M M1:Mem}(hbl:bl<c)(h:GN F tl c M bl tl.length M1 c1)(hl:tl.length≤1000000):∃v,M1.get bl=some (af 71 [v])∧wT c c1 M1 v tl:=by
 obtain⟨ok,gx,v,b,es,mb,hA,hel,he⟩:=h
 refine⟨v,mb,es,fun F M' hM'=>(hA.own (F:=F)) M' hM',hel,hl,fun i hi hi'=>?_⟩
 obtain⟨h',pv,lo,hi2,e1,e2,e3,e4,e5,e6,e7⟩:=he i hi
 exact⟨pv,e1,fun F M' hM'=>⟨(e6 F M' fun x h1 h2=>hM' x (by omega) (by omega)).upc e4,e7⟩⟩
theorem fc{s:List UInt8}{ts r:List T2}(h:isS s ts=some r):r.length+1=ts.length:=by
 cases ts with
 |nil=>cases h
 |cons t q=>
  rw[cC]at h;split at h
  ·injection h with h;rw[h];rfl
  ·cases h
theorem pp:∀(m:Nat) (ts:List T2),(dX m ts).1.length+(dX m ts).2.length=ts.length
 |0,ts=>by simp[dX]
 |_+1,[]=>rfl
 |m+1,t::r=>by
  rw[dX];split
  ·have:=pp m r;simp only[av];omega
  ·simp
theorem ux:∀(m:Nat) (ts:List T2),ts.length≤m→dX m ts=dX ts.length ts
 |0,ts,h=>by rw[show ts.length=0 by omega]
 |_+1,[],_=>rfl
 |m+1,t::r,h=>by
  rw[av,dX,dX,ux m r (by simpa using h)]
def cJ(ts:List T2):eF×List T2:=dX ts.length ts
def fo:Nat→List T2→List eF×List T2
 |0,ts=>([],ts)
 |f+1,ts=>match isS [124] ts with
  |some r=>((cJ r).1::(fo f (cJ r).2).1,(fo f (cJ r).2).2)
  |none=>([],ts)
def dm(ts:List T2):List eF×List T2:=fo ts.length ts
theorem tV:∀(f g:Nat) (ts:List T2),ts.length≤f→ts.length≤g→fo f ts=fo g ts
 |0,g,ts,h,_=>by
  have:ts=[]:=List.length_eq_zero_iff.1 (by omega);subst this;cases g<;>rfl
 |f+1,0,ts,_,h=>by
  have:ts=[]:=List.length_eq_zero_iff.1 (by omega);subst this;rfl
 |f+1,g+1,ts,h1,h2=>by
  unfold fo;cases hs:isS [124] ts with
  |none=>rfl
  |some r=>
   have hl:=fc hs;have hw:=pp r.length r;have:(cJ r).2.length≤r.length:=by unfold cJ;omega
   dsimp only;rw[tV f g _ (by omega) (by omega)]
theorem tU{ts r:List T2}(h:isS [124] ts=some r):dm ts=((cJ r).1::(dm (cJ r).2).1,(dm (cJ r).2).2):=by
 have hl:=fc h
 have hw:=pp r.length r
 have h2:(cJ r).2.length≤r.length:=by unfold cJ;omega
 unfold dm
 rw[←hl,fo,h]
 dsimp only
 rw[tV r.length (cJ r).2.length _ h2 (aj _)]
theorem o4{ts:List T2}(h:isS [124] ts=none):dm ts=([],ts):=by
 unfold dm
 cases hl:ts.length with
 |zero=>rfl
 |succ n=>rw[fo,h]
def redir(ts:List T2):List Pc×Bool×List T2:=match DC ts with
 |some (w,r)=>(w,false,r)
 |none=>([],true,ts)
def d6(ts:List T2):List Pc×Bool×List T2:=match isS [60] ts with
 |some r=>redir r
 |none=>([],false,ts)
def dK(ts:List T2):Bool×List Pc×Bool×List T2:=match isS [62,62] ts with
 |some r=>(true,redir r)
 |none=>match isS [62] ts with
  |some r=>(false,redir r)
  |none=>(false,[],false,ts)
def jk(ts:List T2):Bool×List T2:=match isS [33] ts with
 |some r=>(true,r)
 |none=>(false,ts)
def cY(j:Int)(ts:List T2):dD×Bool×List T2:=
 (⟨j,(jk ts).1,(d6 (cJ (jk ts).2).2).1,(dK (dm (d6 (cJ (jk ts).2).2).2.2).2).2.1,(dK (dm (d6 (cJ (jk ts).2).2).2.2).2).1,(cJ (jk ts).2).1::(dm (d6 (cJ (jk ts).2).2).2.2).1⟩,
   (d6 (cJ (jk ts).2).2).2.1||(dK (dm (d6 (cJ (jk ts).2).2).2.2).2).2.2.1,(dK (dm (d6 (cJ (jk ts).2).2).2.2).2).2.2.2)
def eO(ts:List T2):Option (Int×List T2):=match isS [59] ts with
 |some r=>some (1,r)
 |none=>match isS [38,38] ts with
  |some r=>some (2,r)
  |none=>match isS [124,124] ts with
   |some r=>some (3,r)
   |none=>none
theorem pV{ts r:List T2}{j:Int}(h:eO ts=some (j,r)):r.length<ts.length:=by
 unfold eO at h
 split at h
 ·rename_i q hq;have:=fc hq;injection h with h;injection h with _ h;subst h;omega
 ·split at h
  ·rename_i q hq;have:=fc hq;injection h with h;injection h with _ h;subst h;omega
  ·split at h
   ·rename_i q hq;have:=fc hq;injection h with h;injection h with _ h;subst h;omega
   ·cases h
theorem qj(ts:List T2):(redir ts).2.2.length≤ts.length:=by
 unfold redir
 cases ts with
 |nil=>exact aj _
 |cons t r=>
  rw[jC];split
  ·rename_i w q h;split at h
   ·injection h with h;injection h with _ h;subst h;simp
   ·cases h
  ·exact aj _
theorem Ad(ts:List T2):(d6 ts).2.2.length≤ts.length:=by
 unfold d6
 split
 ·rename_i r h;have:=fc h;have:=qj r;omega
 ·exact aj _
theorem Sg(ts:List T2):(dK ts).2.2.2.length≤ts.length:=by
 unfold dK
 split
 ·rename_i r h;have:=fc h;have:=qj r;dsimp only;omega
 ·split
  ·rename_i r h;have:=fc h;have:=qj r;dsimp only;omega
  ·exact aj _
theorem Xb(ts:List T2):(jk ts).2.length≤ts.length:=by
 unfold jk
 split
 ·rename_i r h;have:=fc h;dsimp only;omega
 ·exact aj _
theorem jU(ts:List T2):(cJ ts).2.length≤ts.length:=by
 have:=pp ts.length ts;unfold cJ;omega
theorem wm:∀(f:Nat) (ts:List T2),(fo f ts).2.length≤ts.length
 |0,_=>aj _
 |f+1,ts=>by
  rw[fo];split
  ·rename_i r h;have:=fc h;have:=jU r;have:=wm f (cJ r).2;dsimp only;omega
  ·exact aj _
theorem qd(j:Int)(ts:List T2):(cY j ts).2.2.length≤ts.length:=by
 have h1:=Xb ts
 have h2:=jU (jk ts).2
 have h3:=Ad (cJ (jk ts).2).2
 have h4:(dm (d6 (cJ (jk ts).2).2).2.2).2.length≤_:=wm _ _
 have h5:=Sg (dm (d6 (cJ (jk ts).2).2).2.2).2
 show(dK (dm (d6 (cJ (jk ts).2).2).2.2).2).2.2.2.length≤_
 omega
def fG:Nat→Int→List T2→List dD×Bool×List T2
 |0,_,ts=>([],true,ts)
 |f+1,j,ts=>match eO (cY j ts).2.2 with
  |none=>([(cY j ts).1],(cY j ts).2.1,(cY j ts).2.2)
  |some (j',r)=>((cY j ts).1::(fG f j' r).1,(cY j ts).2.1||(fG f j' r).2.1,(fG f j' r).2.2)
theorem tJ:∀(f g:Nat) (j:Int) (ts:List T2),ts.length<f→ts.length<g→fG f j ts=fG g j ts
 |0,_,_,_,h,_=>by omega
 |_,0,_,_,_,h=>by omega
 |f+1,g+1,j,ts,h1,h2=>by
  unfold fG;cases hj:eO (cY j ts).2.2 with
  |none=>rfl
  |some x=>
   obtain⟨j',r⟩:=x;have:=pV hj;have:=qd j ts;dsimp only;rw[tJ f g j' r (by omega) (by omega)]
def dU(j:Int)(ts:List T2):List dD×Bool×List T2:=fG (ts.length+1) j ts
theorem tH{j:Int}{ts:List T2}(h:eO (cY j ts).2.2=none):dU j ts=([(cY j ts).1],(cY j ts).2.1,(cY j ts).2.2):=by
 unfold dU;rw[fG,h]
theorem tI{j j':Int}{ts r:List T2}(h:eO (cY j ts).2.2=some (j',r)):dU j ts=((cY j ts).1::(dU j' r).1,(cY j ts).2.1||(dU j' r).2.1,(dU j' r).2.2):=by
 have:=pV h
 have:=qd j ts
 unfold dU;rw[fG,h]
 dsimp only
 rw[tJ ts.length (r.length+1) j' r (by omega) (by omega)]
def dJ(s:List UInt8):List T2:=(tk s 0).map (·.2)
def IY(s:List UInt8):List dD×Int:=
 if 4096<s.length then([],3)
 else if rS s=false then([],4)
 else if((dU 0 (dJ s)).2.1||(decide (0<(dU 0 (dJ s)).2.2.length)|| !t4 (dU 0 (dJ s)).1))=true then([],4)
 else((dU 0 (dJ s)).1,0)
def VD(M:Mem)(lo c ty sz:Nat)(v:V)(n:Nat):Prop:=(n=0∧v= .l0)∨ ∃b,lo≤b∧b<c∧(v= .l b 0 n n∨v= .u b 0 n 0 n)∧ ∃ex d t,M.get b=some (.cells ty (n*sz) ex 0 false d t)
def CmT(F:RO)(lo:Nat)(M:Mem)(c:Nat)(v:V)(l:eF):Prop:=ff F M c v l∧VD M lo c 36 1 v l.length
def Yq(F:RO)(lo:Nat)(M:Mem)(c:Nat)(e:List V)(l:eF):Prop:=∃x,e=[x]∧CmT F lo M c x l
def CsT(F:RO)(lo:Nat)(M:Mem)(c:Nat)(v:V)(l:List eF):Prop:=cg F (Yq F lo) 1 M c v l∧VD M lo c 42 1 v l.length
def Jd(F:RO)(lo:Nat)(M:Mem)(c:Nat)(e:List V)(p:dD):Prop:=∃vi vo vc,e=[.i .i64 p.join,.b p.nt,vi,vo,.b p.beh,vc]∧dw F M c vi p.inp∧dw F M c vo p.out∧CsT F lo M c vc p.cmds
def LnT(F:RO)(lo:Nat)(M:Mem)(c:Nat)(v:V)(l:List dD):Prop:=cg F (Jd F lo) 6 M c v l∧VD M lo c 39 6 v l.length
theorem cg.imp{α:Type}{F:RO}{R R':Mem→Nat→List V→α→Prop}{sz:Nat}{M:Mem}{c c':Nat}{v:V}{l:List α}(h:cg F R sz M c v l)(hc:c≤c')(hR:∀e x,R M c e x→R' M c' e x):cg F R' sz M c' v l:=by
 obtain⟨es,h1,h2,h3,h4⟩:=h
 exact⟨es,h1.upc hc,h2,h3,fun i h h'=>hR _ _ (h4 i h h')⟩
theorem Yq.c1{F:RO}{lo:Nat}{M:Mem}{c:Nat}(e:List V)(l:eF)(h:Yq F lo M c e l):C1 F M c e l:=by obtain⟨x,h1,h2⟩:=h;exact⟨x,h1,h2.1⟩
theorem CsT.cs{F:RO}{lo:Nat}{M:Mem}{c:Nat}{v:V}{l:List eF}(h:CsT F lo M c v l):jg F M c v l:=cg.imp h.1 (aj _) Yq.c1
theorem Jd.p1{F:RO}{lo:Nat}{M:Mem}{c:Nat}(e:List V)(p:dD)(h:Jd F lo M c e p):P1 F M c e p:=by
 obtain⟨vi,vo,vc,h1,h2,h3,h4⟩:=h;exact⟨vi,vo,vc,h1,h2,h3,h4.cs⟩
theorem LnT.ln{F:RO}{lo:Nat}{M:Mem}{c:Nat}{v:V}{l:List dD}(h:LnT F lo M c v l):iF F M c v l:=cg.imp h.1 (aj _) Jd.p1
theorem VD.up{M:Mem}{lo lo' c c' ty sz n:Nat}{v:V}(h:VD M lo c ty sz v n)(hl:lo'≤lo)(hc:c≤c'):VD M lo' c' ty sz v n:=by
 rcases h with h|⟨b,h1,h2,h3⟩
 ·exact .inl h
 ·exact .inr ⟨b,by omega,by omega,h3⟩
theorem W1.upc{F:RO}{M:Mem}{c c':Nat}(hc:c≤c')(e:List V)(w:List Pc)(h:W1 F M c e w):W1 F M c' e w:=by obtain⟨x,h1,h2⟩:=h;exact⟨x,h1,h2.upc hc⟩
theorem CmT.up{F:RO}{lo lo':Nat}{M:Mem}{c c':Nat}{v:V}{l:eF}(h:CmT F lo M c v l)(hl:lo'≤lo)(hc:c≤c'):CmT F lo' M c' v l:=⟨cg.imp h.1 hc (W1.upc hc),h.2.up hl hc⟩
theorem Yq.up{F:RO}{lo lo':Nat}{M:Mem}{c c':Nat}(hl:lo'≤lo)(hc:c≤c')(e:List V)(l:eF)(h:Yq F lo M c e l):Yq F lo' M c' e l:=by obtain⟨x,h1,h2⟩:=h;exact⟨x,h1,h2.up hl hc⟩
theorem CsT.up{F:RO}{lo lo':Nat}{M:Mem}{c c':Nat}{v:V}{l:List eF}(h:CsT F lo M c v l)(hl:lo'≤lo)(hc:c≤c'):CsT F lo' M c' v l:=⟨cg.imp h.1 hc (Yq.up hl hc),h.2.up hl hc⟩
theorem Jd.up{F:RO}{lo lo':Nat}{M:Mem}{c c':Nat}(hl:lo'≤lo)(hc:c≤c')(e:List V)(p:dD)(h:Jd F lo M c e p):Jd F lo' M c' e p:=by
 obtain⟨vi,vo,vc,h1,h2,h3,h4⟩:=h;exact⟨vi,vo,vc,h1,h2.upc hc,h3.upc hc,h4.up hl hc⟩
theorem BO{M:Mem}{c0 c b ty sz:Nat}{v:V}{es:List (List V)}(h:bm M c0 c b ty sz v es):VD M c0 c ty sz v es.length:=by
 have hl:=eV h.1
 rcases h with⟨h0,⟨rfl,rfl⟩|⟨h1,h2,rfl,h3⟩⟩
 ·exact .inl ⟨rfl,rfl⟩
 ·refine .inr ⟨b,h1,h2,.inr rfl,?_⟩;unfold qo at h3;rw[hl]at h3;exact⟨_,_,_,h3⟩
def wP(lo cs:Nat)(Ms M:Mem)(a b:Nat)(P:Mem→Prop):Prop:=∀M',Bk lo cs Ms M'→(∀x,a≤x→x<b→M'.get x=M.get x)→P M'
theorem wP.up{lo cs:Nat}{Ms M M2:Mem}{a b:Nat}{P:Mem→Prop}(h:wP lo cs Ms M a b P)(hM:∀x,a≤x→x<b→M2.get x=M.get x):wP lo cs Ms M2 a b P:=fun M' h1 h2=>h M' h1 fun x h3 h4=>(h2 x h3 h4).trans (hM x h3 h4)
theorem zw.own{F:RO}{lo cs:Nat}{Ms M:Mem}{c0 c:Nat}{v:V}{l:eF}(h:zw lo cs Ms M c0 c v l)(hc:cs≤c):wP lo cs Ms M c0 c fun M'=>CmT F c0 M' c v l:=by
 intro M' h1 h2
 obtain⟨b,es,hA,hl,hb,he⟩:=h
 have hA':bm M' c0 c b 36 1 v es:=by
  rcases hA with⟨a0,a|⟨a1,a2,a3,a4⟩⟩
  ·exact⟨a0,.inl a⟩
  ·exact⟨a0,.inr ⟨a1,a2,a3,by rw[h2 b a1 a2];exact a4⟩⟩
 refine⟨⟨es,hA'.sl,hl,bc hb (by decide),fun i h h'=>?_⟩,by rw[←hl];exact BO hA'⟩
 obtain⟨pv,e,hw⟩:=he i h h'
 exact⟨pv,e,(hw F M' h1).upc hc⟩
theorem zw.one{lo cs:Nat}{Ms M:Mem}{c0 c:Nat}{v:V}{l:eF}(h:zw lo cs Ms M c0 c v l):bO v=true∧flatten v=[v]∧aL [v]=true:=by
 obtain⟨b,es,hA,_⟩:=h
 exact mZ (hA.sl (F:=[]))
def GK(M:Mem)(a c:Nat)(vc:V)(b:Nat)(es:List (List V)):Prop:=(∀e∈es,e.length=1)∧a≤b∧b<c∧((es.length=1∧vc= .l b 0 1 1∧M.get b=some (d7 [V.l0] 42 es.flatten))∨(vc= .u b 0 es.length 0 es.length∧M.get b=some (qo 42 es.flatten)))
theorem GK.one{M:Mem}{a c:Nat}{vc:V}{b:Nat}{es:List (List V)}(h:GK M a c vc b es):bO vc=true∧flatten vc=[vc]∧aL [vc]=true:=by
 obtain⟨_,_,_,⟨_,rfl,_⟩|⟨rfl,_⟩⟩:=h<;>exact⟨rfl,rfl,rfl⟩
theorem GK.up{M M2:Mem}{a c c2:Nat}{vc:V}{b:Nat}{es:List (List V)}(h:GK M a c vc b es)(hc:c≤c2)(hM:M2.get b=M.get b):GK M2 a c2 vc b es:=by
 obtain⟨h0,h1,h2,h3⟩:=h
 refine⟨h0,h1,by omega,?_⟩
 rw[hM];exact h3
theorem GK.sl{F:RO}{M:Mem}{a c:Nat}{vc:V}{b:Nat}{es:List (List V)}(h:GK M a c vc b es):cA F M c 1 vc es:=by
 obtain⟨h0,h1,h2,⟨h3,rfl,h4⟩|⟨rfl,h4⟩⟩:=h
 ·exact J0 (d:=[V.l0]) (ty:=42) h4 h2 h0 h3
 ·exact bm.sl (c0:=a) (b:=b) (ty:=42) ⟨h0,.inr ⟨h1,h2,rfl,h4⟩⟩
theorem GK.sh{M:Mem}{a c:Nat}{vc:V}{b:Nat}{es:List (List V)}(h:GK M a c vc b es):VD M a c 42 1 vc es.length:=by
 obtain⟨h0,h1,h2,⟨h3,rfl,h4⟩|⟨rfl,h4⟩⟩:=h
 ·refine .inr ⟨b,h1,h2,.inl (by rw[h3]),?_⟩;have hl:=eV h0;unfold d7 at h4;rw[hl]at h4;exact⟨_,_,_,h4⟩
 ·exact BO ⟨h0,.inr ⟨h1,h2,rfl,h4⟩⟩
theorem Wk{F:RO}{M1:Mem}{a c y b:Nat}{vc wv:V}{es:List (List V)}(h:GK M1 a c vc b es)(ok1:cK F M1 c)(hw:bO wv=true)(hy:y<c)(hby:b≠y)(hyM:M1.get y=some (d7 [V.l0] 42 [wv]))(hn:es.length≤1000000):
 lw (rB F M1 c 42 1 24 vc (.l y 0 1 1)) fun v' M' c'=>∃b',GK M' a c' v' b' (es++[[wv]])∧c≤c'∧(b'=b∨c≤b')∧(∀x,x<c→x≠b→M'.get x=M1.get x)∧(∀x,c'≤x→M'.get x=none):=by
 have hys:cA F M1 c 1 (.l y 0 1 1) [[wv]]:=J0 (d:=[V.l0]) (ty:=42) hyM hy (fun e he=>by rw[List.mem_singleton]at he;subst he;rfl) rfl
 have hw1:aL [[wv]].flatten=true:=by show aL [wv]=true;rw[aw,bZ,hw];rfl
 have hall:∀e∈es++[[wv]],e.length=1:=by
  intro e he;rcases List.mem_append.1 he with he|he
  ·exact h.1 e he
  ·rw[List.mem_singleton]at he;subst he;rfl
 have hr:mA (es.length+[[wv]].length) 24=true:=fP (by simp only[av,aM];omega) (by simp only[av,aM];omega)
 have hsl:=h.sl (F:=F)
 obtain⟨h0,h1,h2,⟨h3,rfl,h4⟩|⟨rfl,h4⟩⟩:=h
 ·refine(VY (bytes:=24) hsl h3 (by decide) hys (by simp) hw1 hr).mono ?_;rintro v' M' c' ⟨rfl,rfl,rfl⟩;refine⟨c,⟨hall,by omega,ay _,.inr ⟨rfl,am _ _ _⟩⟩,aH _,.inr (aj _),fun x hx _=>ak _ _ (by omega),fun x hx=>by rw[ak _ _ (by omega)];exact ok1.hiM x (by omega)⟩
 ·have hA:bm M1 a c b 42 1 (.u b 0 es.length 0 es.length) es:=⟨h0,.inr ⟨h1,h2,rfl,h4⟩⟩
  have hg:Gr a M1 c M1:=⟨by omega,fun _ _=>rfl,ok1.hiM⟩
  refine(hJ (bytes:=24) hA hg (by decide) hys hw1 hr).mono ?_;rintro v' M' c' ⟨b',hA2,g2,hle,hf,hb'⟩;refine⟨b',?_,hle,hb',hf,g2.new⟩;rcases hA2 with⟨a0,⟨a1,a2⟩|⟨a1,a2,a3,a4⟩⟩
  ·exact absurd a1 (by simp)
  ·exact⟨hall,a1,a2,.inr ⟨a3,a4⟩⟩
abbrev iT(u:List (Option V))(x0 x2 x4 x5 x6 x7 x8 x9 x10 x11:V):T:=(.n (.n (.n (.n (aq u 63 31 95 15 79 47 111) (some x7) (aq u 71 39 103 23 87 55 119)) (uO u 3) (.n (aq u 67 35 99 19 83 51 115) (some x11) (aq u 75 43 107 27 91 59 123))) (uO u 1) (.n (.n (aq u 65 33 97 17 81 49 113) (some x9) (aq u 73 41 105 25 89 57 121)) (some x5) (.n (aq u 69 37 101 21 85 53 117) (uO u 13) (aq u 77 45 109 29 93 61 125)))) (some x0) (.n (.n (.n (aq u 64 32 96 16 80 48 112) (some x8) (aq u 72 40 104 24 88 56 120)) (some x4) (.n (aq u 68 36 100 20 84 52 116) (uO u 12) (aq u 76 44 108 28 92 60 124))) (some x2) (.n (.n (aq u 66 34 98 18 82 50 114) (some x10) (aq u 74 42 106 26 90 58 122)) (some x6) (.n (aq u 70 38 102 22 86 54 118) (uO u 14) (aq u 78 46 110 30 94 62 126)))))
def Yw:CC:=(.reg [(aa a2 (.al 25 [.l0])),(qq a3 (.mv (x6 0)))])
def bK1:=wu Yw.eq_1
def Yx:CC:=(.reg [(qq fh (.mv z0)),(qq dM (.ln .str gb)),(qq fu (.bi .gtr gK (x6 4096)))])
def bK2:=wu Yx.eq_1
def Yy:CC:=(.reg [(qq gL (.bld [.l0] [])),(ez (.st 1 z2 iB)),(qq a3 (.mv (x6 3)))])
def bK3:=wu Yy.eq_1
def Yz:CC:=(.seq Yx (.cond iA (.seq Yy .ret) .skip))
def bK4:=wu Yz.eq_1
def YA:CC:=(.reg [(qq fy (.mv z0)),(qq jr (.mkf 29 [] [z4])),(ee gH (.call 28 [iC,l8])),(qq fY (.un .not la))])
def bK5:=wu YA.eq_1
def YB:CC:=(.reg [(qq jt (.bld [.l0] [])),(ez (.st 1 z2 lA)),(qq a3 (.mv (x6 4)))])
def bK6:=wu YB.eq_1
def YC:CC:=(.seq YA (.cond kL (.seq YB .ret) .skip))
def bK7:=wu YC.eq_1
def YD:CC:=(.reg [(qq gU (.mkf 30 [] [z4])),(qq a5 (.mv lg))])
def bK8:=wu YD.eq_1
def YE:CC:=(.reg [(aa a6 (.al 4 [(.b false)])),(ez (.st 1 z6 xF))])
def bK9:=wu YE.eq_1
def JD:CC:=(.reg [(qq jX (.mkf 31 [] [z4])),(aa a7 (.al 74 [.f0])),(ez (.st 1 z7 kM))])
def aZ3:=wu JD.eq_1
def JE:CC:=(.reg [(qq gv (.mkf 32 [] [z7,z6])),(qq a8 (.mv lB))])
def aZ4:=wu JE.eq_1
def JF:CC:=(.reg [(aa a9 (.al 25 [.l0]))])
def aZ5:=wu JF.eq_1
def JG:CC:=(.reg [(qq dT (.mv (x6 0)))])
def aZ6:=wu JG.eq_1
def JH:CC:=(.reg [(qq kd (.mv ft)),(qq gV (.mv z5)),(ee lE (.cv nn [(.c (.s 1 33))])),(qq ip (.bld [(.i .i64 0),(.b false),.l0,.l0,(.b false),.l0] [(0,1,nl),(1,1,nK)])),(aa eP (.al 39 [(.i .i64 0),(.b false),.l0,.l0,(.b false),.l0])),(ez (.st 6 dL ot))])
def aZ7:=wu JH.eq_1
def xd:CC:=(.reg [(qq ke (.ld1 z7)),(qq lj (.mv z0)),(qq np (.ln .str pq)),(ee nM (.cv oz [pz])),(qq jY (.bld [.l0] [(0,1,ru)])),(aa jZ (.bsl 42 1 1 [.l0] [(0,rv)])),(qq nN (.fa 5 dL)),(ez (.st 1 sC rx))])
def aZ8:=wu xd.eq_1
def JI:CC:=(.reg [(qq k8 (.mv z5)),(ee nq (.cv qF [(.c (.s 1 60))]))])
def aZ9:=wu JI.eq_1
def JJ:CC:=(.reg [(qq mN (.mv z8)),(ee pC (.cv rV [])),(qq js (.fa 2 dL)),(ez (.st 1 ry sD))])
def b00:=wu JJ.eq_1
def xe:CC:=(.seq JI (.cond rU JJ .skip))
def b01:=wu xe.eq_1
def JK:CC:=(.reg [(qq lF (.mv z5)),(ee pD (.cv sE [(.c (.s 1 124))]))])
def b02:=wu JK.eq_1
def BS:CC:=(.seq JK (.cond sF .skip (.exit 2)))
def b03:=wu BS.eq_1
def BT:CC:=(.dreg 11 [(0,0,(qq ng (.fa 5 dL))),(1,1,(qq pE (.ld1 rW))),(2,0,(qq lG (.ld1 z7))),(3,0,(qq pF (.mv z0))),(4,8,(qq kQ (.ln .str sG))),(5,28,(ee nh (.cv vm [uE]))),(6,60,(qq px (.bld [.l0] [(0,1,vn)]))),(7,124,(aa rA (.bsl 42 1 1 [.l0] [(0,vp)]))),(8,255,(ee oD (.app 42 1 24 rX uM))),(9,511,(qq sP (.fa 5 dL))),(10,1023,(ez (.st 1 wM vq)))])
def b04:=wu BT.eq_1
def BU:CC:=(.reg [(qq pG (.mv z5)),(ee pH (.cv za [(.c (.s 2 15934))])),(qq uI (.fa 4 dL)),(ez (.st 1 wN zl))])
def b05:=wu BU.eq_1
def JL:CC:=(.reg [(qq vw (.fa 4 dL)),(qq vz (.ld1 Bx)),(qq rZ (.mv Bd)),(aA vA (.mv z5) rZ),(lV s5 (.cv Bf [(.c (.s 1 62))]) rZ),(qq sQ (.pk Be xT Bz))])
def El:=wu JL.eq_1
def BV:CC:=(.reg [(qq ou (.mv z8)),(ee vC (.cv zm [])),(qq uT (.fa 3 dL)),(ez (.st 1 zb BA))])
def b06:=wu BV.eq_1
def BW:CC:=(.seq JL (.cond Bg BV .skip))
def Em:=wu BW.eq_1
def BX:CC:=(.reg [(qq oE (.fa 0 z9)),(qq qJ (.ld1 zn)),(qq uU (.ldn 6 dL)),(aa uV (.bsl 39 1 6 [(.i .i64 0),(.b false),.l0,.l0,(.b false),.l0] [(0,zo)])),(ee vD (.app 39 6 96 wO zp)),(qq py (.fa 0 z9)),(ez (.st 1 Bh BB))])
def b07:=wu BX.eq_1
def JM:CC:=(.reg [(ee vE (.call 33 [])),(qq fA (.mv (x6 0)))])
def b08:=wu JM.eq_1
def JN:CC:=(.reg [(qq qK (.bi .lss uF (x6 4)))])
def b09:=wu JN.eq_1
def JO:CC:=(.cond BD .skip (.exit 4))
def b10:=wu JO.eq_1
def JP:CC:=(.reg [(qq uJ (.mv uF)),(qq wW (.ixA1 4 1 BC uF)),(qq fg (.mv BE)),(qq eQ (.mv BF))])
def b11:=wu JP.eq_1
def JQ:CC:=(.reg [(qq zc (.mv z5)),(qq zd (.mv ed)),(ee ze (.cv EK [EL]))])
def b12:=wu JQ.eq_1
def JR:CC:=(.reg [(qq vF (.mv eN)),(qq dT (.mv GB))])
def b13:=wu JR.eq_1
def JS:CC:=(.cond EM (.seq JR (.exit 1)) .skip)
def b14:=wu JS.eq_1
def JT:CC:=(.reg [(qq zx (.bi .add uF (x6 1))),(qq fA (.mv GC))])
def b15:=wu JT.eq_1
def JU:CC:=(.seq JO (.seq (.block 5 (.seq JP (.seq JQ JS))) JT))
def b16:=wu JU.eq_1
def BZ:CC:=(.seq (.seq JM (.block 4 (.loop (.seq JN JU)))) (.exit 0))
def b17:=wu BZ.eq_1
def C0:CC:=(.seq (.block 2 (.loop (.seq BS (.block 3 BT)))) (.seq (.seq BU BW) (.seq BX BZ)))
def TJ:=wu C0.eq_1
def JV:CC:=(.loop (.block 1 (.seq JH (.seq xd (.seq xe C0)))))
def b18:=wu JV.eq_1
def xf:CC:=(.reg [(qq pI (.ld1 z6)),(qq uW (.mv GD)),(aA BJ (.ld1 z4) uW),(aA wX (.ln .slice GF) uW),(aA BK (.bi .gtr GG (x6 0)) uW),(qq BL (.pk GE xT IK)),(qq sR (.mv GH)),(aA EU (.ldn 1 z9) sR),(lV GT (.call 17 [IM]) sR),(aA EV (.bi .neq J1 (x6 0)) sR),(qq EW (.pk IL xT J2))])
def TL:=wu xf.eq_1
def JW:CC:=(.reg [(qq BM (.bld [.l0] [])),(ez (.st 1 z2 J4)),(qq a3 (.mv (x6 4)))])
def b19:=wu JW.eq_1
def xj:CC:=(.cond J3 (.seq JW .ret) .skip)
def b20:=wu xj.eq_1
def xn:CC:=(.reg [(qq GU (.ldn 1 z9)),(ez (.st 1 z2 J5)),(qq a3 (.mv (x6 0)))])
def b21:=wu xn.eq_1
def JX:CC:=(.seq (.block 0 JV) (.seq (.seq xf xj) (.seq xn .ret)))
def b22:=wu JX.eq_1
def JY:CC:=(.seq JE (.seq JF (.seq JG (.seq .skip JX))))
def b23:=wu JY.eq_1
def JZ:CC:=(.seq (.reg [(aa a4 (.al 71 [.l0]))]) (.seq YC (.seq YD (.seq YE (.seq JD JY)))))
def b24:=wu JZ.eq_1
def K0:CC:=(.reg [(qq kd (.mv ft)),(qq gV (.mv z5)),(ee lE (.cv nn [(.c (.s 1 33))])),(qq ip (.bld [(.i .i64 0),(.b false),.l0,.l0,(.b false),.l0] [(0,1,nl),(1,1,nK)])),(aa eP (.al 39 [(.i .i64 0),(.b false),.l0,.l0,(.b false),.l0])),(ez (.st 6 dL ot))])
def b25:=wu K0.eq_1
def K1:CC:=(.reg [(qq ke (.ld1 z7)),(qq lj (.mv z0)),(qq np (.ln .str pq)),(ee nM (.cv oz [pz])),(qq jY (.bld [.l0] [(0,1,ru)])),(aa jZ (.bsl 42 1 1 [.l0] [(0,rv)])),(qq nN (.fa 5 dL)),(ez (.st 1 sC rx))])
def b26:=wu K1.eq_1
def K8:CC:=(.reg [(qq k8 (.mv z5)),(ee nq (.cv qF [(.c (.s 1 60))]))])
def b27:=wu K8.eq_1
def Ka:CC:=(.reg [(qq mN (.mv z8)),(ee pC (.cv rV [])),(qq js (.fa 2 dL)),(ez (.st 1 ry sD))])
def b28:=wu Ka.eq_1
def Kb:CC:=(.seq K8 (.cond rU Ka .skip))
def b29:=wu Kb.eq_1
def Kc:CC:=(.reg [(qq lF (.mv z5)),(ee pD (.cv sE [(.c (.s 1 124))]))])
def b30:=wu Kc.eq_1
def Kd:CC:=(.seq Kc (.cond sF .skip (.exit 2)))
def b31:=wu Kd.eq_1
def Ke:CC:=(.dreg 11 [(0,0,(qq ng (.fa 5 dL))),(1,1,(qq pE (.ld1 rW))),(2,0,(qq lG (.ld1 z7))),(3,0,(qq pF (.mv z0))),(4,8,(qq kQ (.ln .str sG))),(5,28,(ee nh (.cv vm [uE]))),(6,60,(qq px (.bld [.l0] [(0,1,vn)]))),(7,124,(aa rA (.bsl 42 1 1 [.l0] [(0,vp)]))),(8,255,(ee oD (.app 42 1 24 rX uM))),(9,511,(qq sP (.fa 5 dL))),(10,1023,(ez (.st 1 wM vq)))])
def b32:=wu Ke.eq_1
def Kf:CC:=(.reg [(qq pG (.mv z5)),(ee pH (.cv za [(.c (.s 2 15934))])),(qq uI (.fa 4 dL)),(ez (.st 1 wN zl))])
def b33:=wu Kf.eq_1
def Kg:CC:=(.reg [(qq vw (.fa 4 dL)),(qq vz (.ld1 Bx)),(qq rZ (.mv Bd)),(aA vA (.mv z5) rZ),(lV s5 (.cv Bf [(.c (.s 1 62))]) rZ),(qq sQ (.pk Be xT Bz))])
def b34:=wu Kg.eq_1
def Kh:CC:=(.reg [(qq ou (.mv z8)),(ee vC (.cv zm [])),(qq uT (.fa 3 dL)),(ez (.st 1 zb BA))])
def b35:=wu Kh.eq_1
def Ki:CC:=(.seq Kg (.cond Bg Kh .skip))
def b36:=wu Ki.eq_1
def Kj:CC:=(.reg [(qq oE (.fa 0 z9)),(qq qJ (.ld1 zn)),(qq uU (.ldn 6 dL)),(aa uV (.bsl 39 1 6 [(.i .i64 0),(.b false),.l0,.l0,(.b false),.l0] [(0,zo)])),(ee vD (.app 39 6 96 wO zp)),(qq py (.fa 0 z9)),(ez (.st 1 Bh BB))])
def b37:=wu Kj.eq_1
def Kk:CC:=(.reg [(ee vE (.call 33 [])),(qq fA (.mv (x6 0)))])
def b38:=wu Kk.eq_1
def Kl:CC:=(.reg [(qq qK (.bi .lss uF (x6 4)))])
def b39:=wu Kl.eq_1
def Km:CC:=(.cond BD .skip (.exit 4))
def b40:=wu Km.eq_1
def Ko:CC:=(.reg [(qq uJ (.mv uF)),(qq wW (.ixA1 4 1 BC uF)),(qq fg (.mv BE)),(qq eQ (.mv BF))])
def b41:=wu Ko.eq_1
def Kq:CC:=(.reg [(qq zc (.mv z5)),(qq zd (.mv ed)),(ee ze (.cv EK [EL]))])
def b42:=wu Kq.eq_1
def Kr:CC:=(.reg [(qq vF (.mv eN)),(qq dT (.mv GB))])
def b43:=wu Kr.eq_1
def Ks:CC:=(.cond EM (.seq Kr (.exit 1)) .skip)
def b44:=wu Ks.eq_1
def Kt:CC:=(.reg [(qq zx (.bi .add uF (x6 1))),(qq fA (.mv GC))])
def b45:=wu Kt.eq_1
def Ku:CC:=(.seq Km (.seq (.block 5 (.seq Ko (.seq Kq Ks))) Kt))
def b46:=wu Ku.eq_1
def Kv:CC:=(.seq (.seq Kk (.block 4 (.loop (.seq Kl Ku)))) (.exit 0))
def b47:=wu Kv.eq_1
def Kw:CC:=(.seq (.block 2 (.loop (.seq Kd (.block 3 Ke)))) (.seq (.seq Kf Ki) (.seq Kj Kv)))
def b48:=wu Kw.eq_1
def Kx:CC:=(.loop (.block 1 (.seq K0 (.seq K1 (.seq Kb Kw)))))
def b49:=wu Kx.eq_1
def Ky:CC:=(.reg [(qq pI (.ld1 z6)),(qq uW (.mv GD)),(aA BJ (.ld1 z4) uW),(aA wX (.ln .slice GF) uW),(aA BK (.bi .gtr GG (x6 0)) uW),(qq BL (.pk GE xT IK)),(qq sR (.mv GH)),(aA EU (.ldn 1 z9) sR),(lV GT (.call 17 [IM]) sR),(aA EV (.bi .neq J1 (x6 0)) sR),(qq EW (.pk IL xT J2))])
def b50:=wu Ky.eq_1
def Kz:CC:=(.reg [(qq BM (.bld [.l0] [])),(ez (.st 1 z2 J4)),(qq a3 (.mv (x6 4)))])
def b51:=wu Kz.eq_1
def KA:CC:=(.cond J3 (.seq Kz .ret) .skip)
def b52:=wu KA.eq_1
def KB:CC:=(.reg [(qq GU (.ldn 1 z9)),(ez (.st 1 z2 J5)),(qq a3 (.mv (x6 0)))])
def b53:=wu KB.eq_1
def KC:CC:=(.seq (.block 0 Kx) (.seq (.seq Ky KA) (.seq KB .ret)))
def b54:=wu KC.eq_1
def KD:CC:=(.scope (.seq Yz JZ) (.tab 0 (.seq .skip KC) .skip))
def b55:=wu KD.eq_1
def c10:CF:= .mk 7 [.cn a2 1,.t a3] (.seq Yw KD)
theorem e10(v0:V):bz 7 [v0]=(.n vg (some v0) vg):=rfl
def nb:=ai @e10 (ai @bK1 (ai @bK2 (ai @bK3 (ai @bK4 (ai @bK5 (ai @bK6 (ai @bK7 (ai @bK8 (ai @bK9 (ai @aZ3 (ai @aZ4 (ai @aZ5 (ai @aZ6 (ai @aZ7 (ai @aZ8 (ai @aZ9 (ai @b00 (ai @b01 (ai @b02 (ai @b03 (ai @b04 (ai @b05 (ai @El (ai @b06 (ai @Em (ai @b07 (ai @b08 (ai @b09 (ai @b10 (ai @b11 (ai @b12 (ai @b13 (ai @b14 (ai @b15 (ai @b16 (ai @b17 (ai @TJ (ai @b18 (ai @TL (ai @b19 (ai @b20 (ai @b21 (ai @b22 (ai @b23 (ai @b24 (ai @b25 (ai @b26 (ai @b27 (ai @b28 (ai @b29 (ai @b30 (ai @b31 (ai @b32 (ai @b33 (ai @b34 (ai @b35 (ai @b36 (ai @b37 (ai @b38 (ai @b39 (ai @b40 (ai @b41 (ai @b42 (ai @b43 (ai @b44 (ai @b45 (ai @b46 (ai @b47 (ai @b48 (ai @b49 (ai @b50 (ai @b51 (ai @b52 (ai @b53 (ai @b54 (@b55))))))))))))))))))))))))))))))))))))))))))))))))))))))))))))))))))))))))))))
structure IR(lo cs bl c1:Nat)(M1:Mem):Prop where
 h1:bl<lo
 h2:lo≤cs
 h3:cs+3≤c1
 m7:M1.get (cs+1)=some (af 74 [.f 31 [] [.p bl 0]])
structure RS(F:RO)(lo cs:Nat)(Ms:Mem)(bl:Nat)(M1:Mem)(c1:Nat)(M2:Mem)(c2:Nat)(bad:Bool)(ts:List T2):Prop where
 g:jq (fun x=>x=bl∨x=cs) c1 M1 c2 M2
 ok:cK F M2 c2
 tk:∃v,M2.get bl=some (af 71 [v])∧wT lo cs Ms v ts
 m6:M2.get cs=some (af 4 [.b bad])
 bk:Bk lo cs Ms M2
theorem RS.grx{F:RO}{lo cs bl c1 c2 c3:Nat}{Ms M1 M2 M3:Mem}{bad bad':Bool}{ts ts':List T2}(h:RS F lo cs Ms bl M1 c1 M2 c2 bad ts)(h1:bl<lo)(h2:lo≤cs)(h3:cs<c1)(g:jq (fun x=>x=bl∨x=cs) c2 M2 c3 M3)(htk:∃v,M3.get bl=some (af 71 [v])∧wT lo cs Ms v ts')(m6:M3.get cs=some (af 4 [.b bad'])):RS F lo cs Ms bl M1 c1 M3 c3 bad' ts':=by
 have hle:=h.g.le
 refine⟨h.g.trans g,g.ok h.ok fun b hb hx=>?_,htk,m6,fun x a b=>(g.old x (by omega) (by omega)).trans (h.bk x a b)⟩
 rcases hx with rfl|rfl
 ·obtain⟨v,hv,_⟩:=h.tk;exact⟨_,hv⟩
 ·exact⟨_,h.m6⟩
theorem RS.grow{F:RO}{lo cs bl c1 c2 c3:Nat}{Ms M1 M2 M3:Mem}{bad:Bool}{ts:List T2}(h:RS F lo cs Ms bl M1 c1 M2 c2 bad ts)(h1:bl<lo)(h2:lo≤cs)(h3:cs<c1)(g:Gr c2 M2 c3 M3):RS F lo cs Ms bl M1 c1 M3 c3 bad ts:=by
 have hle:=h.g.le
 obtain⟨v,hv,ht⟩:=h.tk
 exact h.grx h1 h2 h3 (jq.of g) ⟨v,(g.old _ (by omega)).trans hv,ht⟩ ((g.old _ (by omega)).trans h.m6)
theorem RS.put{F:RO}{lo cs bl c1 c2:Nat}{Ms M1 M2:Mem}{bad:Bool}{ts:List T2}(h:RS F lo cs Ms bl M1 c1 M2 c2 bad ts)(h1:bl<lo)(h2:lo≤cs)(h3:cs<c1){x:Nat}{y z:bJ}(hx:c1≤x)(hx2:x<c2)(hm:M2.get x=some y):RS F lo cs Ms bl M1 c1 (M2.set x z) c2 bad ts:=by
 have hle:=h.g.le
 obtain⟨v,hv,ht⟩:=h.tk
 refine⟨⟨hle,fun b hb hn=>by rw[ak _ _ (by omega)];exact h.g.old b hb hn,fun b hb=>by rw[ak _ _ (by omega)];exact h.g.new b hb⟩,h.ok.put hx2 hm,⟨v,by rw[ak _ _ (by omega)];exact hv,ht⟩,by rw[ak _ _ (by omega)];exact h.m6,fun b h4 h5=>by rw[ak _ _ (by omega)];exact h.bk b h4 h5⟩
theorem RS.fr{F:RO}{lo cs bl c1 c2 c3:Nat}{Ms M1 M2 M3:Mem}{bad:Bool}{ts:List T2}(h:RS F lo cs Ms bl M1 c1 M2 c2 bad ts)(h1:bl<lo)(h2:lo≤cs)(h3:cs<c1)(g:jq (fun x=>c1≤x) c2 M2 c3 M3)(ok:cK F M3 c3):RS F lo cs Ms bl M1 c1 M3 c3 bad ts:=by
 have hle:=h.g.le
 have hle2:=g.le
 obtain⟨v,hv,ht⟩:=h.tk
 refine⟨⟨by omega,fun x a b=>(g.old x (by omega) (by omega)).trans (h.g.old x a b),g.new⟩,ok,⟨v,(g.old bl (by omega) (by omega)).trans hv,ht⟩,(g.old cs (by omega) (by omega)).trans h.m6,fun x a b=>(g.old x (by omega) (by omega)).trans (h.bk x a b)⟩
theorem WW(Φ:Nat→Option CF)(h30:Φ 30=some Vl){F:RO}{lo cs bl c1 c2:Nat}{Ms M1 M2:Mem}{bad:Bool}{ts:List T2}(h:RS F lo cs Ms bl M1 c1 M2 c2 bad ts)(h1:bl<lo)(h2:lo≤cs)(h3:cs<c1)(s:List UInt8):
 Calls Φ F 30 [sV s,.p bl 0] M2 c2 fun r M' c'=>c'=c2∧(∀x,x≠bl→M'.get x=M2.get x)∧((∃rs,isS s ts=some rs∧r= .b true∧RS F lo cs Ms bl M1 c1 M' c2 bad rs)∨(isS s ts=none∧r= .b false∧RS F lo cs Ms bl M1 c1 M' c2 bad ts)):=by
 obtain⟨v,hv,ht⟩:=h.tk
 have hle:=h.g.le
 refine(w30 Φ h30 h.bk hv ht s).mono ?_
 rintro r M' c' ⟨rfl,⟨rs,v',e1,rfl,rfl,e2⟩|⟨e1,rfl,rfl⟩⟩
 ·exact⟨rfl,fun x hx=>ak _ _ hx,.inl ⟨rs,e1,rfl,h.grx h1 h2 h3 (jq.set h.ok (by omega) (.inl rfl) _) ⟨v',am _ _ _,e2⟩ (by rw[ak _ _ (by omega)];exact h.m6)⟩⟩
 ·exact⟨rfl,fun _ _=>rfl,.inr ⟨e1,rfl,h⟩⟩
theorem bD6(Φ:Nat→Option CF)(h32:Φ 32=some W4)(h31:Φ 31=some Hc){F:RO}{lo cs bl c1 c2:Nat}{Ms M1 M2:Mem}{bad:Bool}{ts:List T2}(cx:IR lo cs bl c1 M1)(h:RS F lo cs Ms bl M1 c1 M2 c2 bad ts):
 Calls Φ F 32 [.p (cs+1) 0,.p cs 0] M2 c2 fun r M' c'=>∃pv,r= .g [pv]∧bO pv=true∧GO lo cs Ms pv (redir ts).1∧RS F lo cs Ms bl M1 c1 M' c' (bad||(redir ts).2.1) (redir ts).2.2∧(∀x,x<c2→x≠bl→x≠cs→M'.get x=M2.get x)∧c2≤c':=by
 obtain⟨h1,h2,h3,m7⟩:=cx
 obtain⟨v,hv,ht⟩:=h.tk
 have hle:=h.g.le
 refine(w32 Φ h32 h31 h.ok (by omega) h1 h2 (by omega) (by omega) (aj _) (by omega) h.bk hv h.m6 ((h.g.old (cs+1) (by omega) (by omega)).trans m7) ht).mono ?_
 rintro r M' c' ⟨g,⟨w,rs,v',pv,e1,rfl,e2,e3,e4,e5,e6⟩|⟨e1,rfl,e2,e3⟩⟩
 ·have hr:redir ts=(w,false,rs):=by unfold redir;rw[e1]
  rw[hr];exact⟨pv,rfl,e2,e3,h.grx h1 h2 (by omega) g ⟨v',e4,e5⟩ (by rw[e6];cases bad<;>rfl),fun x a b d=>g.old x a (by omega),g.le⟩
 ·have hr:redir ts=([],true,ts):=by unfold redir;rw[e1]
  rw[hr];exact⟨.l0,rfl,rfl,fun F M' _=>⟨⟨fun e he=>(by cases he),.inl ⟨rfl,.inl rfl⟩⟩,ax _⟩,h.grx h1 h2 (by omega) g e2 (by rw[e3];cases bad<;>rfl),fun x a b d=>g.old x a (by omega),g.le⟩
theorem wdR(Φ:Nat→Option CF)(h31:Φ 31=some Hc){F:RO}{lo cs bl c1 c2 m:Nat}{Ms M1 M2:Mem}{bad:Bool}{ts:List T2}(cx:IR lo cs bl c1 M1)(h:RS F lo cs Ms bl M1 c1 M2 c2 bad ts)(hm:ts.length≤m)(hm2:m≤1000000):
 Calls Φ F 31 [.i .i64 (m:Int),.p bl 0] M2 c2 fun r M' c'=>RS F lo cs Ms bl M1 c1 M' c' bad (cJ ts).2∧zw lo cs Ms M' c2 c' r (cJ ts).1∧(∀x,x<c2→x≠bl→M'.get x=M2.get x)∧c2≤c':=by
 obtain⟨h1,h2,h3,m7⟩:=cx
 obtain⟨v,hv,ht⟩:=h.tk
 have hle:=h.g.le
 refine(w31 Φ h31 h.ok (by omega) h1 h2 h.bk hv ht m hm2).mono ?_
 rintro r M' c' ⟨g,hW,htk⟩
 rw[ux m ts hm]at hW htk
 exact⟨h.grx h1 h2 (by omega) (g.wk fun _ _ e=> .inl e) htk ((g.old cs (by omega) (by omega)).trans h.m6),hW,fun x a b=>g.old x a b,g.le⟩
theorem n18(Φ:Nat→Option CF)(h30:Φ 30=some Vl)(h31:Φ 31=some Hc)(h32:Φ 32=some W4){F:RO}{lo cs bl c c1 c2:Nat}{Ms M1 M2:Mem}{bad:Bool}{ts:List T2}{s:List UInt8}{j:Int}{nt:Bool}{vc:V}(cx:IR lo cs bl c1 M1)(h:RS F lo cs Ms bl M1 c1 M2 c2 bad ts)(hc:c1<c2)(mp:M2.get c1=some (af 39 [.i .i64 j,.b nt,.l0,.l0,.b false,vc]))(u:List (Option V))(Q:Ex→St→Prop)
 (hQ:∀(u:List (Option V)) M' c' vi,RS F lo cs Ms bl M1 c1 M' c' (bad||(d6 ts).2.1) (d6 ts).2.2→bO vi=true→GO lo cs Ms vi (d6 ts).1→M'.get c1=some (af 39 [.i .i64 j,.b nt,vi,.l0,.b false,vc])→c2≤c'→(∀x,c1<x→x<c2→M'.get x=M2.get x)→Q .nrm (.mk ((iT u (sV s) (.p c 0) (.p bl 0) (.f 30 [] [.p bl 0]) (.p cs 0) (.p (cs+1) 0) (.f 32 [] [.p (cs+1) 0,.p cs 0]) (.p (cs+2) 0) (.i .i64 j) (.p c1 0))) [] M' c')):
 Wp xe (K Φ none 10 F) (.mk ((iT u (sV s) (.p c 0) (.p bl 0) (.f 30 [] [.p bl 0]) (.p cs 0) (.p (cs+1) 0) (.f 32 [] [.p (cs+1) 0,.p cs 0]) (.p (cs+2) 0) (.i .i64 j) (.p c1 0))) [] M2 c2) Q:=by
 have QS:V.s 1 60=sV [60]:=rfl
 have hx:=cx.h1;have hx2:=cx.h2;have hx3:=cx.h3
 simp only[WX,nb]
 rw[QS]
 refine aD ((WW Φ h30 h cx.h1 cx.h2 (by omega) [60]).mono ?_)
 rintro r M3 c3 ⟨rfl,hf,⟨rs,e1,rfl,hR⟩|⟨e1,rfl,hR⟩⟩
 ·have hi:d6 ts=redir rs:=by unfold d6;rw[e1]
  rw[hi]at hQ;simp only[WX,nb];refine aD ((bD6 Φ h32 h31 cx hR).mono ?_);rintro r M4 c4 ⟨pv,rfl,p1,p2,hR4,hf4,hlt⟩;have hle:=hR4.g.le;have m4:M4.get c1=some (af 39 [.i .i64 j,.b nt,.l0,.l0,.b false,vc]):=(hf4 c1 hc (by omega) (by omega)).trans ((hf c1 (by omega)).trans mp);have hG:flatten (V.g [pv])=[pv]:=rfl;have st:=aJ m4 2 [pv] (by simp) (by rw[aw,bZ,p1];rfl);simp only[WX,Nat.reduceAdd,hG,st];exact hQ (G1 (X1 (G1 (X1 (G8 (bD (bK (bB (X2 (X1 [])))))))))) _ _ pv (hR4.put cx.h1 cx.h2 (by omega) (aj _) (by omega) m4) p1 p2 (am _ _ _) hlt (fun x a b=>by rw[ak _ _ (by omega),hf4 x b (by omega) (by omega)];exact hf x (by omega))
 ·have hi:d6 ts=([],false,ts):=by unfold d6;rw[e1]
  rw[hi,Bool.or_false]at hQ;simp only[WX];exact hQ (G1 (X1 (G1 (X1 (G8 (bD (bK (bB (X2 (X1 [])))))))))) _ _ .l0 hR rfl (fun F M' _=>⟨⟨fun e he=>(by cases he),.inl ⟨rfl,.inl rfl⟩⟩,ax _⟩) ((hf c1 (by omega)).trans mp) (aj _) (fun x a b=>hf x (by omega))
def Bn(F:RO)(lo cs:Nat)(Ms M:Mem)(a c:Nat)(vc:V)(cl:List eF):Prop:=∃b es,GK M a c vc b es∧es.length=cl.length∧cl.length≤1000000∧ ∀i (h:i<es.length) (h':i<cl.length),∃wv l h2,es[i]=[wv]∧a≤l∧l≤h2∧h2≤c∧(b<l∨h2≤b)∧wP lo cs Ms M l h2 fun M'=>CmT F l M' h2 wv cl[i]
theorem Bn.keep{F:RO}{lo cs:Nat}{Ms M M2:Mem}{a c c2:Nat}{vc:V}{cl:List eF}(h:Bn F lo cs Ms M a c vc cl)(hc:c≤c2)(hM:∀x,a≤x→x<c→M2.get x=M.get x):Bn F lo cs Ms M2 a c2 vc cl:=by
 obtain⟨b,es,hv,h1,h2,h3⟩:=h
 refine⟨b,es,hv.up hc (hM b hv.2.1 hv.2.2.1),h1,h2,fun i hi hi'=>?_⟩
 obtain⟨wv,l,h2,e1,e2,e3,e4,e5,e6⟩:=h3 i hi hi'
 exact⟨wv,l,h2,e1,e2,e3,by omega,e5,e6.up fun x a1 a2=>hM x (by omega) (by omega)⟩
theorem Bn.own{F:RO}{lo cs:Nat}{Ms M:Mem}{a c:Nat}{vc:V}{cl:List eF}(h:Bn F lo cs Ms M a c vc cl):wP lo cs Ms M a c fun M'=>CsT F a M' c vc cl:=by
 intro M' hB hM
 obtain⟨b,es,hv,h1,h2,h3⟩:=h
 have hv':GK M' a c vc b es:=hv.up (aj _) (hM b hv.2.1 hv.2.2.1)
 refine⟨⟨es,hv'.sl,h1,bc h2 (by decide),fun i hi hi'=>?_⟩,by rw[←h1];exact hv'.sh⟩
 obtain⟨wv,l,h2,e1,e2,e3,e4,e5,e6⟩:=h3 i hi hi'
 exact⟨wv,e1,(e6 M' hB fun x a1 a2=>hM x (by omega) (by omega)).up e2 e4⟩
theorem Bn.one{F:RO}{lo cs:Nat}{Ms M:Mem}{a c:Nat}{vc:V}{cl:List eF}(h:Bn F lo cs Ms M a c vc cl):bO vc=true∧flatten vc=[vc]∧aL [vc]=true:=by
 obtain⟨b,es,hv,_⟩:=h;exact hv.one
theorem Bn.len{F:RO}{lo cs:Nat}{Ms M:Mem}{a c:Nat}{vc:V}{cl:List eF}(h:Bn F lo cs Ms M a c vc cl):cl.length≤1000000:=by
 obtain⟨b,es,hv,_,h2,_⟩:=h;exact h2
theorem u5{j:Int}{nt beh:Bool}{vi vo vc:V}(h1:bO vi=true)(h2:bO vo=true)(h3:bO vc=true):aL [.i .i64 j,.b nt,vi,vo,.b beh,vc]=true:=by
 rw[aw,aw,aw,aw,aw,aw,bZ,h1,h2,h3];rfl
theorem n15(Φ:Nat→Option CF)(h31:Φ 31=some Hc){F:RO}{lo cs bl c c1 c2:Nat}{Ms M1 M2:Mem}{bad:Bool}{ts:List T2}{s:List UInt8}{j:Int}{nt:Bool}(cx:IR lo cs bl c1 M1)(h:RS F lo cs Ms bl M1 c1 M2 c2 bad ts)(hc:c1<c2)(hm:ts.length≤s.length)(hs:s.length≤400000)(mp:M2.get c1=some (af 39 [.i .i64 j,.b nt,.l0,.l0,.b false,.l0]))(u:List (Option V))(Q:Ex→St→Prop)
 (hQ:∀(u:List (Option V)) M' c' vc,RS F lo cs Ms bl M1 c1 M' c' bad (cJ ts).2→Bn F lo cs Ms M' (c1+1) c' vc [(cJ ts).1]→M'.get c1=some (af 39 [.i .i64 j,.b nt,.l0,.l0,.b false,vc])→c2≤c'→Q .nrm (.mk ((iT u (sV s) (.p c 0) (.p bl 0) (.f 30 [] [.p bl 0]) (.p cs 0) (.p (cs+1) 0) (.f 32 [] [.p (cs+1) 0,.p cs 0]) (.p (cs+2) 0) (.i .i64 j) (.p c1 0))) [] M' c')):
 Wp xd (K Φ none 10 F) (.mk ((iT u (sV s) (.p c 0) (.p bl 0) (.f 30 [] [.p bl 0]) (.p cs 0) (.p (cs+1) 0) (.f 32 [] [.p (cs+1) 0,.p cs 0]) (.p (cs+2) 0) (.i .i64 j) (.p c1 0))) [] M2 c2) Q:=by
 have hx:=cx.h1;have hx2:=cx.h2;have hx3:=cx.h3
 have l7:load1 F M2 (cs+1) 0=some (.f 31 [] [.p bl 0]):=au ((h.g.old (cs+1) (by omega) (by omega)).trans cx.m7) 0
 simp only[WX,nb,l7]
 refine aD ((wdR Φ h31 cx h hm (by omega)).mono ?_)
 rintro r M3 c3 ⟨hR,hW,hf,hle⟩
 obtain⟨w1,w2,w3⟩:=hW.one
 have hG:∀v,flatten (V.g [v])=[v]:=fun _=>rfl
 have gZ:=(Gr.refl hR.ok).set c3 (d7 [V.l0] 42 [r]) (aj _) (ay _) (aH _)
 have m3:(M3.set c3 (d7 [V.l0] 42 [r])).get c1=some (af 39 [.i .i64 j,.b nt,.l0,.l0,.b false,.l0]):=(ak _ _ (by omega)).trans ((hf c1 hc (by omega)).trans mp)
 have st:=aJ m3 5 [.l c3 0 1 1] (by simp) rfl
 simp only[WX,Nat.reduceAdd,Nat.reduceLeDiff,hG,w1,w2,st]
 have hR3:=(hR.grow cx.h1 cx.h2 (by omega) gZ).put cx.h1 cx.h2 (by omega) (aj _) (z:=af 39 (over [.i .i64 j,.b nt,.l0,.l0,.b false,.l0] 5 [.l c3 0 1 1])) (by omega) m3
 refine hQ (G1 (X1 (G1 (X1 (G8 (bD (bK (bB (X2 (X1 [])))))))))) _ _ (.l c3 0 1 1) hR3 ?_ (am _ _ _) (by omega)
 refine⟨c3,[[r]],⟨fun e he=>by rw[List.mem_singleton]at he;subst he;rfl,by omega,ay _,.inl ⟨rfl,rfl,by rw[ak _ _ (by omega)];exact am _ _ _⟩⟩,rfl,by show 1≤1000000;omega,fun i hi hi'=>?_⟩
 have hi0:i=0:=by simp only[av,aM]at hi;omega
 subst hi0
 refine⟨r,c2,c3,rfl,by omega,by omega,by omega,by omega,?_⟩
 have:=(hW.own (F:=F) (by omega)).up (M2:=(M3.set c3 (d7 [V.l0] 42 [r])).set c1 (af 39 (over [.i .i64 j,.b nt,.l0,.l0,.b false,.l0] 5 [.l c3 0 1 1]))) fun x a1 a2=>by rw[ak _ _ (by omega),ak _ _ (by omega)]
 exact this
theorem n21(Φ:Nat→Option CF)(h30:Φ 30=some Vl)(h31:Φ 31=some Hc){F:RO}{lo cs bl c c1 c2:Nat}{Ms M1 M2:Mem}{bad:Bool}{ts:List T2}{s:List UInt8}{j:Int}{nt:Bool}{vi vc:V}{cl:List eF}(cx:IR lo cs bl c1 M1)(h:RS F lo cs Ms bl M1 c1 M2 c2 bad ts)(hc:c1<c2)(hm:ts.length≤s.length)(hs:s.length≤400000)(hvi:bO vi=true)(mp:M2.get c1=some (af 39 [.i .i64 j,.b nt,vi,.l0,.b false,vc]))(hca:Bn F lo cs Ms M2 (c1+1) c2 vc cl)(hcl:cl.length+ts.length≤900000)(u:List (Option V))(Q:Ex→St→Prop)
 (hQ:∀(u:List (Option V)) M' c' vc,RS F lo cs Ms bl M1 c1 M' c' bad (dm ts).2→Bn F lo cs Ms M' (c1+1) c' vc (cl++(dm ts).1)→M'.get c1=some (af 39 [.i .i64 j,.b nt,vi,.l0,.b false,vc])→c2≤c'→Q (.ext 2) (.mk ((iT u (sV s) (.p c 0) (.p bl 0) (.f 30 [] [.p bl 0]) (.p cs 0) (.p (cs+1) 0) (.f 32 [] [.p (cs+1) 0,.p cs 0]) (.p (cs+2) 0) (.i .i64 j) (.p c1 0))) [] M' c')):
 Wp (.loop (.seq BS (.block 3 BT))) (K Φ none 10 F) (.mk ((iT u (sV s) (.p c 0) (.p bl 0) (.f 30 [] [.p bl 0]) (.p cs 0) (.p (cs+1) 0) (.f 32 [] [.p (cs+1) 0,.p cs 0]) (.p (cs+2) 0) (.i .i64 j) (.p c1 0))) [] M2 c2) Q:=by
 have hx:=cx.h1;have hx2:=cx.h2;have hx3:=cx.h3
 have c124:V.s 1 124=sV [124]:=rfl
 obtain⟨I,hI⟩:∃I:Nat→St→Prop,∀n s',I n s'↔(∃(c3:Nat) (M3:Mem) (tr:List T2) (vc':V) (cu:List eF) (u:List (Option V)),n=tr.length∧s'= .mk ((iT u (sV s) (.p c 0) (.p bl 0) (.f 30 [] [.p bl 0]) (.p cs 0) (.p (cs+1) 0) (.f 32 [] [.p (cs+1) 0,.p cs 0]) (.p (cs+2) 0) (.i .i64 j) (.p c1 0))) [] M3 c3∧RS F lo cs Ms bl M1 c1 M3 c3 bad tr∧c2≤c3∧tr.length≤s.length∧cu.length+tr.length≤900000∧M3.get c1=some (af 39 [.i .i64 j,.b nt,vi,.l0,.b false,vc'])∧Bn F lo cs Ms M3 (c1+1) c3 vc' cu∧cl++(dm ts).1=cu++(dm tr).1∧(dm ts).2=(dm tr).2):=⟨fun n s'=>_,fun _ _=>Iff.rfl⟩
 refine bw I ?_ ts.length _ ((hI _ _).2 ⟨_,_,_,_,_,(G1 (X1 (G1 (X1 (G8 (bD (bK (bB (X2 (X1 [])))))))))),rfl,rfl,h,aj _,hm,hcl,mp,hca,rfl,rfl⟩)
 intro n s' hIs
 obtain⟨c3,M3,tr,vc',cu,u,rfl,rfl,hR,hle,hml,hcu,mp3,hca3,he1,he2⟩:=(hI _ _).1 hIs
 clear hIs
 simp only[WX,nb]
 rw[c124]
 refine aD ((WW Φ h30 hR cx.h1 cx.h2 (by omega) [124]).mono ?_)
 rintro r M4 c4 ⟨rfl,hf,⟨rs,e1,rfl,hR4⟩|⟨e1,rfl,hR4⟩⟩
 ·have hrl:=fc e1;have hp:=tU e1;have mp4:=(hf c1 (by omega)).trans mp3;have l5:load1 F M4 c1 5=some vc':=au mp4 5;have l7:load1 F M4 (cs+1) 0=some (.f 31 [] [.p bl 0]):=au ((hR4.g.old (cs+1) (by omega) (by omega)).trans cx.m7) 0;have hca4:Bn F lo cs Ms M4 (c1+1) c4 vc' cu:=hca3.keep (aj _) fun x a1 a2=>hf x (by omega);have hfr:=hR4.ok.free;simp only[WX,nb,l5,l7];have g5:Gr c4 M4 (c4+11) M4:=(Gr.refl hR4.ok).up (by omega);have hR5:=hR4.grow cx.h1 cx.h2 (by omega) g5;obtain⟨v,hv,ht⟩:=hR5.tk;refine bl5 (hx:=fun x=>x=bl) _ _ _ _ _ _ _ _ _ _ _ hR5.ok (by intro e he;simp only[bh,List.not_mem_nil,or_false]at he;rcases he with rfl|rfl<;>show¬_=bl<;>dsimp only<;>omega) (fun b hb hx=>by rw[hx];exact⟨_,hv⟩) ?_;intro F1 N1 okn hlk hkp;have hkp2:∀x,x<cs→N1.get x=M4.get x:=fun x hx=>hkp x (by intro e he;simp only[bh,List.not_mem_nil,or_false]at he;rcases he with rfl|rfl<;>dsimp only<;>omega);refine(show lw (cT (iu Φ) F1 31 [.i .i64 (s.length:Int),.p bl 0] N1 (c4+11) (Φ 31)) _ from(w31 Φ h31 okn (by omega) hx hx2 (fun x a b=>(hkp2 x b).trans (hR5.bk x a b)) ((hkp2 bl (by omega)).trans hv) ht s.length (by omega)).mono ?_);rintro wv N2 c5 ⟨gN,hW,v2,hv2,ht2⟩;rw[ux s.length rs (by omega)]at hW ht2;refine⟨gN,fun M6 g6 hM6=>?_⟩;have hle6:=g6.le;have hR6:RS F lo cs Ms bl M1 c1 M6 c5 bad (cJ rs).2:=hR5.grx cx.h1 cx.h2 (by omega) (g6.wk fun _ _ e=> .inl e) ⟨v2,(hM6 bl (.inr rfl)).trans hv2,ht2⟩ ((g6.old cs (by omega) (by omega)).trans hR5.m6);have hW6:zw lo cs Ms M6 (c4+11) c5 wv (cJ rs).1:=by
   obtain⟨b,es,hA,a2,a3,a4⟩:=hW;refine⟨b,es,?_,a2,a3,a4⟩;rcases hA with⟨a0,a|⟨b1,b2,b3,b4⟩⟩
   ·exact⟨a0,.inl a⟩
   ·exact⟨a0,.inr ⟨b1,b2,b3,by rw[hM6 b (.inl b1)];exact b4⟩⟩
  obtain⟨w1,w2,w3⟩:=hW6.one;have mp6:=(g6.old c1 (by omega) (by omega)).trans mp4;have hca6:Bn F lo cs Ms M6 (c1+1) c4 vc' cu:=hca4.keep (aj _) fun x a1 a2=>g6.old x (by omega) (by omega);have lk:(look F M6 (c4+7)).isNone=true:=by rw[cH (g6.old _ (by omega) (by omega)),hR4.ok.look (by omega)];rfl
  have rf:bU (c4+7) [(2,cs+1),(1,c1)]=true:=by rw[aU _ _ _ _ (by omega),aU _ _ _ _ (by omega),cF]
  have hG:∀v,flatten (V.g [v])=[v]:=fun _=>rfl;simp only[WX,Nat.reducePow,Nat.reduceDiv,Nat.reduceMod,Nat.reduceBEq,Nat.reduceLeDiff,lk,rf,uw,mj,rq,hG,w1,w2,Re];obtain⟨b,es,hvA,q1,q2,q3⟩:=hca4;have hb1:=hvA.2.1;have hb2:=hvA.2.2.1;have gZ4:jq (fun x=>x=bl∨x=cs) c4 M4 c5 (M6.set (c4+7) (d7 [V.l0] 42 [wv])):=⟨by omega,fun x a b=>by rw[ak _ _ (by omega)];exact g6.old x (by omega) (fun e=>b (.inl e)),fun x a=>by rw[ak _ _ (by omega)];exact g6.new x a⟩
  have hRZ:=hR4.grx (bad':=bad) (ts':=(cJ rs).2) cx.h1 cx.h2 (by omega) gZ4 ⟨v2,(ak _ _ (by omega)).trans ((hM6 bl (.inr rfl)).trans hv2),ht2⟩ ((ak _ _ (by omega)).trans ((g6.old cs (by omega) (by omega)).trans hR4.m6));have hM4:∀x,c1≤x→x<c4→(M6.set (c4+7) (d7 [V.l0] 42 [wv])).get x=M4.get x:=fun x a1 a2=>by rw[ak _ _ (by omega)];exact g6.old x (by omega) (by omega)
  have hvZ:=hvA.up (M2:=M6.set (c4+7) (d7 [V.l0] 42 [wv])) (c2:=c5) (by omega) (hM4 b (by omega) hb2);refine du ((Wk hvZ hRZ.ok w1 (show c4+7<c5 by omega) (by omega) (am _ _ _) (by omega)).mono ?_);rintro v' M7 c7 ⟨b',hv7,hle7,hb7,hf7,hn7⟩;have gx7:jq (fun x=>x=b) c5 (M6.set (c4+7) (d7 [V.l0] 42 [wv])) c7 M7:=⟨hle7,fun x a b=>hf7 x a b,hn7⟩
  have ok7:cK F M7 c7:=gx7.ok hRZ.ok fun x a e=>by
   rw[e];obtain⟨_,_,_,⟨_,_,hm⟩|⟨_,hm⟩⟩:=hvZ
   ·exact⟨_,hm⟩
   ·exact⟨_,hm⟩
  have hR7:=hRZ.fr cx.h1 cx.h2 (by omega) (gx7.wk fun x _ e=>by rw[e];omega) ok7;have mp7:M7.get c1=some (af 39 [.i .i64 j,.b nt,vi,.l0,.b false,vc']):=(hf7 c1 (by omega) (by omega)).trans ((hM4 c1 (aj _) (by omega)).trans mp4);obtain⟨k1,k2,k3⟩:=hv7.one;have st:=aJ mp7 5 [v'] (by simp) k3;have ho:over [.i .i64 j,.b nt,vi,.l0,.b false,vc'] 5 [v']=[.i .i64 j,.b nt,vi,.l0,.b false,v']:=rfl;rw[ho]at st;have hR8:=hR7.put cx.h1 cx.h2 (by omega) (aj _) (z:=af 39 [.i .i64 j,.b nt,vi,.l0,.b false,v']) (by omega) mp7;have f8:=hR8.ok.free;refine⟨ok7.free,?_⟩;simp only[WX,Nat.reducePow,Nat.reduceDiv,Nat.reduceMod,Nat.reduceBEq,fW,k2,st,f8];refine⟨(cJ rs).2.length,by have:=jU rs;omega,(hI _ _).2 ⟨c7,_,(cJ rs).2,v',cu++[(cJ rs).1],(G1 (X1 (G1 (X1 (G8 (bD (bK (bB (X2 (X1 [])))))))))),rfl,rfl,hR8,by omega,by have:=jU rs;omega,by have:=jU rs;rw[aG,List.length_singleton];omega,am _ _ _,?_,by rw[he1,hp];simp,by rw[he2,hp]⟩⟩;refine⟨b',es++[[wv]],hv7.up (aj _) (ak _ _ (by have:=hv7.2.1;omega)),by rw[aG,aG,q1];rfl,by rw[aG,List.length_singleton];omega,fun i hi hi'=>?_⟩
  have FR:∀x,c1<x→x<c5→x≠b→x≠c4+7→(M7.set c1 (af 39 [.i .i64 j,.b nt,vi,.l0,.b false,v'])).get x=M6.get x:=fun x a1 a2 a3 a4=>by
   rw[ak _ _ (by omega),hf7 x a2 a3,ak _ _ a4]
  by_cases hie:i<es.length
  ·obtain⟨wv',l,h2,e1,e2,e3,e4,e5,e6⟩:=q3 i hie (by omega);refine⟨wv',l,h2,by rw[eu hie];exact e1,e2,e3,by omega,by omega,?_⟩;have:=e6.up (M2:=M7.set c1 (af 39 [.i .i64 j,.b nt,vi,.l0,.b false,v'])) fun x a1 a2=>(FR x (by omega) (by omega) (by omega) (by omega)).trans (g6.old x (by omega) (by omega));rw[eu (by omega)];exact this
  ·rw[aG]at hi;simp only[av,aM]at hi;obtain rfl:i=es.length:=by omega
   refine⟨wv,c4+11,c5,by rw[ej (aj _)];simp,by omega,by omega,by omega,by omega,?_⟩;have:=(hW6.own (F:=F) (by omega)).up (M2:=M7.set c1 (af 39 [.i .i64 j,.b nt,vi,.l0,.b false,v'])) fun x a1 a2=>FR x (by omega) (by omega) (by omega) (by omega);rw[ej (by omega)];simp only[q1,Nat.sub_self,List.getElem_cons_zero];exact this
 ·rw[o4 e1,bF]at he1;rw[o4 e1]at he2;simp only[WX];rw[he1,he2]at hQ;exact hQ (G1 (X1 (G1 (X1 (G8 (bD (bK (bB (X2 (X1 [])))))))))) _ _ vc' hR4 (hca3.keep (aj _) fun x a1 a2=>hf x (by omega)) ((hf c1 (by omega)).trans mp3) hle
theorem n24(Φ:Nat→Option CF)(h31:Φ 31=some Hc)(h32:Φ 32=some W4){F:RO}{lo cs bl c c1 c2:Nat}{Ms M1 M2:Mem}{bad:Bool}{ts:List T2}{s:List UInt8}{j:Int}{nt beh:Bool}{vi vc:V}(cx:IR lo cs bl c1 M1)(h:RS F lo cs Ms bl M1 c1 M2 c2 bad ts)(hc:c1<c2)(mp:M2.get c1=some (af 39 [.i .i64 j,.b nt,vi,.l0,.b beh,vc]))(u:List (Option V))(Q:Ex→St→Prop)
 (hQ:∀(u:List (Option V)) M' c' vo,RS F lo cs Ms bl M1 c1 M' c' (bad||(redir ts).2.1) (redir ts).2.2→bO vo=true→GO lo cs Ms vo (redir ts).1→M'.get c1=some (af 39 [.i .i64 j,.b nt,vi,vo,.b beh,vc])→c2≤c'→(∀x,c1<x→x<c2→M'.get x=M2.get x)→Q .nrm (.mk ((iT u (sV s) (.p c 0) (.p bl 0) (.f 30 [] [.p bl 0]) (.p cs 0) (.p (cs+1) 0) (.f 32 [] [.p (cs+1) 0,.p cs 0]) (.p (cs+2) 0) (.i .i64 j) (.p c1 0))) [] M' c')):
 Wp BV (K Φ none 10 F) (.mk ((iT u (sV s) (.p c 0) (.p bl 0) (.f 30 [] [.p bl 0]) (.p cs 0) (.p (cs+1) 0) (.f 32 [] [.p (cs+1) 0,.p cs 0]) (.p (cs+2) 0) (.i .i64 j) (.p c1 0))) [] M2 c2) Q:=by
 have hx:=cx.h1;have hx2:=cx.h2;have hx3:=cx.h3
 simp only[WX,nb]
 refine aD ((bD6 Φ h32 h31 cx h).mono ?_)
 rintro r M4 c4 ⟨pv,rfl,p1,p2,hR4,hf4,hlt⟩
 have m4:M4.get c1=some (af 39 [.i .i64 j,.b nt,vi,.l0,.b beh,vc]):=(hf4 c1 hc (by omega) (by omega)).trans mp
 have hG:flatten (V.g [pv])=[pv]:=rfl
 have st:=aJ m4 3 [pv] (by simp) (by rw[aw,bZ,p1];rfl)
 simp only[WX,Nat.reduceAdd,hG,st]
 exact hQ (G1 (X1 (G1 (X1 (G8 (bD (bK (bB (X2 (X1 [])))))))))) _ _ pv (hR4.put cx.h1 cx.h2 (by omega) (aj _) (by omega) m4) p1 p2 (am _ _ _) hlt (fun x a b=>by rw[ak _ _ (by omega)];exact hf4 x b (by omega) (by omega))
theorem Y0(lo cs:Nat)(Ms:Mem):GO lo cs Ms .l0 []:=fun F M' _=>⟨⟨fun e he=>(by cases he),.inl ⟨rfl,.inl rfl⟩⟩,ax _⟩
theorem n22(Φ:Nat→Option CF)(h30:Φ 30=some Vl)(h31:Φ 31=some Hc)(h32:Φ 32=some W4){F:RO}{lo cs bl c c1 c2:Nat}{Ms M1 M2:Mem}{bad:Bool}{ts:List T2}{s:List UInt8}{j:Int}{nt:Bool}{vi vc:V}(cx:IR lo cs bl c1 M1)(h:RS F lo cs Ms bl M1 c1 M2 c2 bad ts)(hc:c1<c2)(mp:M2.get c1=some (af 39 [.i .i64 j,.b nt,vi,.l0,.b false,vc]))(u:List (Option V))(Q:Ex→St→Prop)
 (hQ:∀(u:List (Option V)) M' c' vo,RS F lo cs Ms bl M1 c1 M' c' (bad||(dK ts).2.2.1) (dK ts).2.2.2→bO vo=true→GO lo cs Ms vo (dK ts).2.1→M'.get c1=some (af 39 [.i .i64 j,.b nt,vi,vo,.b (dK ts).1,vc])→c2≤c'→(∀x,c1<x→x<c2→M'.get x=M2.get x)→Q .nrm (.mk ((iT u (sV s) (.p c 0) (.p bl 0) (.f 30 [] [.p bl 0]) (.p cs 0) (.p (cs+1) 0) (.f 32 [] [.p (cs+1) 0,.p cs 0]) (.p (cs+2) 0) (.i .i64 j) (.p c1 0))) [] M' c')):
 Wp BU (K Φ none 10 F) (.mk ((iT u (sV s) (.p c 0) (.p bl 0) (.f 30 [] [.p bl 0]) (.p cs 0) (.p (cs+1) 0) (.f 32 [] [.p (cs+1) 0,.p cs 0]) (.p (cs+2) 0) (.i .i64 j) (.p c1 0))) [] M2 c2) (gJ BW (K Φ none 10 F) Q):=by
 have hx:=cx.h1;have hx2:=cx.h2;have hx3:=cx.h3
 have IU:V.s 1 62=sV [62]:=rfl
 have cgg:V.s 2 15934=sV [62,62]:=rfl
 simp only[WX,nb]
 rw[cgg]
 refine aD ((WW Φ h30 h cx.h1 cx.h2 (by omega) [62,62]).mono ?_)
 rintro r M3 c3 ⟨rfl,hf,⟨rs,e1,rfl,hR⟩|⟨e1,rfl,hR⟩⟩
 ·have ho:dK ts=(true,redir rs):=by unfold dK;rw[e1]
  rw[ho]at hQ;have m3:=(hf c1 (by omega)).trans mp;have st:=aJ m3 4 [V.b true] (by simp) rfl;have hov:over [.i .i64 j,.b nt,vi,.l0,.b false,vc] 4 [V.b true]=[.i .i64 j,.b nt,vi,.l0,.b true,vc]:=rfl;rw[hov]at st;have m4:=am M3 c1 (af 39 [.i .i64 j,.b nt,vi,.l0,.b true,vc]);have l4:load1 F (M3.set c1 (af 39 [.i .i64 j,.b nt,vi,.l0,.b true,vc])) c1 4=some (.b true):=au m4 4;have hR4:=hR.put cx.h1 cx.h2 (by omega) (aj _) (z:=af 39 [.i .i64 j,.b nt,vi,.l0,.b true,vc]) hc m3;simp only[WX,El,Em,st,l4];refine n24 Φ h31 h32 cx hR4 hc m4 (G1 (X1 (G1 (X1 (G8 (bD (bK (bB (X2 (X1 [])))))))))) _ ?_;intro u M5 c5 vo hR5 o1 o2 m5 hle hf5;exact hQ u M5 c5 vo hR5 o1 o2 m5 hle fun x a b=>(hf5 x a b).trans ((ak _ _ (by omega)).trans (hf x (by omega)))
 ·have m3:=(hf c1 (by omega)).trans mp;have st:=aJ m3 4 [V.b false] (by simp) rfl;have hov:over [.i .i64 j,.b nt,vi,.l0,.b false,vc] 4 [V.b false]=[.i .i64 j,.b nt,vi,.l0,.b false,vc]:=rfl;rw[hov]at st;have m4:=am M3 c1 (af 39 [.i .i64 j,.b nt,vi,.l0,.b false,vc]);have l4:load1 F (M3.set c1 (af 39 [.i .i64 j,.b nt,vi,.l0,.b false,vc])) c1 4=some (.b false):=au m4 4;have hR4:=hR.put cx.h1 cx.h2 (by omega) (aj _) (z:=af 39 [.i .i64 j,.b nt,vi,.l0,.b false,vc]) hc m3;simp only[WX,El,Em,st,l4];rw[IU];refine aD ((WW Φ h30 hR4 cx.h1 cx.h2 (by omega) [62]).mono ?_);rintro r M5 c5 ⟨rfl,hf5,⟨rs,e2,rfl,hR5⟩|⟨e2,rfl,hR5⟩⟩
  ·have ho:dK ts=(false,redir rs):=by unfold dK;rw[e1,e2]
   rw[ho]at hQ;simp only[WX];refine n24 Φ h31 h32 cx hR5 hc ((hf5 c1 (by omega)).trans m4) (G1 (X1 (G1 (X1 (G8 (bD (bK (bB (X2 (X1 [])))))))))) _ ?_;intro u M6 c6 vo hR6 o1 o2 m6 hle hf6;exact hQ u M6 c6 vo hR6 o1 o2 m6 hle fun x a b=>(hf6 x a b).trans ((hf5 x (by omega)).trans ((ak _ _ (by omega)).trans (hf x (by omega))))
  ·have ho:dK ts=(false,[],false,ts):=by unfold dK;rw[e1,e2]
   rw[ho,Bool.or_false]at hQ;simp only[WX];exact hQ (G1 (X1 (G1 (X1 (G8 (bD (bK (bB (X2 (X1 [])))))))))) _ _ .l0 hR5 rfl (Y0 lo cs Ms) ((hf5 c1 (by omega)).trans m4) (aj _) fun x a b=>(hf5 x (by omega)).trans ((ak _ _ (by omega)).trans (hf x (by omega)))
def sI(F:RO)(lo cs:Nat)(Ms M:Mem)(a c:Nat)(vl:V)(dn:List dD):Prop:=∃b es,bm M a c b 39 6 vl es∧es.length=dn.length∧dn.length≤1000000∧ ∀i (h:i<es.length) (h':i<dn.length),∃l h2,a≤l∧l≤h2∧h2≤c∧(b<l∨h2≤b)∧wP lo cs Ms M l h2 fun M'=>Jd F l M' h2 es[i] dn[i]
theorem sI.keep{F:RO}{lo cs:Nat}{Ms M M2:Mem}{a c c2:Nat}{vl:V}{dn:List dD}(h:sI F lo cs Ms M a c vl dn)(hc:c≤c2)(hM:∀x,a≤x→x<c→M2.get x=M.get x):sI F lo cs Ms M2 a c2 vl dn:=by
 obtain⟨b,es,hA,h1,h2,h3⟩:=h
 refine⟨b,es,?_,h1,h2,fun i hi hi'=>?_⟩
 ·rcases hA with⟨a0,x|⟨a1,a2,a3,a4⟩⟩
  ·exact⟨a0,.inl x⟩
  ·exact⟨a0,.inr ⟨a1,by omega,a3,(hM b a1 a2).trans a4⟩⟩
 ·obtain⟨l,h2,e2,e3,e4,e5,e6⟩:=h3 i hi hi';exact⟨l,h2,e2,e3,by omega,e5,e6.up fun x a1 a2=>hM x (by omega) (by omega)⟩
theorem sI.own{F:RO}{lo cs:Nat}{Ms M:Mem}{a c:Nat}{vl:V}{dn:List dD}(h:sI F lo cs Ms M a c vl dn):wP lo cs Ms M a c fun M'=>LnT F a M' c vl dn:=by
 intro M' hB hM
 obtain⟨b,es,hA,h1,h2,h3⟩:=h
 have hA':bm M' a c b 39 6 vl es:=by
  rcases hA with⟨a0,x|⟨a1,a2,a3,a4⟩⟩
  ·exact⟨a0,.inl x⟩
  ·exact⟨a0,.inr ⟨a1,a2,a3,(hM b a1 a2).trans a4⟩⟩
 refine⟨⟨es,hA'.sl,h1,bc h2 (by decide),fun i hi hi'=>?_⟩,by rw[←h1];exact BO hA'⟩
 obtain⟨l,h2,e2,e3,e4,e5,e6⟩:=h3 i hi hi'
 exact Jd.up e2 e4 _ _ (e6 M' hB fun x a1 a2=>hM x (by omega) (by omega))
theorem n26(Φ:Nat→Option CF){F:RO}{lo cs bl c c1 c2:Nat}{Ms M1 M2:Mem}{bad:Bool}{ts:List T2}{s:List UInt8}{j:Int}{nt beh:Bool}{vi vo vc vl:V}{w1 w2:List Pc}{cl:List eF}{dn:List dD}(cx:IR lo cs bl c1 M1)(h:RS F lo cs Ms bl M1 c1 M2 c2 bad ts)(hc:c1<c2)(h9:M1.get (cs+2)=some (af 25 [vl]))(hL:sI F lo cs Ms M1 (cs+3) c1 vl dn)(hdn:dn.length≤900000)
 (mp:M2.get c1=some (af 39 [.i .i64 j,.b nt,vi,vo,.b beh,vc])) (i1:bO vi=true) (o1:bO vo=true) (hvi:GO lo cs Ms vi w1) (hvo:GO lo cs Ms vo w2) (hca:Bn F lo cs Ms M2 (c1+1) c2 vc cl) (u:List (Option V)) (Q:Ex→St→Prop)
 (hQ:∀(u:List (Option V)) M' c' vl',RS F lo cs Ms bl M' c' M' c' bad ts→IR lo cs bl c' M'→M'.get (cs+2)=some (af 25 [vl'])→sI F lo cs Ms M' (cs+3) c' vl' (dn++[⟨j,nt,w1,w2,beh,cl⟩])→(∀x,x<cs+3→x≠bl→x≠cs→x≠cs+2→M'.get x=M1.get x)→c1≤c'→Q .nrm (.mk ((iT u (sV s) (.p c 0) (.p bl 0) (.f 30 [] [.p bl 0]) (.p cs 0) (.p (cs+1) 0) (.f 32 [] [.p (cs+1) 0,.p cs 0]) (.p (cs+2) 0) (.i .i64 j) (.p c1 0))) [] M' c')):
 Wp BX (K Φ none 10 F) (.mk ((iT u (sV s) (.p c 0) (.p bl 0) (.f 30 [] [.p bl 0]) (.p cs 0) (.p (cs+1) 0) (.f 32 [] [.p (cs+1) 0,.p cs 0]) (.p (cs+2) 0) (.i .i64 j) (.p c1 0))) [] M2 c2) Q:=by
 have hx:=cx.h1;have hx2:=cx.h2;have hx3:=cx.h3
 have m9:M2.get (cs+2)=some (af 25 [vl]):=(h.g.old _ (by omega) (by omega)).trans h9
 have l9:load1 F M2 (cs+2) 0=some vl:=au m9 0
 have ln:loadN F M2 c1 0 6=some [.i .i64 j,.b nt,vi,vo,.b beh,vc]:=aY mp 6 rfl
 obtain⟨v1,v2,v3⟩:=hca.one
 have hG:flatten (V.g [.i .i64 j,.b nt,vi,vo,.b beh,vc])=[.i .i64 j,.b nt,vi,vo,.b beh,vc]:=rfl
 have hall:=u5 (j:=j) (nt:=nt) (beh:=beh) i1 o1 v1
 have gZ:=(Gr.refl h.ok).set c2 (d7 [.i .i64 0,.b false,.l0,.l0,.b false,.l0] 39 [.i .i64 j,.b nt,vi,vo,.b beh,vc]) (aj _) (ay _) (aH _)
 have okZ:=gZ.ok h.ok
 have hRZ:=h.grow cx.h1 cx.h2 (by omega) gZ
 have hys:cA F (M2.set c2 (d7 [.i .i64 0,.b false,.l0,.l0,.b false,.l0] 39 [.i .i64 j,.b nt,vi,vo,.b beh,vc])) (c2+1) 6 (.l c2 0 1 1) [[.i .i64 j,.b nt,vi,vo,.b beh,vc]]:=J0 (d:=[.i .i64 0,.b false,.l0,.l0,.b false,.l0]) (ty:=39) (by rw[am];rfl) (ay _) (fun e he=>by rw[List.mem_singleton]at he;subst he;rfl) rfl
 have hPO:wP lo cs Ms M2 c1 c2 fun M'=>Jd F c1 M' c2 [.i .i64 j,.b nt,vi,vo,.b beh,vc] ⟨j,nt,w1,w2,beh,cl⟩:=by
  intro M' hB hM;refine⟨vi,vo,vc,rfl,(hvi F M' hB).upc (by omega),(hvo F M' hB).upc (by omega),?_⟩;exact(hca.own M' hB fun x a1 a2=>hM x (by omega) a2).up (by omega) (aj _)
 have hL2:sI F lo cs Ms M2 (cs+3) c1 vl dn:=hL.keep (aj _) fun x a1 a2=>h.g.old x a2 (by omega)
 obtain⟨b,es,hA,q1,q2,q3⟩:=hL2
 obtain⟨b1,hA1,hb1⟩:∃b1,bm (M2.set c2 (d7 [.i .i64 0,.b false,.l0,.l0,.b false,.l0] 39 [.i .i64 j,.b nt,vi,vo,.b beh,vc])) (cs+3) (c2+1) b1 39 6 vl es∧((b1=b∧cs+3≤b∧b<c1∧M2.get b=some (qo 39 es.flatten))∨(es=[]∧c2+1≤b1)):=by
  rcases hA with⟨a0,⟨a1,a2⟩|⟨a1,a2,a3,a4⟩⟩
  ·exact⟨c2+1,⟨a0,.inl ⟨a1,a2⟩⟩,.inr ⟨a1,aj _⟩⟩
  ·exact⟨b,⟨a0,.inr ⟨a1,by omega,a3,by rw[ak _ _ (by omega)];exact a4⟩⟩,.inl ⟨rfl,a1,a2,a4⟩⟩
 have gA:Gr (cs+3) M2 (c2+1) (M2.set c2 (d7 [.i .i64 0,.b false,.l0,.l0,.b false,.l0] 39 [.i .i64 j,.b nt,vi,vo,.b beh,vc])):=⟨by omega,fun x hx=>gZ.old x (by omega),gZ.new⟩
 simp only[WX,Nat.reduceAdd,nb,l9,ln,hG,i1,o1,v1,Bool.and_self,aB]
 refine aD ((hJ (bytes:=96) hA1 gA (by decide) hys (by show aL [.i .i64 j,.b nt,vi,vo,.b beh,vc]=true;exact hall) (fP (by simp only[av,aM];omega) (by simp only[av,aM];omega))).mono ?_)
 rintro vl' M3 c3 ⟨b',hA3,g3,hle3,hfr,hb'⟩
 have w3:bO vl'=true∧flatten vl'=[vl']∧aL [vl']=true:=by
  rcases hA3 with⟨_,⟨_,rfl⟩|⟨_,_,rfl,_⟩⟩<;>exact⟨rfl,rfl,rfl⟩
 obtain⟨k1,k2,k3⟩:=w3
 have m93:M3.get (cs+2)=some (af 25 [vl]):=(g3.old _ (by omega)).trans m9
 have st:=aJ m93 0 [vl'] (by simp) k3
 simp only[WX,k2,st]
 have OLD:∀x,x<c2→x≠cs+2→x≠b1→(M3.set (cs+2) (af 25 [vl'])).get x=M2.get x:=fun x a1 a2 a3=>by
  rw[ak _ _ a2,hfr x (by omega) a3];exact gZ.old x a1
 have gF:jq (fun x=>x=cs+2∨x=b1) c2 M2 c3 (M3.set (cs+2) (af 25 [vl'])):=⟨by omega,fun x a1 a2=>OLD x a1 (fun e=>a2 (.inl e)) (fun e=>a2 (.inr e)),fun x hx=>by rw[ak _ _ (by omega)];exact g3.new x hx⟩
 have hb1c:b1<c2→cs+3≤b1∧b1<c1:=by
  intro hlt;rcases hb1 with⟨rfl,a1,a2,_⟩|⟨_,a2⟩<;>omega
 have okF:cK F (M3.set (cs+2) (af 25 [vl'])) c3:=gF.ok h.ok fun x a e=>by
  rcases e with rfl|rfl
  ·exact⟨_,m9⟩
  ·rcases hb1 with⟨rfl,_,_,hm⟩|⟨_,a2⟩
   ·exact⟨_,hm⟩
   ·omega
 obtain⟨v,hv,ht⟩:=h.tk
 have hble:b1<c2∨c2≤b1:=by omega
 have NB:∀x,x<cs+3→x≠b1:=fun x a e=>by
  rcases hble with hb|hb
  ·have:=hb1c hb;omega
  ·omega
 refine hQ (G1 (X1 (G1 (X1 (G8 (bD (bK (bB (X2 (X1 [])))))))))) _ _ vl' ⟨jq.of (Gr.refl okF),okF,⟨v,(OLD bl (by omega) (by omega) (NB _ (by omega))).trans hv,ht⟩,(OLD cs (by omega) (by omega) (NB _ (by omega))).trans h.m6,fun x a1 a2=>(OLD x (by omega) (by omega) (NB _ (by omega))).trans (h.bk x a1 a2)⟩ ⟨cx.h1,cx.h2,by omega,(OLD _ (by omega) (by omega) (NB _ (by omega))).trans ((h.g.old _ (by omega) (by omega)).trans cx.m7)⟩ (am _ _ _) ?_ ?_ (by omega)
 ·refine⟨b',es++[[.i .i64 j,.b nt,vi,vo,.b beh,vc]],lH hA3 (by omega),by rw[aG,aG,q1];rfl,by rw[aG,List.length_singleton];omega,fun i hi hi'=>?_⟩;by_cases hie:i<es.length
  ·obtain⟨l,h2,e2,e3,e4,e5,e6⟩:=q3 i hie (by omega);have hb1':b1<l∨h2≤b1:=by
    rcases hb1 with⟨rfl,_,_⟩|⟨_,a2⟩<;>omega
   refine⟨l,h2,e2,e3,by omega,by omega,?_⟩;have:=e6.up (M2:=M3.set (cs+2) (af 25 [vl'])) fun x a1 a2=>OLD x (by omega) (by omega) (by omega);rw[eu (by omega)];rw[eu (by omega)];exact this
  ·rw[aG]at hi;simp only[av,aM]at hi;obtain rfl:i=es.length:=by omega
   have hb1':b1<c1∨c2≤b1:=by
    rcases hble with hb|hb
    ·have:=hb1c hb;omega
    ·omega
   refine⟨c1,c2,by omega,by omega,by omega,by omega,?_⟩;have:=hPO.up (M2:=M3.set (cs+2) (af 25 [vl'])) fun x a1 a2=>OLD x (by omega) (by omega) (by omega);rw[ej (aj _)];rw[ej (by omega)];simp only[q1,Nat.sub_self,List.getElem_cons_zero];exact this
 ·exact fun x a1 a2 a3 a4=>(OLD x (by omega) a4 (NB x a1)).trans (h.g.old x (by omega) (by omega))
abbrev Gi(u:List (Option V))(x0 x2 x4 x5 x6 x7 x8 x9 x10:V):T:=(.n (.n (.n (.n (aq u 63 31 95 15 79 47 111) (some x7) (aq u 71 39 103 23 87 55 119)) (uO u 3) (.n (aq u 67 35 99 19 83 51 115) (uO u 11) (aq u 75 43 107 27 91 59 123))) (uO u 1) (.n (.n (aq u 65 33 97 17 81 49 113) (some x9) (aq u 73 41 105 25 89 57 121)) (some x5) (.n (aq u 69 37 101 21 85 53 117) (uO u 13) (aq u 77 45 109 29 93 61 125)))) (some x0) (.n (.n (.n (aq u 64 32 96 16 80 48 112) (some x8) (aq u 72 40 104 24 88 56 120)) (some x4) (.n (aq u 68 36 100 20 84 52 116) (uO u 12) (aq u 76 44 108 28 92 60 124))) (some x2) (.n (.n (aq u 66 34 98 18 82 50 114) (some x10) (aq u 74 42 106 26 90 58 122)) (some x6) (.n (aq u 70 38 102 22 86 54 118) (uO u 14) (aq u 78 46 110 30 94 62 126)))))
theorem WY(ts:List T2):isS [] ts=none:=by
 cases ts with
 |nil=>rfl
 |cons t r=>rw[cC,ab (fun h=>h.2 rfl)]
theorem n36(Φ:Nat→Option CF)(h30:Φ 30=some Vl)(h33:Φ 33=some QQ){F:RO}{lo cs bl c c1 c2:Nat}{Ms M1 M2:Mem}{bad:Bool}{ts:List T2}{s:List UInt8}{j:Int}(cx:IR lo cs bl c2 M2)(h:RS F lo cs Ms bl M2 c2 M2 c2 bad ts)(u:List (Option V))(Q:Ex→St→Prop)
 (hQ0:eO ts=none→ ∀(u:List (Option V)) M' c',RS F lo cs Ms bl M2 c2 M' c' bad ts→Q (.ext 0) (.mk ((Gi u (sV s) (.p c 0) (.p bl 0) (.f 30 [] [.p bl 0]) (.p cs 0) (.p (cs+1) 0) (.f 32 [] [.p (cs+1) 0,.p cs 0]) (.p (cs+2) 0) (.i .i64 j))) [] M' c'))
 (hQ1:∀n rs,eO ts=some (n,rs)→ ∀(u:List (Option V)) M' c',RS F lo cs Ms bl M2 c2 M' c' bad rs→Q (.ext 1) (.mk ((Gi u (sV s) (.p c 0) (.p bl 0) (.f 30 [] [.p bl 0]) (.p cs 0) (.p (cs+1) 0) (.f 32 [] [.p (cs+1) 0,.p cs 0]) (.p (cs+2) 0) (.i .i64 n))) [] M' c')):
 Wp BZ (K Φ none 10 F) (.mk ((iT u (sV s) (.p c 0) (.p bl 0) (.f 30 [] [.p bl 0]) (.p cs 0) (.p (cs+1) 0) (.f 32 [] [.p (cs+1) 0,.p cs 0]) (.p (cs+2) 0) (.i .i64 j) (.p c1 0))) [] M2 c2) Q:=by
 have hx:=cx.h1;have hx2:=cx.h2;have hx3:=cx.h3
 simp only[WX,nb]
 refine aD ((w33 Φ h33 h.ok).mono ?_)
 rintro r M3 c3 ⟨rfl,g3⟩
 have hR:=h.grow hx hx2 (by omega) g3
 have i0:r5 4 1 RQ (.i .i64 0)=some (sV []):=by unfold RQ;rw[pU];rfl
 have i1:r5 4 1 RQ (.i .i64 1)=some (sV [59]):=by unfold RQ;rw[pU];rfl
 have i2:r5 4 1 RQ (.i .i64 2)=some (sV [38,38]):=by unfold RQ;rw[pU];rfl
 have i3:r5 4 1 RQ (.i .i64 3)=some (sV [124,124]):=by unfold RQ;rw[pU];rfl
 have q0:cz .add (.i .i64 0) (.i .i64 1)=some (.i .i64 1):=by rw[aX _ _ (by decide) (by decide)];rfl
 have q1:cz .add (.i .i64 1) (.i .i64 1)=some (.i .i64 2):=by rw[aX _ _ (by decide) (by decide)];rfl
 have q2:cz .add (.i .i64 2) (.i .i64 1)=some (.i .i64 3):=by rw[aX _ _ (by decide) (by decide)];rfl
 have q3:cz .add (.i .i64 3) (.i .i64 1)=some (.i .i64 4):=by rw[aX _ _ (by decide) (by decide)];rfl
 simp only[WX]
 rw[jf]
 simp only[WX,Int.reduceLT,nb,i0]
 refine aD ((WW Φ h30 hR hx hx2 (by omega) []).mono ?_)
 rintro r M4 c4 ⟨rfl,_,⟨rs,e1,_⟩|⟨_,rfl,hR⟩⟩
 ·rw[WY]at e1;cases e1
 simp only[WX,nb,q0]
 rw[jf]
 simp only[WX,Int.reduceLT,nb,i1]
 refine aD ((WW Φ h30 hR hx hx2 (by omega) [59]).mono ?_)
 rintro r M5 c5 ⟨rfl,_,⟨rs,e1,rfl,hR⟩|⟨e1,rfl,hR⟩⟩
 ·simp only[WX,Nat.reduceEqDiff,nb];exact hQ1 1 rs (by unfold eO;rw[e1]) (G1 (X1 (G1 (X1 (G4 (G2 (G1 (bD (bK (bB (X4 []))))))))))) _ _ hR
 simp only[WX,nb,q1]
 rw[jf]
 simp only[WX,Int.reduceLT,nb,i2]
 refine aD ((WW Φ h30 hR hx hx2 (by omega) [38,38]).mono ?_)
 rintro r M6 c6 ⟨rfl,_,⟨rs,e2,rfl,hR⟩|⟨e2,rfl,hR⟩⟩
 ·simp only[WX,Nat.reduceEqDiff,nb];exact hQ1 2 rs (by unfold eO;rw[e1,e2]) (G1 (X1 (G1 (X1 (G4 (G2 (G1 (bD (bK (bB (X4 []))))))))))) _ _ hR
 simp only[WX,nb,q2]
 rw[jf]
 simp only[WX,Int.reduceLT,nb,i3]
 refine aD ((WW Φ h30 hR hx hx2 (by omega) [124,124]).mono ?_)
 rintro r M7 c7 ⟨rfl,_,⟨rs,e3,rfl,hR⟩|⟨e3,rfl,hR⟩⟩
 ·simp only[WX,Nat.reduceEqDiff,nb];exact hQ1 3 rs (by unfold eO;rw[e1,e2,e3]) (G1 (X1 (G1 (X1 (G4 (G2 (G1 (bD (bK (bB (X4 []))))))))))) _ _ hR
 simp only[WX,nb,q3]
 rw[jf]
 simp only[WX,Int.reduceLT,nb]
 exact hQ0 (by unfold eO;rw[e1,e2,e3]) (G1 (X1 (G1 (X1 (G4 (G2 (G1 (bD (bK (bB (X4 []))))))))))) _ _ hR
def LnF(F:RO)(lo c:Nat)(M:Mem)(v:V)(l:List dD):Prop:=∀M':Mem,(∀x,lo≤x→x<c→M'.get x=M.get x)→LnT F lo M' c v l
theorem yh{F:RO}{lo c:Nat}{M:Mem}:LnF F lo c M .l0 []:=fun M' _=>⟨⟨[],⟨fun e he=>(by cases he),.inl ⟨rfl,.inl rfl⟩⟩,rfl,ax _,fun i h=>(by cases h)⟩,.inl ⟨rfl,rfl⟩⟩
def scF(_ _:Nat)(_:St):Prop:=False
theorem LnT.up{F:RO}{lo lo':Nat}{M:Mem}{c c':Nat}{v:V}{l:List dD}(h:LnT F lo M c v l)(hl:lo'≤lo)(hc:c≤c'):LnT F lo' M c' v l:=⟨cg.imp h.1 hc (Jd.up hl hc),h.2.up hl hc⟩
def PsP(F:RO)(s:List UInt8)(M:Mem)(c:Nat)(r:V)(M':Mem)(c':Nat):Prop:=∃v,r= .t [.g [v],.i .i64 (IY s).2]∧LnF F c c' M' v (IY s).1∧Gr c M c' M'
theorem bY9(Φ:Nat→Option CF)(h17:Φ 17=some c17)(h40:Φ 40=some c40)(h63:Φ 63=some Vn)(h62:Φ 62=some IU)(h80:Φ 80=some IV)(h81:Φ 81=some IW)(h82:Φ 82=some QT)(h90:Φ 90=some IX)(h83:Φ 83=some Hd)(h61:Φ 61=some F5)(h39:Φ 39=some c39)(h33:Φ 33=some QQ)(h57:Φ 57=some zf)(h58:Φ 58=some Vm)(h59:Φ 59=some CR)(h60:Φ 60=some QS)(h79:Φ 79=some Vo)(h89:Φ 89=some QU)(h77:Φ 77=some (.orc (aO h77)))(h52:Φ 52=some zL)(h54:Φ 54=some zM)(h71:Φ 71=some xN){F:RO}{cs c c1:Nat}{Ms M M1:Mem}{bad:Bool}{tr:List T2}{s:List UInt8}{j:Int}{vl:V}{dn:List dD}(h:RS F (c+2) cs Ms (c+1) M1 c1 M1 c1 bad tr)(h2:c+2≤cs)(h3:cs+3≤c1)(m9:M1.get (cs+2)=some (af 25 [vl]))(hL:sI F (c+2) cs Ms M1 (cs+3) c1 vl dn)(mc:M1.get c=some (af 25 [.l0]))(old:∀x,x<c→M1.get x=M.get x)
 (hlen:¬4096<s.length) (hto:rS s=true) (hLA:dU 0 (dJ s)=(dn,bad,tr)) (hS:∀p∈dn,GM p) (hz:dq (kZ dn)≤1000000) (u:List (Option V)):
 Wp xf (K Φ none 10 F) (.mk ((Gi u (sV s) (.p c 0) (.p (c+1) 0) (.f 30 [] [.p (c+1) 0]) (.p cs 0) (.p (cs+1) 0) (.f 32 [] [.p (cs+1) 0,.p cs 0]) (.p (cs+2) 0) (.i .i64 j))) [] M1 c1) (gJ xj (K Φ none 10 F) (gJ (.seq xn .ret) (K Φ none 10 F) (kF scF 0 (nk F [.cn (.r .h) 1,.t (.l (.l .h))] fun r M' c'=>PsP F s M c r M' c')))):=by
 have hprs:IY s=if(bad||(decide (0<tr.length)|| !t4 dn))=true then([],4)else(dn,0):=by
  unfold IY;rw[ab hlen,ab (by rw[hto];simp),hLA]
 have l6:load1 F M1 cs 0=some (.b bad):=au h.m6 0
 have stc:=aJ mc 0 [V.l0] (by simp) rfl
 have hovc:over [V.l0] 0 [V.l0]=[V.l0]:=rfl
 rw[hovc,←cO mc]at stc
 have lc:loadN F M1 c 0 1=some [V.l0]:=aY mc 1 rfl
 have hG:∀v,flatten (V.g [v])=[v]:=fun _=>rfl
 have ERR:∀M' c',Gr c1 M1 c' M'→IY s=([],4)→PsP F s M c (.t [.g [.l0],.i .i64 4]) M' c':=by
  intro M' c' g hp;have hle:=g.le;exact⟨.l0,by rw[hp],by rw[hp];exact yh,by omega,fun x hx=>(g.old x (by omega)).trans (old x hx),g.new⟩
 cases bad with
 |true=>
  simp only[WX,nb,dR,l6,hG,stc,lc];exact ERR _ _ (Gr.refl h.ok) (by rw[hprs];rfl)
 |false=>
  obtain⟨v,hv,ht⟩:=h.tk;have lv:load1 F M1 (c+1) 0=some v:=au hv 0;have nt:=ht.len;cases hd:decide (0<tr.length)with
  |true=>
   have d0:decide ((0:Int)<(tr.length:Int))=true:=ah (by have:=bT hd;omega);simp only[WX,nb,dR,l6,lv,nt,d0,hG,stc,lc];exact ERR _ _ (Gr.refl h.ok) (by rw[hprs,hd];rfl)
  |false=>
   have d0:decide ((0:Int)<(tr.length:Int))=false:=ag (by have:=of_decide_eq_false hd;omega);have l9:loadN F M1 (cs+2) 0 1=some [vl]:=aY m9 1 rfl;have hLT:=hL.own M1 h.bk fun _ _ _=>rfl;simp only[WX,nb,l6,lv,nt,d0,l9];refine aD ((w17 Φ h17 h40 h63 h62 h80 h81 h82 h90 h83 h61 h39 h33 h57 h58 h59 h60 h79 h89 h77 h52 h54 h71 h.ok hLT.ln hS hz).mono ?_);rintro r M2 c2 ⟨rfl,g2⟩;have hle2:=g2.le;have ok2:=g2.ok h.ok;cases hk:t4 dn with
   |false=>
    have e2:R3 false= .i .i64 2:=rfl;have d2:decide (¬((2:Int)=0))=true:=rfl;have mc2:M2.get c=some (af 25 [.l0]):=(g2.old c (by omega)).trans mc;have stc:=aJ mc2 0 [V.l0] (by simp) rfl;rw[hovc,←cO mc2]at stc;have lc:loadN F M2 c 0 1=some [V.l0]:=aY mc2 1 rfl;simp only[WX,nb,dR,e2,d2,hG,stc,lc];exact ERR _ _ g2 (by rw[hprs,hd,hk];rfl)
   |true=>
    have e2:R3 true= .i .i64 0:=rfl;have d2:decide (¬((0:Int)=0))=false:=rfl;have mc2:M2.get c=some (af 25 [.l0]):=(g2.old c (by omega)).trans mc;obtain⟨y1,y2,y3⟩:=hLT.ln.one;have stc:=aJ mc2 0 [vl] (by simp) y3;have l92:loadN F M2 (cs+2) 0 1=some [vl]:=(g2.loadN (by omega) _ _).trans l9;have hov:over [V.l0] 0 [vl]=[vl]:=rfl;rw[hov]at stc;have lc:loadN F (M2.set c (af 25 [vl])) c 0 1=some [vl]:=aY (am _ _ _) 1 rfl;simp only[WX,nb,dR,e2,d2,hG,l92,stc,lc];have hp:IY s=(dn,0):=by rw[hprs,hd,hk];rfl
    refine⟨vl,by rw[hp],?_,by omega,fun x hx=>by rw[ak _ _ (by omega)];exact(g2.old x (by omega)).trans (old x hx),fun x hx=>by rw[ak _ _ (by omega)];exact g2.new x hx⟩;rw[hp];intro M' hM';have hA:∀x,c<x→x<c1→M'.get x=M1.get x:=fun x a1 a2=>(hM' x (by omega) (by omega)).trans ((ak _ _ (by omega)).trans (g2.old x a2));exact(hL.own M' (fun x a1 a2=>(hA x (by omega) (by omega)).trans (h.bk x a1 a2)) fun x a1 a2=>hA x (by omega) a2).up (by omega) hle2
theorem r10(Φ:Nat→Option CF)(h:Φ 10=some c10)(h28:Φ 28=some c28)(h56:Φ 56=some c56)(h55:Φ 55=some (.orc (aO h55)))(h73:Φ 73=some (.orc (aO h73)))(h75:Φ 75=some (.orc (aO h75)))(h76:Φ 76=some (.orc (aO h88)))(h74:Φ 74=some W6)(h29:Φ 29=some c29)(h30:Φ 30=some Vl)(h31:Φ 31=some Hc)(h32:Φ 32=some W4)(h17:Φ 17=some c17)(h40:Φ 40=some c40)(h63:Φ 63=some Vn)(h62:Φ 62=some IU)(h80:Φ 80=some IV)(h81:Φ 81=some IW)(h82:Φ 82=some QT)(h90:Φ 90=some IX)(h83:Φ 83=some Hd)(h61:Φ 61=some F5)(h39:Φ 39=some c39)(h33:Φ 33=some QQ)(h57:Φ 57=some zf)(h58:Φ 58=some Vm)(h59:Φ 59=some CR)(h60:Φ 60=some QS)(h79:Φ 79=some Vo)(h89:Φ 89=some QU)(h77:Φ 77=some (.orc (aO h77)))(h52:Φ 52=some zL)(h54:Φ 54=some zM)(h71:Φ 71=some xN){F:RO}{M:Mem}{c:Nat}(ok:cK F M c)(s:List UInt8)
 (hPB:s.length≤4096→(∀p∈(dU 0 (dJ s)).1,GM p)∧dq (kZ (dU 0 (dJ s)).1)≤1000000):
 Calls Φ F 10 [sV s] M c fun r M' c'=>PsP F s M c r M' c':=by
 refine aN h ?_
 have hG:∀v,flatten (V.g [v])=[v]:=fun _=>rfl
 have g1:=(Gr.refl ok).set c (af 25 [.l0]) (aj _) (ay _) (aH _)
 simp only[WX,nb]
 refine wL scF (fun n l s h=>h.elim) 0 _ _ ?_
 by_cases hlen:4096<s.length
 ·have d1:decide ((4096:Int)<(s.length:Int))=true:=ah (by omega);have mc:=am M c (af 25 [.l0]);have stc:=aJ mc 0 [V.l0] (by simp) rfl;have hovc:over [V.l0] 0 [V.l0]=[V.l0]:=rfl;rw[hovc,←cO mc]at stc;have lc:loadN F (M.set c (af 25 [.l0])) c 0 1=some [V.l0]:=aY mc 1 rfl;simp only[WX,nb,dR,d1,hG,stc,lc];have hp:IY s=([],3):=by unfold IY;rw[ac hlen]
  exact⟨.l0,by rw[hp],by rw[hp];exact yh,g1⟩
 obtain⟨hPS,hPZ⟩:=hPB (by omega)
 have d1:decide ((4096:Int)<(s.length:Int))=false:=ag (by omega)
 have g2:Gr c M (c+2) ((M.set c (af 25 [.l0])).set (c+1) (af 71 [.l0])):=g1.set (c+1) _ (by omega) (by omega) (by omega)
 have mc2:((M.set c (af 25 [.l0])).set (c+1) (af 71 [.l0])).get c=some (af 25 [.l0]):=(ak _ _ (by omega)).trans (am _ _ _)
 have mb2:((M.set c (af 25 [.l0])).set (c+1) (af 71 [.l0])).get (c+1)=some (af 71 [.l0]):=am _ _ _
 simp only[WX,Nat.reduceAdd,nb,d1]
 generalize(M.set c (af 25 [.l0])).set (c+1) (af 71 [.l0])=X at g2 mc2 mb2⊢
 have okX:=g2.ok ok
 have hTl:(dJ s).length=(tk s 0).length:=List.length_map ..
 have htl:=aY4 s 0
 refine aD ((ce3 Φ h28 h56 h55 h73 h75 h76 h77 h74 (s:=s) (by omega) (I:=GN F (dJ s) (c+2) X (c+1)) (J:=fun _ _=>False) (GN.start okX mb2) (fun k N1 n1 hI=>⟨hI.1,hI.2.1.le⟩) (fun k N1 n1 N2 n2 hI g=>GN.grow (by omega) hI g) ?_).mono ?_)
 ·intro k N1 n1 pv b hk hI hp hA;have hk':k<(dJ s).length:=by omega
  have e:(dJ s)[k]=(tk s 0)[k].2:=by simp[dJ]
  have hpl:(dJ s)[k].2.length≤Dy:=by
   rw[e];have:=yL (s.length+1) s 0 (tk s 0)[k] (List.getElem_mem _);show _≤9223372036854775807;omega
  have hh:=w29 Φ h29 (F:=F) (tl:=dJ s) (at_:=(tk s 0)[k].1) (show c+1<c+2 by omega) hI hk' (by omega) hp hpl (by rw[e];exact hA);rw[e]at hh;exact hh.mono fun r M' c' hr=> .inl hr
 ·intro r M2 cs hor;obtain⟨rfl,hI⟩:=hor.resolve_right fun h=>h.2;rw[←hTl]at hI;have hOk2:=hI.1;have hgx:=hI.2.1;have hle:=hgx.le;have mc3:M2.get c=some (af 25 [.l0]):=(hgx.old c (by omega) (by omega)).trans mc2;have old3:∀x,x<c→M2.get x=M.get x:=fun x hx=>(hgx.old x (by omega) (by omega)).trans (g2.old x hx);have new3:=hgx.new;cases hto:rS s with
  |false=>
   have stc:=aJ mc3 0 [V.l0] (by simp) rfl;have hovc:over [V.l0] 0 [V.l0]=[V.l0]:=rfl;rw[hovc,←cO mc3]at stc;have lc:loadN F M2 c 0 1=some [V.l0]:=aY mc3 1 rfl;simp only[WX,nb,dR,hG,stc,lc];have hp:IY s=([],4):=by unfold IY;rw[ab hlen,ac hto]
   exact⟨.l0,by rw[hp],by rw[hp];exact yh,by omega,old3,new3⟩
  |true=>
   obtain⟨v,hv,ht⟩:=GN.done (by omega) hI (by omega);have s6:bS (M2.set cs (af 4 [.b false])) cs 0 [.b false]=some (M2.set cs (af 4 [.b false])):=dS rfl rfl;have s7:bS ((M2.set cs (af 4 [.b false])).set (cs+1) (af 74 [.f0])) (cs+1) 0 [.f 31 [] [.p (c+1) 0]]=some ((M2.set cs (af 4 [.b false])).set (cs+1) (af 74 [.f 31 [] [.p (c+1) 0]])):=dS rfl rfl;have hfn:∀a b c,flatten (V.f a b c)=[V.f a b c]:=fun _ _ _=>rfl;simp only[WX,Nat.reduceAdd,nb,s6,s7,hfn];have gY:Gr cs M2 (cs+3) (((M2.set cs (af 4 [.b false])).set (cs+1) (af 74 [.f 31 [] [.p (c+1) 0]])).set (cs+2) (af 25 [.l0])):=(((Gr.refl hOk2).set cs _ (aj _) (ay _) (aH _)).set (cs+1) _ (by omega) (show cs+1<cs+2 by omega) (by omega)).set (cs+2) _ (by omega) (by omega) (by omega);have y6:(((M2.set cs (af 4 [.b false])).set (cs+1) (af 74 [.f 31 [] [.p (c+1) 0]])).set (cs+2) (af 25 [.l0])).get cs=some (af 4 [.b false]):=(ak _ _ (by omega)).trans ((ak _ _ (by omega)).trans (am _ _ _));have y7:(((M2.set cs (af 4 [.b false])).set (cs+1) (af 74 [.f 31 [] [.p (c+1) 0]])).set (cs+2) (af 25 [.l0])).get (cs+1)=some (af 74 [.f 31 [] [.p (c+1) 0]]):=(ak _ _ (by omega)).trans (am _ _ _);have y9:(((M2.set cs (af 4 [.b false])).set (cs+1) (af 74 [.f 31 [] [.p (c+1) 0]])).set (cs+2) (af 25 [.l0])).get (cs+2)=some (af 25 [.l0]):=am _ _ _;generalize((M2.set cs (af 4 [.b false])).set (cs+1) (af 74 [.f 31 [] [.p (c+1) 0]])).set (cs+2) (af 25 [.l0])=Y at gY y6 y7 y9⊢;have okY:=gY.ok hOk2;have hRY:RS F (c+2) cs M2 (c+1) Y (cs+3) Y (cs+3) false (dJ s):=⟨jq.of (Gr.refl okY),okY,⟨v,(gY.old _ (by omega)).trans hv,ht⟩,y6,fun x a b=>gY.old x b⟩
   have mcY:=(gY.old c (by omega)).trans mc3;have oldY:∀x,x<c→Y.get x=M.get x:=fun x hx=>(gY.old x (by omega)).trans (old3 x hx);obtain⟨I,hI⟩:∃I:Nat→St→Prop,∀n s',I n s'↔(∃(c1:Nat) (M1:Mem) (tr:List T2) (j:Int) (bad:Bool) (dn:List dD) (vl:V) (u:List (Option V)),n=tr.length∧s'= .mk ((Gi u (sV s) (.p c 0) (.p (c+1) 0) (.f 30 [] [.p (c+1) 0]) (.p cs 0) (.p (cs+1) 0) (.f 32 [] [.p (cs+1) 0,.p cs 0]) (.p (cs+2) 0) (.i .i64 j))) [] M1 c1∧RS F (c+2) cs M2 (c+1) M1 c1 M1 c1 bad tr∧IR (c+2) cs (c+1) c1 M1∧M1.get (cs+2)=some (af 25 [vl])∧sI F (c+2) cs M2 M1 (cs+3) c1 vl dn∧dn.length+tr.length≤500000∧tr.length≤s.length∧M1.get c=some (af 25 [.l0])∧(∀x,x<c→M1.get x=M.get x)∧dU 0 (dJ s)=(dn++(dU j tr).1,bad||(dU j tr).2.1,(dU j tr).2.2)):=⟨fun n s'=>_,fun _ _=>Iff.rfl⟩
   refine bw I ?_ (dJ s).length _ ((hI _ _).2 ⟨_,_,_,0,false,[],.l0,(G1 (X1 (G1 (X1 (G4 (G2 (G1 (bD (bK (bB (X4 []))))))))))),rfl,rfl,hRY,⟨by omega,by omega,aj _,y7⟩,y9,⟨0,[],bm.nil,rfl,ax _,fun i h=>(by cases h)⟩,by simp only[aM];omega,by omega,mcY,oldY,by simp⟩);intro n s' hIs;obtain⟨c1,M1,tr,j,bad,dn,vl,u,rfl,rfl,hR,cx,m9,hL,hdl,htl2,mc1,old1,hLA⟩:=(hI _ _).1 hIs;clear hIs;have hx:=cx.h1;have hx2:=cx.h2;have hx3:=cx.h3;have c33':V.s 1 33=sV [33]:=rfl;simp only[WX,nb];rw[c33'];refine aD ((WW Φ h30 hR hx hx2 (by omega) [33]).mono ?_)
   have STEP:∀(nt:Bool) (ts1:List T2) (M3:Mem) (u:List (Option V)),jk tr=(nt,ts1)→RS F (c+2) cs M2 (c+1) M1 c1 M3 (c1+1) bad ts1→M3.get c1=some (af 39 [.i .i64 j,.b nt,.l0,.l0,.b false,.l0])→ts1.length≤tr.length→
    Wp xd (K Φ none 10 F) (.mk ((iT u (sV s) (.p c 0) (.p (c+1) 0) (.f 30 [] [.p (c+1) 0]) (.p cs 0) (.p (cs+1) 0) (.f 32 [] [.p (cs+1) 0,.p cs 0]) (.p (cs+2) 0) (.i .i64 j) (.p c1 0))) [] M3 (c1+1)) (gJ (xe.seq C0) (K Φ none 10 F) (dF 1 (jo I tr.length (dF 0 (gJ ((xf.seq xj).seq (xn.seq .ret)) (K Φ none 10 F) (kF scF 0 (nk F [.cn (.r .h) 1,.t (.l (.l .h))] fun r M' c'=>PsP F s M c r M' c'))))))):=by
    intro nt ts1 M3 u hnt hR3 mp3 hl1;have hp:cY j tr=(⟨j,nt,(d6 (cJ ts1).2).1,(dK (dm (d6 (cJ ts1).2).2.2).2).2.1,(dK (dm (d6 (cJ ts1).2).2.2).2).1,(cJ ts1).1::(dm (d6 (cJ ts1).2).2.2).1⟩,(d6 (cJ ts1).2).2.1||(dK (dm (d6 (cJ ts1).2).2.2).2).2.2.1,(dK (dm (d6 (cJ ts1).2).2.2).2).2.2.2):=by unfold cY;rw[hnt]
    have hl2:=jU ts1;have hl3:=Ad (cJ ts1).2;have hl4:=qd j tr;refine n15 Φ h31 cx hR3 (ay _) (by omega) (by omega) mp3 u _ ?_;intro u M4 c4 vc hR4 hca4 mp4 hle4;simp only[WX];refine n18 Φ h30 h31 h32 cx hR4 (by omega) mp4 (G1 (X1 (G1 (X1 (G8 (bD (bK (bB (X2 (X1 [])))))))))) _ ?_;intro u M5 c5 vi hR5 i1 hvi mp5 hle5 hf5;simp only[WX,TJ];refine n21 Φ h30 h31 cx hR5 (by omega) (by omega) (by omega) i1 mp5 (hca4.keep hle5 fun x a b=>hf5 x (by omega) b) (by simp only[av,aM];omega) (G1 (X1 (G1 (X1 (G8 (bD (bK (bB (X2 (X1 [])))))))))) _ ?_;intro u M6 c6 vc6 hR6 hca6 mp6 hle6;simp only[WX,Nat.reduceEqDiff,reduceCtorEq,TL,oa];refine n22 Φ h30 h31 h32 cx hR6 (by omega) mp6 (G1 (X1 (G1 (X1 (G8 (bD (bK (bB (X2 (X1 [])))))))))) _ ?_;intro u M7 c7 vo hR7 o1 hvo mp7 hle7 hf7;simp only[WX];refine n26 Φ cx hR7 (by omega) m9 hL (by omega) mp7 i1 o1 hvi hvo (hca6.keep hle7 fun x a b=>hf7 x (by omega) b) (G1 (X1 (G1 (X1 (G8 (bD (bK (bB (X2 (X1 [])))))))))) _ ?_;intro u M8 c8 vl8 hR8 cx8 m98 hL8 hold8 hle8;have mc8:M8.get c=some (af 25 [.l0]):=(hold8 c (by omega) (by omega) (by omega) (by omega)).trans mc1;have old8:∀x,x<c→M8.get x=M.get x:=fun x hx=>(hold8 x (by omega) (by omega) (by omega) (by omega)).trans (old1 x hx);simp only[WX];have K9:∀(M9:Mem) (c9:Nat) (b9:Bool) (t9:List T2),RS F (c+2) cs M2 (c+1) M8 c8 M9 c9 b9 t9→RS F (c+2) cs M2 (c+1) M9 c9 M9 c9 b9 t9∧IR (c+2) cs (c+1) c9 M9∧M9.get (cs+2)=some (af 25 [vl8])∧sI F (c+2) cs M2 M9 (cs+3) c9 vl8 (dn++[(cY j tr).1])∧M9.get c=some (af 25 [.l0])∧(∀x,x<c→M9.get x=M.get x):=by
     intro M9 c9 b9 t9 hR9;have hle9:=hR9.g.le;refine⟨⟨jq.of (Gr.refl hR9.ok),hR9.ok,hR9.tk,hR9.m6,hR9.bk⟩,⟨by omega,by omega,by omega,(hR9.g.old _ (by omega) (by omega)).trans cx8.m7⟩,(hR9.g.old _ (by omega) (by omega)).trans m98,?_,(hR9.g.old _ (by omega) (by omega)).trans mc8,fun x hx=>(hR9.g.old _ (by omega) (by omega)).trans (old8 x hx)⟩;rw[hp];exact hL8.keep hle9 fun x a b=>hR9.g.old x b (by omega)
    refine n36 Φ h30 h33 (M1:=M8) cx8 hR8 (G1 (X1 (G1 (X1 (G8 (bD (bK (bB (X2 (X1 [])))))))))) _ ?_ ?_
    ·intro hj u M9 c9 hR9;obtain⟨k1,k2,k3,k4,k5,k6⟩:=K9 _ _ _ _ hR9;have hj2:eO (cY j tr).2.2=none:=by rw[hp];exact hj
     have hLA':dU 0 (dJ s)=(dn++[(cY j tr).1],(bad||(d6 (cJ ts1).2).2.1)||(dK (dm (d6 (cJ ts1).2).2.2).2).2.2.1,(dK (dm (d6 (cJ ts1).2).2.2).2).2.2.2):=by
      rw[hLA,tH hj2,hp,Bool.or_assoc]
     rw[hLA']at hPS hPZ;simp only[WX,reduceCtorEq,oa];exact bY9 Φ h17 h40 h63 h62 h80 h81 h82 h90 h83 h61 h39 h33 h57 h58 h59 h60 h79 h89 h77 h52 h54 h71 k1 (by omega) k2.h3 k3 k4 k5 k6 hlen hto hLA' hPS hPZ (G1 (X1 (G1 (X1 (G4 (G2 (G1 (bD (bK (bB (X4 [])))))))))))
    ·intro n rs hj u M9 c9 hR9;obtain⟨k1,k2,k3,k4,k5,k6⟩:=K9 _ _ _ _ hR9;have hj2:eO (cY j tr).2.2=some (n,rs):=by rw[hp];exact hj
     have hjl:=pV hj2;simp only[WX,reduceCtorEq,nb,oa];exact⟨rs.length,by omega,(hI _ _).2 ⟨c9,M9,rs,n,_,dn++[(cY j tr).1],vl8,(G1 (X1 (G1 (X1 (G4 (G2 (G1 (bD (bK (bB (X4 []))))))))))),rfl,rfl,k1,k2,k3,k4,by rw[aG,List.length_singleton];omega,by omega,k5,k6,by rw[hLA,tI hj2,hp];simp only[aQ,List.singleton_append,Bool.or_assoc]⟩⟩
   have hG6:∀b:Bool,flatten (V.g [.i .i64 j,.b b,.l0,.l0,.b false,.l0])=[.i .i64 j,.b b,.l0,.l0,.b false,.l0]:=fun _=>rfl;have ALL:∀(b:Bool) (M3:Mem) (ts1:List T2),RS F (c+2) cs M2 (c+1) M1 c1 M3 c1 bad ts1→bS (M3.set c1 (af 39 [.i .i64 0,.b false,.l0,.l0,.b false,.l0])) c1 0 [.i .i64 j,.b b,.l0,.l0,.b false,.l0]=some (M3.set c1 (af 39 [.i .i64 j,.b b,.l0,.l0,.b false,.l0]))∧RS F (c+2) cs M2 (c+1) M1 c1 (M3.set c1 (af 39 [.i .i64 j,.b b,.l0,.l0,.b false,.l0])) (c1+1) bad ts1:=fun b M3 ts1 hR3=>⟨dS rfl rfl,hR3.grow hx hx2 (by omega) ((Gr.refl hR3.ok).set c1 _ (aj _) (ay _) (aH _))⟩;rintro r M3 c3 ⟨rfl,hf,⟨rs,e1,rfl,hR3⟩|⟨e1,rfl,hR3⟩⟩
   ·obtain⟨sn,hR4⟩:=ALL true M3 rs hR3;have hl:=fc e1;simp only[WX,Nat.reduceAdd,Nat.reduceLeDiff,hG6,sn];exact STEP true rs _ (G1 (X1 (G1 (X1 (G8 (bD (bK (bB (X2 (X1 [])))))))))) (by unfold jk;rw[e1]) hR4 (am _ _ _) (by omega)
   ·obtain⟨sn,hR4⟩:=ALL false M3 tr hR3;simp only[WX,Nat.reduceAdd,Nat.reduceLeDiff,hG6,sn];exact STEP false tr _ (G1 (X1 (G1 (X1 (G8 (bD (bK (bB (X2 (X1 [])))))))))) (by unfold jk;rw[e1]) hR4 (am _ _ _) (aj _)
def qA:List Pc→Nat
 |[]=>0
 |p::r=>p.1.length+2+qA r
theorem sv(a b:List Pc):qA (a++b)=qA a+qA b:=by
 induction a with
 |nil=>simp[qA]
 |cons p r ih=>show p.1.length+2+qA (r++b)=_;rw[ih];simp only[qA];omega
theorem XU(w:List Pc):w.length≤qA w:=by
 induction w with
 |nil=>exact aj _
 |cons p r ih=>simp only[qA,av];omega
theorem XV{w:List Pc}{q:Pc}(h:q∈w):q.1.length≤qA w:=by
 induction w with
 |nil=>cases h
 |cons p r ih=>
  rcases bh.1 h with rfl|h
  ·simp only[qA];omega
  ·have:=ih h;simp only[qA];omega
theorem SA(p:Pc):(lz p).length≤p.1.length+2:=by
 unfold lz
 split
 ·simp
 ·split
  ·omega
  ·simp
theorem V4(w:List Pc):(cw w).length≤qA w:=by
 induction w with
 |nil=>exact aj _
 |cons p r ih=>have:=SA p;simp only[cw,qA,aG];omega
theorem aY1{r bs:List UInt8}{k:Nat}{b:Bool}(h:stW r=some (some (k,bs,b))):bs.length≤k+1:=by
 cases r with
 |nil=>cases h
 |cons c t=>
  rw[stW]at h;split at h
  ·cases h
  ·split at h
   ·split at h
    ·injection h with h;injection h with h;injection h with h1 h2;injection h2 with h2 h3
     subst h1 h2;rw[List.length_take];omega
    ·cases h
   ·split at h
    ·split at h
     ·injection h with h;injection h with h;injection h with h1 h2;injection h2 with h2 h3
      subst h1 h2;simp
     ·cases h
    ·split at h
     ·injection h with h;injection h with h;injection h with h1 h2;injection h2 with h2 h3
      subst h1 h2;simp
     ·cases h
theorem aD1{r bs:List UInt8}{k:Nat}{b:Bool}(h:stW r=some (some (k,bs,b))):k+1≤r.length:=by
 cases r with
 |nil=>cases h
 |cons c t=>
  rw[stW]at h;split at h
  ·cases h
  ·split at h
   ·split at h
    ·rename_i hq;injection h with h;injection h with h;injection h with h1 h2
     subst h1;rw[av];have:qn t<t.length:=by
      apply Classical.byContradiction;intro hn;rw[List.drop_eq_nil_of_le (by omega)]at hq;cases hq
     omega
    ·cases h
   ·split at h
    ·split at h
     ·rename_i hq;injection h with h;injection h with h;injection h with h1 h2
      subst h1;rw[av];cases t with
      |nil=>cases hq
      |cons a t=>rw[av];omega
     ·cases h
    ·split at h
     ·injection h with h;injection h with h;injection h with h1 h2
      subst h1;rw[av];omega
     ·cases h
theorem DR:∀(f:Nat) (r:List UInt8) (w:List Pc) (text:List UInt8) (sm:Bool) (n:Nat) (ps:List Pc) (m:Nat),Bu f r w text sm n=some (ps,m)→m≤n+r.length
 |0,_,_,_,_,_,_,_,h=>by cases h
 |f+1,r,w,text,sm,n,ps,m,h=>by
  rw[Bu]at h;split at h
  ·injection h with h;injection h with h1 h2;omega
  ·cases h
  ·rename_i k bs hs;have:=DR f _ _ _ _ _ _ _ h;have:=aD1 hs;rw[bC]at *;omega
  ·rename_i k bs hs;have:=DR f _ _ _ _ _ _ _ h;have:=aD1 hs;rw[bC]at *;omega
theorem DT:∀(f:Nat) (r:List UInt8) (w:List Pc) (text:List UInt8) (sm:Bool) (n:Nat) (ps:List Pc) (m:Nat),Bu f r w text sm n=some (ps,m)→qA ps+4*n≤qA w+text.length+2+4*m
 |0,_,_,_,_,_,_,_,h=>by cases h
 |f+1,r,w,text,sm,n,ps,m,h=>by
  rw[Bu]at h;split at h
  ·injection h with h;injection h with h1 h2
   subst h1 h2;unfold nF;split
   ·rw[sv];simp only[qA];omega
   ·omega
  ·cases h
  ·have:=DT f _ _ _ _ _ _ _ h;have e:qA (gQ w text)≤qA w+text.length+4:=by
    unfold gQ;split
    ·rw[sv,sv];simp only[qA,aM];omega
    ·rw[sv];simp only[qA,aM];omega
   simp only[aM]at this;omega
  ·rename_i k bs hs;have:=DT f _ _ _ _ _ _ _ h;have hb:=aY1 hs;rw[aG]at this;omega
def iV:List T2→Nat
 |[]=>0
 |t::r=>qA t.2+10+iV r
theorem yM:∀(f:Nat) (r:List UInt8) (i:Nat),iV ((AR f r i).map (·.2))≤16*r.length
 |0,_,_=>ax _
 |_+1,[],_=>aj _
 |f+1,x::t,i=>by
  unfold AR;split
  ·have:=yM f t (i+1);rw[av];omega
  ·split
   ·rename_i hs;have h1:=jb hs;have h2:=yM f ((x::t).drop (cL (x::t)).length) (i+(cL (x::t)).length);have h3:=uc (x::t);rw[bC]at h2;rw[List.map_cons,iV];simp only[qA];omega
   ·split
    ·exact ax _
    ·split
     ·exact ax _
     ·rename_i ps n h hn;have h1:=yM f ((x::t).drop n) (i+n);have h2:=DT _ _ _ _ _ _ _ _ h;rw[bC]at h1;rw[List.map_cons,iV];simp only[qA,aM]at h2⊢;have h3:=DR _ _ _ _ _ _ _ _ h;omega
theorem ja{s:List UInt8}{ts r:List T2}(h:isS s ts=some r):iV r+10≤iV ts:=by
 cases ts with
 |nil=>cases h
 |cons t q=>
  rw[cC]at h;split at h
  ·injection h with h;subst h;simp only[iV];omega
  ·cases h
theorem uy:∀(m:Nat) (ts:List T2),dq ((dX m ts).1.map cw)+iV (dX m ts).2≤iV ts∧ ∀k,(ga k (dX m ts).1).length+iV (dX m ts).2≤iV ts
 |0,ts=>⟨by simp[dX,dq],fun k=>by simp[dX,ga]⟩
 |_+1,[]=>⟨aj _,fun k=>aj _⟩
 |m+1,t::r=>by
  rw[dX];split
  ·obtain⟨h1,h2⟩:=uy m r;have hw:=V4 t.2;refine⟨by simp only[List.map_cons,dq,iV];omega,fun k=>?_⟩;have:=h2 (k+1);simp only[ga,iV,aG];split<;>simp<;>omega
  ·exact⟨by simp[dq],fun k=>by simp[ga]⟩
def psz:List eF→Nat
 |[]=>0
 |c::r=>2+dq (c.map cw)+psz r
def DI:List eF→Nat
 |[]=>0
 |c::r=>3+(ga 0 c).length+DI r
theorem F9(inp:List Pc):∀(k:Nat) (cl:List eF),0<k→dq (gI inp k cl)=psz cl∧(iY inp k cl).length=DI cl
 |_,[],_=>⟨rfl,rfl⟩
 |k,c::r,h=>by
  obtain⟨h1,h2⟩:=F9 inp (k+1) r (by omega);have hk:decide (k=0)=false:=ag (by omega);constructor
  ·rw[gI,bH,bH,bH,h1,ac h,hk,Bool.false_and,ab (by simp)];simp only[dq,psz,av,aM];omega
  ·rw[iY,aG,aG,aG,h2,ac h];unfold WJ;rw[hk,Bool.false_and,ab (by simp)];simp only[DI,av,aM];omega
theorem wn:∀(f:Nat) (ts:List T2),psz (fo f ts).1+iV (fo f ts).2≤iV ts∧DI (fo f ts).1+iV (fo f ts).2≤iV ts
 |0,_=>⟨by simp[fo,psz],by simp[fo,DI]⟩
 |f+1,ts=>by
  rw[fo];split
  ·rename_i r h;have h1:=ja h;obtain⟨h2,h3⟩:=uy r.length r;have h3:=h3 0;obtain⟨h4,h5⟩:=wn f (cJ r).2;unfold cJ at *;simp only[psz,DI];omega
  ·simp[psz,DI]
theorem Sd{ts r:List T2}{w:List Pc}(h:DC ts=some (w,r)):iV ts=qA w+10+iV r:=by
 cases ts with
 |nil=>cases h
 |cons t q=>
  rw[jC]at h;split at h
  ·injection h with h;injection h with h1 h2;subst h1 h2;rfl
  ·cases h
theorem qk(ts:List T2):(cw (redir ts).1).length+iV (redir ts).2.2≤iV ts:=by
 unfold redir
 split
 ·rename_i w r h;have:=Sd h;have:=V4 w;dsimp only;omega
 ·simp[cw]
theorem RJ(ts:List T2):dq (if hasW (d6 ts).1=true then[[60],cw (d6 ts).1]else[])+iV (d6 ts).2.2≤iV ts∧(if hasW (d6 ts).1=true then[32,60,32]++cw (d6 ts).1 else[]).length+iV (d6 ts).2.2≤iV ts:=by
 unfold d6
 split
 ·rename_i r h;have:=ja h;have:=qk r;split
  ·simp only[dq,aG,av,aM];omega
  ·simp only[dq,aM];omega
 ·rw[ab (by simp[hasW])];rw[ab (by simp[hasW])];simp[dq]
theorem Si(ts:List T2):dq (jD (dK ts).1 (dK ts).2.1)+iV (dK ts).2.2.2≤iV ts∧(lu (dK ts).1 (dK ts).2.1).length+iV (dK ts).2.2.2≤iV ts:=by
 unfold dK
 split
 ·rename_i r h;have:=ja h;have:=qk r;unfold jD lu;dsimp only;rw[ac rfl];split<;>simp only[dq,aG,av,aM,ac]<;>omega
 ·split
  ·rename_i r h;have:=ja h;have:=qk r;unfold jD lu;dsimp only;rw[ab (by simp)];split
   ·rw[ab (by simp)];simp only[dq,aG,av,aM];omega
   ·simp only[dq,aM];omega
  ·unfold jD lu;simp[dq,hasW]
theorem Xc(ts:List T2):dq (if(jk ts).1=true then[[33]]else[])+iV (jk ts).2≤iV ts∧(if(jk ts).1=true then([33,32]:List UInt8)else[]).length+iV (jk ts).2≤iV ts:=by
 unfold jk
 split
 ·rename_i r h;have:=ja h;rw[ac rfl,ac rfl];simp only[dq,av,aM];omega
 ·rw[ab (by simp),ab (by simp)];simp[dq]
def ra(p:dD):List (List UInt8):=(if p.nt=true then[[33]]else[])++(gI p.inp 0 p.cmds++jD p.beh p.out)
def wt(p:dD):List UInt8:=(if p.nt=true then[33,32]else[])++(iY p.inp 0 p.cmds++lu p.beh p.out)
theorem HX(j:Int)(ts:List T2):dq (ra (cY j ts).1)+iV (cY j ts).2.2≤iV ts∧(wt (cY j ts).1).length+iV (cY j ts).2.2≤iV ts:=by
 obtain⟨a1,a2⟩:=Xc ts
 obtain⟨b1,b2⟩:=uy (jk ts).2.length (jk ts).2
 have b2:=b2 0
 obtain⟨c1,c2⟩:=RJ (cJ (jk ts).2).2
 obtain⟨d1,d2⟩:=wn (d6 (cJ (jk ts).2).2).2.2.length (d6 (cJ (jk ts).2).2).2.2
 obtain⟨e1,e2⟩:=Si (dm (d6 (cJ (jk ts).2).2).2.2).2
 obtain⟨f1,f2⟩:=F9 (d6 (cJ (jk ts).2).2).1 1 (dm (d6 (cJ (jk ts).2).2).2.2).1 (by decide)
 unfold cY ra wt
 dsimp only
 rw[bH,bH,aG,aG,gI,iY,bH,bH,bH,aG,aG,aG,f1,f2]
 unfold WJ
 simp only[decide_true,Bool.true_and,ab (show¬(0:Nat)<0 by omega),dq,aM]
 unfold dm cJ at *
 omega
theorem RT(n:Nat):(tA n).length≤2∧(Dl n).length≤4:=by
 match n with
 |0=>decide
 |1=>decide
 |2=>decide
 |3=>decide
 |_+4=>exact⟨ax _,ax _⟩
theorem HF{ts r:List T2}{j:Int}(h:eO ts=some (j,r)):iV r+10≤iV ts:=by
 unfold eO at h
 split at h
 ·rename_i q hq;have:=ja hq;injection h with h;injection h with _ h;subst h;exact this
 ·split at h
  ·rename_i q hq;have:=ja hq;injection h with h;injection h with _ h;subst h;exact this
  ·split at h
   ·rename_i q hq;have:=ja hq;injection h with h;injection h with _ h;subst h;exact this
   ·cases h
theorem Sw(p:dD):dq (I4 p)≤dq (ra p)+3:=by
 have:=(RT p.join.toNat).1
 unfold I4 ra
 rw[bH]
 split
 ·simp only[dq];omega
 ·simp only[dq];omega
theorem UZ(i:Nat)(p:dD)(r:List dD):(rt i (p::r)).length≤(wt p).length+4+(rt (i+1) r).length:=by
 have:=(RT p.join.toNat).2
 rw[rt]
 unfold wt
 simp only[aG]
 split
 ·omega
 ·simp only[aM];omega
theorem wc:∀(f:Nat) (j:Int) (ts:List T2),dq (kZ (fG f j ts).1)+iV (fG f j ts).2.2≤iV ts+3∧ ∀i,(rt i (fG f j ts).1).length+iV (fG f j ts).2.2≤iV ts+4
 |0,_,ts=>⟨by simp[fG,kZ,dq],fun i=>by simp[fG,rt]⟩
 |f+1,j,ts=>by
  obtain⟨h1,h2⟩:=HX j ts;have h3:=Sw (cY j ts).1;rw[fG];split
  ·refine⟨by rw[kZ,bH];simp only[kZ,dq];omega,fun i=>?_⟩;have:=UZ i (cY j ts).1 [];simp only[rt,aM]at this⊢;simp only[bF]at this⊢;omega
  ·rename_i j' r hj;have h4:=HF hj;obtain⟨h5,h6⟩:=wc f j' r;refine⟨by rw[kZ,bH];dsimp only;omega,fun i=>?_⟩;have:=UZ i (cY j ts).1 (fG f j' r).1;have:=h6 (i+1);dsimp only;omega
def TK(k:Nat)(ts:List T2):Prop:=∀t∈ts,qA t.2≤k
def WK(k:Nat)(w:List Pc):Prop:=qA w≤k
theorem aY5{ts:List T2}:TK (iV ts) ts:=by
 intro t ht
 induction ts with
 |nil=>cases ht
 |cons a r ih=>
  rcases bh.1 ht with rfl|h
  ·simp only[iV];omega
  ·have:=ih h;simp only[iV];omega
theorem TK.isS{k:Nat}{s:List UInt8}{ts r:List T2}(h:TK k ts)(e:isS s ts=some r):TK k r:=by
 cases ts with
 |nil=>cases e
 |cons t q=>
  rw[cC]at e;split at e
  ·injection e with e;subst e;exact fun t ht=>h t (bq _ ht)
  ·cases e
theorem TK.wds{k:Nat}:∀(m:Nat) {ts:List T2},TK k ts→(∀w∈(dX m ts).1,WK k w)∧TK k (dX m ts).2
 |0,ts,h=>⟨fun w hw=>(by cases hw),h⟩
 |_+1,[],h=>⟨fun w hw=>(by cases hw),h⟩
 |m+1,t::r,h=>by
  rw[dX];split
  ·obtain⟨h1,h2⟩:=TK.wds m (ts:=r) fun t ht=>h t (bq _ ht);refine⟨fun w hw=>?_,h2⟩;rcases bh.1 hw with rfl|hw
   ·exact h t (bG ..)
   ·exact h1 w hw
  ·exact⟨fun w hw=>(by cases hw),h⟩
theorem TK.redir{k:Nat}{ts:List T2}(h:TK k ts):WK k (redir ts).1∧TK k (redir ts).2.2:=by
 cases ts with
 |nil=>exact⟨ax _,h⟩
 |cons t r=>
  unfold Ev.redir;rw[jC];by_cases ht:t.1=[]
  ·rw[ac ht];exact⟨h t (bG ..),fun t ht=>h t (bq _ ht)⟩
  ·rw[ab ht];exact⟨ax _,h⟩
theorem TK.inp{k:Nat}{ts:List T2}(h:TK k ts):WK k (d6 ts).1∧TK k (d6 ts).2.2:=by
 unfold d6
 split
 ·rename_i r e;exact(h.isS e).redir
 ·exact⟨ax _,h⟩
theorem TK.out{k:Nat}{ts:List T2}(h:TK k ts):WK k (dK ts).2.1∧TK k (dK ts).2.2.2:=by
 unfold dK
 split
 ·rename_i r e;exact(h.isS e).redir
 ·split
  ·rename_i r e;exact(h.isS e).redir
  ·exact⟨ax _,h⟩
theorem TK.nt{k:Nat}{ts:List T2}(h:TK k ts):TK k (jk ts).2:=by
 unfold jk
 split
 ·rename_i r e;exact h.isS e
 ·exact h
theorem TK.pipe{k:Nat}:∀(f:Nat) {ts:List T2},TK k ts→(∀c∈(fo f ts).1,∀w∈c,WK k w)∧TK k (fo f ts).2
 |0,_,h=>⟨fun c hc=>(by cases hc),h⟩
 |f+1,ts,h=>by
  rw[fo];split
  ·rename_i r e;obtain⟨h1,h2⟩:=TK.wds r.length (h.isS e);obtain⟨h3,h4⟩:=TK.pipe f (ts:=(cJ r).2) h2;refine⟨fun c hc=>?_,h4⟩;rcases bh.1 hc with rfl|hc
   ·exact h1
   ·exact h3 c hc
  ·exact⟨fun c hc=>(by cases hc),h⟩
theorem WK.s{k:Nat}{w:List Pc}(h:WK k w)(hk:k≤1000000):(∀q∈w,q.1.length≤1000000)∧w.length≤1000000:=
 ⟨fun q hq=>bc (XV hq) (bc h hk),bc (XU w) (bc h hk)⟩
theorem TK.part{k:Nat}{ts:List T2}(j:Int)(h:TK k ts)(hk:k≤1000000):GM (cY j ts).1∧TK k (cY j ts).2.2:=by
 obtain⟨a1,a2⟩:=TK.wds (jk ts).2.length h.nt
 obtain⟨b1,b2⟩:=TK.inp (ts:=(cJ (jk ts).2).2) a2
 obtain⟨c1,c2⟩:=TK.pipe (d6 (cJ (jk ts).2).2).2.2.length b2
 obtain⟨d1,d2⟩:=TK.out (ts:=(dm (d6 (cJ (jk ts).2).2).2.2).2) c2
 refine⟨⟨(b1.s hk).1,(d1.s hk).1,fun x hx w hw=>?_,(b1.s hk).2,(d1.s hk).2⟩,d2⟩
 rcases bh.1 hx with rfl|hx
 ·exact(WK.s (a1 w hw) hk).1
 ·exact(WK.s (c1 x hx w hw) hk).1
theorem TK.line{k:Nat}(hk:k≤1000000):∀(f:Nat) (j:Int) {ts:List T2},TK k ts→ ∀p∈(fG f j ts).1,GM p
 |0,_,_,_,p,hp=>by cases hp
 |f+1,j,ts,h,p,hp=>by
  obtain⟨h1,h2⟩:=h.part j hk;rw[fG]at hp;split at hp
  ·rcases bh.1 hp with rfl|hp
   ·exact h1
   ·cases hp
  ·rename_i j' r hj;rcases bh.1 hp with rfl|hp
   ·exact h1
   ·refine TK.line hk f j' (ts:=r) ?_ p hp;unfold eO at hj;split at hj
    ·rename_i q hq;injection hj with hj;injection hj with _ hj;subst hj;exact h2.isS hq
    ·split at hj
     ·rename_i q hq;injection hj with hj;injection hj with _ hj;subst hj;exact h2.isS hq
     ·split at hj
      ·rename_i q hq;injection hj with hj;injection hj with _ hj;subst hj;exact h2.isS hq
      ·cases hj
theorem Sv{s:List UInt8}(h:s.length≤4096):(∀p∈(dU 0 (dJ s)).1,GM p)∧dq (kZ (dU 0 (dJ s)).1)≤1000000∧(rt 0 (dU 0 (dJ s)).1).length≤1000000:=by
 have h1:iV (dJ s)≤16*s.length:=yM (s.length+1) s 0
 obtain⟨h2,h3⟩:=wc ((dJ s).length+1) 0 (dJ s)
 have h3:=h3 0
 unfold dU
 exact⟨TK.line (k:=16*s.length) (by omega) _ 0 (fun t ht=>bc (aY5 t ht) h1),by omega,by omega⟩
def CuS(cu:Nat)(v:V)(TT:List T2)(M:Mem)(ts:List T2):Prop:=∃k:Nat,M.get cu=some (af 80 [v,.i .i64 (k:Int)])∧k≤TT.length∧ts=TT.drop k
structure RR(F:RO)(lo cs:Nat)(Ms:Mem)(v:V)(TT:List T2)(M1:Mem)(c1:Nat)(M2:Mem)(c2:Nat)(ts:List T2):Prop where
 g:jq (fun x=>x=cs) c1 M1 c2 M2
 ok:cK F M2 c2
 cu:CuS cs v TT M2 ts
 bk:Bk lo cs Ms M2
end
end Go.Proofs.YtmbpllipombieaaDoor.Ev
