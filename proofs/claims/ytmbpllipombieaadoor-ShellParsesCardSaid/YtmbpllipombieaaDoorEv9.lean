/- What is proved here: pieces of the evaluator's soundness: if the evaluator comes to a value, the model's run comes to it, for every world and tape; no conditions beyond the hypotheses of each theorem. -/
import Derived.Test.YtmbpllipombieaaDoorEv8
set_option linter.unusedSimpArgs false
set_option linter.unusedVariables false
set_option linter.defProp false
set_option maxRecDepth 10000
set_option maxHeartbeats 16000000
namespace Go.Proofs.YtmbpllipombieaaDoor.Ev
open Go
noncomputable section
abbrev aI3(u:List (Option V))(x0 x1 x4:V):T:=(.n (.n (aq u 15 7 23 3 19 11 27) (some x1) (aq u 17 9 25 5 21 13 29)) (some x0) (.n (.n (fm u 16 8 24) (some x4) (fm u 20 12 28)) (uO u 2) (aq u 18 10 26 6 22 14 30)))
def aa6:CC:=(.reg [(aa a4 (.bx 59 2 z1)),(qq a5 (.mv xF))])
def aa7:CC:=(.reg [(qq a6 (.ld1 z2)),(qq a7 (.ldn 2 z4)),(aa a8 (.bsl 59 1 2 [(.s 0 0),.l0] [(0,z7)])),(ee a9 (.app 59 2 40 z6 z8)),(ez (.st 1 z2 z9))])
def aa8:CC:=(.reg [(qq a5 (.mv xT))])
def c29:CF:= .mk 4 [.t a5] (.seq aa6 (.seq aa7 (.seq aa8 .ret)))
theorem e29(v0 v1 v2:V):bz 4 [v0,v1,v2]=(.n (.n sG (some v1) sG) (some v0) (.n sG (some v2) sG)):=rfl
def B29:=ai @e29 (ai (wu aa6.eq_1) (ai (wu aa7.eq_1) (wu aa8.eq_1)))
def aa9:CC:=(.reg [(qq a3 (.mv xF))])
def ab0:CC:=(.reg [(qq a4 (.ld1 z1)),(qq a5 (.ln .slice z4)),(qq a6 (.bi .eql z5 (x6 0))),(qq a7 (.mv z6)),(aw a8 (.ld1 z1) a7),(aw a9 (.iaS 2 z8 (x6 0)) a7),(aw dJ (.fa 0 z9) a7),(aw ey (.ld1 eK) a7),(aw eU (.mv z0) a7),(aw eC (.bi .neq dE ei) a7),(qq dR (.pk z7 xT eb)),(qq dA (.mv fG)),(aw eX (.mv z0) dA),(aw gC (.bi .eql gM (.c (.s 0 0))) dA),(qq fK (.pk gf xT gS))])
def ab1:CC:=(.reg [(qq a3 (.mv xF))])
def ab2:CC:=(.seq ab0 (.cond hU (.seq ab1 .ret) .skip))
def ab3:CC:=(.reg [(qq i5 (.ld1 z1)),(qq gh (.slL 2 jz (some (x6 1)) none none)),(ez (.st 1 z1 k7))])
def ab4:CC:=(.reg [(qq a3 (.mv xT))])
def VN:CF:= .mk 5 [.t a3] (.seq aa9 (.seq ab2 (.seq ab3 (.seq ab4 .ret))))
theorem e30(v0 v1:V):bz 5 [v0,v1]=(.n (.n jt (some v1) jt) (some v0) nr):=rfl
def B30:=ai @e30 (ai (wu aa9.eq_1) (ai (wu ab0.eq_1) (ai (wu ab1.eq_1) (ai (wu ab2.eq_1) (ai (wu ab3.eq_1) (wu ab4.eq_1))))))
def ab5:CC:=(.reg [(qq a5 (.ld1 z1)),(qq a6 (.ln .slice z5)),(qq a7 (.bi .gtr z6 (x6 0))),(qq a8 (.mv z7)),(aE a9 (.ld1 z1) a8),(aE dJ (.iaS 2 z9 (x6 0)) a8),(aE ey (.fa 0 eK) a8),(aE eU (.ld1 dE) a8),(aE eC (.bi .eql ei (.c (.s 0 0))) a8),(qq dR (.pk z8 eb xF)),(qq dA (.mv fG)),(aE eX (.mv z4) dA),(aE gC (.ln .slice gM) dA),(aE fK (.mv z0) dA),(aE i5 (.bi .lss gS hU) dA),(qq gh (.pk gf jz xF))])
def Gx:=wu ab5.eq_1
def ab6:CC:=(.seq ab5 (.cond k7 .skip (.exit 0)))
def Gy:=wu ab6.eq_1
def ab7:CC:=(.reg [(qq fE (.mv z4)),(qq j9 (.ld1 z1)),(qq gO (.iaS 2 kL (x6 0))),(qq jn (.fa 1 k8)),(qq gP (.ldn 1 jA)),(aa ja (.bsl 36 1 1 [.l0] [(0,kM)])),(ee gQ (.app 36 1 24 ju lw)),(qq a4 (.mv lB))])
def bU7:=wu ab7.eq_1
def ab8:CC:=(.reg [(qq kQ (.ld1 z1)),(qq gU (.slL 2 mH (some (x6 1)) none none)),(ez (.st 1 z1 mI))])
def bU8:=wu ab8.eq_1
def ab9:CC:=(.block 0 (.loop (.seq ab6 (.block 1 (.seq ab7 ab8)))))
def bU9:=wu ab9.eq_1
def N0:CC:=(.reg [(qq jv (.mv z4)),(qq a3 (.mv nv))])
def bV0:=wu N0.eq_1
def ac0:CC:=(.seq (.reg [(qq a4 (.mv (.c .l0)))]) (.seq ab9 (.seq N0 .ret)))
def bV1:=wu ac0.eq_1
def ac1:CC:=(.seq (.reg [(qq a3 (.mv (.c .l0)))]) ac0)
def bV2:=wu ac1.eq_1
def Hm:CF:= .mk 5 [.t a3] ac1
theorem e31(v0 v1:V):bz 5 [v0,v1]=(.n (.n jt (some v1) jt) (some v0) nr):=rfl
def B31:=ai @e31 (ai @Gx (ai @Gy (ai @bU7 (ai @bU8 (ai @bU9 (ai @bV0 (ai @bV1 (@bV2))))))))
def ac2:CC:=(.reg [(qq a5 (.ld1 z0)),(ee a6 (.cv z5 [(x6 1)])),(qq a7 (.ln .slice z6)),(qq a8 (.mv (x6 0)))])
def ac3:CC:=(.reg [(qq a9 (.bi .lss z8 z7))])
def ac4:CC:=(.reg [(qq dJ (.iaS 1 z6 z8)),(qq ey (.ldn 1 eK)),(aa a4 (.al 36 [.l0])),(ez (.st 1 z4 dE))])
def ac5:CC:=(.reg [(qq eU (.ldn 1 z4)),(ez (.st 1 z2 ei))])
def ac6:CC:=(.reg [(qq eC (.bi .add z8 (x6 1))),(qq a8 (.mv eb))])
def ac7:CC:=(.seq (.cond z9 .skip (.exit 0)) (.seq (.block 1 (.seq ac4 (.seq ac5 .ret))) ac6))
def ac8:CC:=(.reg [(ez (.st 1 z1 xT))])
def ac9:CC:=(.reg [(qq dR (.bld [.l0] [])),(ez (.st 1 z2 fG))])
def ad0:CC:=(.seq (.seq ac2 (.block 0 (.loop (.seq ac3 ac7)))) (.seq ac8 (.seq ac9 .ret)))
def N4:CC:=(.seq (.reg [(aa a2 (.al 36 [.l0]))]) ad0)
def Ws:CF:= .mk 4 [.cn a2 1] N4
theorem e32(v0 v1:V):bz 4 [v0,v1]=(.n (.n sG (some v1) sG) (some v0) jt):=rfl
def B32:=ai @e32 (ai (wu ac2.eq_1) (ai (wu ac3.eq_1) (ai (wu ac4.eq_1) (ai (wu ac5.eq_1) (ai (wu ac6.eq_1) (ai (wu ac7.eq_1) (ai (wu ac8.eq_1) (ai (wu ac9.eq_1) (ai (wu ad0.eq_1) (wu N4.eq_1))))))))))
abbrev T2:=List UInt8×List Pc
def Bk(lo cs:Nat)(Ms M':Mem):Prop:=∀x,lo≤x→x<cs→M'.get x=Ms.get x
def rP(lo cs:Nat)(Ms:Mem)(v:V)(w:List Pc):Prop:=∀(F:RO) M',Bk lo cs Ms M'→dQ F M' cs v w
def xd(lo cs:Nat)(Ms:Mem)(v:V)(ts:List T2):Prop:=∃es:List (List V),(∀(F:RO) M',Bk lo cs Ms M'→cE F M' cs 2 v es)∧es.length=ts.length∧ts.length≤1000000∧ ∀i (h:i<es.length) (h':i<ts.length),∃pv,es[i]=[sV ts[i].1,pv]∧rP lo cs Ms pv ts[i].2
theorem cE.upc{F:RO}{M:Mem}{c c' sz:Nat}{v:V}{es:List (List V)}(h:cE F M c sz v es)(hc:c≤c'):cE F M c' sz v es:=by
 rcases h with⟨a,b|⟨b,o,hv,hb,hcs⟩⟩
 ·exact⟨a,.inl b⟩
 ·exact⟨a,.inr ⟨b,o,hv,by omega,hcs⟩⟩
theorem dQ.upc{F:RO}{M:Mem}{c c':Nat}{v:V}{w:List Pc}(h:dQ F M c v w)(hc:c≤c'):dQ F M c' v w:=⟨h.1.upc hc,h.2⟩
theorem xd.len{lo cs:Nat}{Ms:Mem}{v:V}{ts:List T2}(h:xd lo cs Ms v ts):pf v=some (.i .i64 (ts.length:Int)):=by
 obtain⟨es,h1,h2,_⟩:=h
 rw[←h2];exact(h1 [] Ms fun _ _ _=>rfl).len
theorem xd.head{F:RO}{lo cs:Nat}{Ms M:Mem}{v:V}{t:T2}{r:List T2}(h:xd lo cs Ms v (t::r))(hB:Bk lo cs Ms M):
 ∃b o pv,b<cs∧eV 2 v (.i .i64 0)=some (.p b o)∧load1 F M b o=some (sV t.1)∧loadN F M b (o+1) 1=some [pv]∧rP lo cs Ms pv t.2:=by
 obtain⟨es,h1,h2,h3,h4⟩:=h
 have h0:0<es.length:=by rw[h2];simp
 obtain⟨b,o,a1,a2,a3⟩:=(h1 F M hB).at 0 h0
 obtain⟨pv,e,hw⟩:=h4 0 h0 (by simp)
 rw[e]at a3
 have c0:=a3 0 (by simp)
 have c1:=a3.loadN 1 1 (by simp) (by decide)
 exact⟨b,o,pv,a1,a2 .i64,c0,c1,hw⟩
theorem xd.tail{lo cs:Nat}{Ms:Mem}{v:V}{t:T2}{r:List T2}(h:xd lo cs Ms v (t::r)):∃v',vu 2 v (some (.i .i64 1)) none none=some v'∧xd lo cs Ms v' r∧bC v'=true∧flatten v'=[v']∧aK [v']=true:=by
 obtain⟨es,h1,h2,h3,h4⟩:=h
 have hne:es≠[]:=by intro e;rw[e]at h2;cases h2
 obtain⟨v',e1,e2⟩:=Gg (h1 [] Ms fun _ _ _=>rfl) hne
 refine⟨v',e1,⟨es.tail,fun F M' hM'=>?_,by rw[List.length_tail,h2];rfl,by rw[aA]at h3;omega,fun i hi hi'=>?_⟩,jj e2⟩
 ·obtain⟨v2,e3,e4⟩:=Gg (h1 F M' hM') hne;rw[e1]at e3;obtain rfl:=ag e3;exact e4
 ·have:=h4 (i+1) (by rw[List.length_tail]at hi;omega) (by simpa using hi');simp only[List.getElem_cons_succ]at this;rw[List.getElem_tail];exact this
def isS(s:List UInt8):List T2→Option (List T2)
 |t::r=>if t.1=s∧s≠[]then some r else none
 |[]=>none
theorem fR(s:List UInt8)(t:T2)(r:List T2):isS s (t::r)=if t.1=s∧s≠[]then some r else none:=rfl
theorem w30(Φ:Nat→Option CF)(h:Φ 30=some VN){F:RO}{lo cs bl c:Nat}{Ms M:Mem}{v:V}{ts:List T2}(hB:Bk lo cs Ms M)(mb:M.get bl=some (ae 71 [v]))(hT:xd lo cs Ms v ts)(s:List UInt8):
 Calls Φ F 30 [sV s,.p bl 0] M c fun r M' c'=>c'=c∧((∃rs v',isS s ts=some rs∧r= .b true∧M'=M.set bl (ae 71 [v'])∧xd lo cs Ms v' rs)∨(isS s ts=none∧r= .b false∧M'=M)):=by
 refine aN h ?_
 have l0:load1 F M bl 0=some v:=au mb 0
 have n1:=hT.len
 cases ts with
 |nil=>
  have d0:decide (((0:Nat):Int)=0)=true:=rfl;simp only[WX,B30,l0,n1,d0];exact .inr rfl
 |cons t r=>
  have d0:decide (((r.length+1:Nat):Int)=0)=false:=af (by omega);have n1:pf v=some (.i .i64 ((r.length+1:Nat):Int)):=n1;obtain⟨b,o,pv,hb,ia,lt,lp,hw⟩:=hT.head (F:=F) hB;have qn:=iL t.1 s;have qe:=cM s [];have e0:V.s 0 0=sV []:=rfl;rw[←e0]at qe;by_cases h1:t.1=s
  ·rw[ah h1]at qn;by_cases h2:s=[]
   ·rw[ah h2]at qe;simp only[WX,B30,l0,n1,d0,ia,lt,qn,qe,aB];exact .inr (by rw[fR,ab (fun h=>h.2 h2)])
   ·rw[af h2]at qe;obtain⟨v',e1,e2,w1,w2,w3⟩:=hT.tail;have st:=aC mb 0 [v'] (by simp) w3;simp only[WX,B30,l0,n1,d0,ia,lt,qn,qe,e1,w2,st,aB];exact .inl ⟨r,v',by rw[fR,ac ⟨h1,h2⟩],rfl,e2⟩
  ·rw[af h1]at qn;simp only[WX,B30,l0,n1,d0,ia,lt,qn,aB];exact .inr (by rw[fR,ab (fun h=>h1 h.1)])
def eT:Nat→List T2→eB×List T2
 |0,ts=>([],ts)
 |_+1,[]=>([],[])
 |m+1,t::r=>if t.1=[]then(t.2::(eT m r).1,(eT m r).2)else([],t::r)
def v8(lo cs:Nat)(Ms M:Mem)(c0 c:Nat)(v:V)(l:eB):Prop:=∃b es,aX M c0 c b 36 1 v es∧es.length=l.length∧l.length≤1000000∧ ∀i (h:i<es.length) (h':i<l.length),∃pv,es[i]=[pv]∧rP lo cs Ms pv l[i]
theorem w31(Φ:Nat→Option CF)(h:Φ 31=some Hm){F:RO}{lo cs bl c:Nat}{Ms M:Mem}{v:V}{ts:List T2}(ok:cR F M c)(hcs:cs≤c)(hbl:bl<lo)(hlc:lo≤cs)(hB:Bk lo cs Ms M)(mb:M.get bl=some (ae 71 [v]))(hT:xd lo cs Ms v ts)(m:Nat)(hm:m≤1000000):
 Calls Φ F 31 [.i .i64 (m:Int),.p bl 0] M c fun r M' c'=>eW (fun x=>x=bl) c M c' M'∧v8 lo cs Ms M' c c' r (eT m ts).1∧ ∃v',M'.get bl=some (ae 71 [v'])∧xd lo cs Ms v' (eT m ts).2:=by
 refine aN h ?_
 simp only[WX,B31]
 obtain⟨I,hI⟩:∃I:Nat→St→Prop,∀n s',I n s'↔(∃(c1 k b:Nat) (M1:Mem) (ov v1:V) (cu:eB) (es:List (List V)) (tr:List T2) (u:List (Option V)),n=tr.length∧s'= .mk ((aI3 u (.i .i64 (m:Int)) (.p bl 0) ov)) [] M1 c1∧eW (fun x=>x=bl) c M c1 M1∧aX M1 c c1 b 36 1 ov es∧es.length=cu.length∧cu.length+k=m∧(∀i (h:i<es.length) (h':i<cu.length),∃pv,es[i]=[pv]∧rP lo cs Ms pv cu[i])∧M1.get bl=some (ae 71 [v1])∧xd lo cs Ms v1 tr∧eT m ts=(cu++(eT k tr).1,(eT k tr).2)):=⟨fun n s'=>_,fun _ _=>Iff.rfl⟩
 refine bw I ?_ ts.length _ ((hI _ _).2 ⟨c,m,0,M,.l0,v,[],[],ts,(G2 (X2 (G1 (br (X8 (X2 [])))))),rfl,rfl,eW.of (Gr.refl ok),aX.nil,rfl,by simp,fun i h _=>(by cases h),mb,hT,rfl⟩)
 intro n s' hIs
 obtain⟨c1,k,b,M1,ov,v1,cu,es,tr,u,rfl,rfl,gx,hA,hel,hk,hes,mb1,hT1,hwe⟩:=(hI _ _).1 hIs
 clear hIs
 have hB1:Bk lo cs Ms M1:=fun x h1 h2=>(gx.old x (by omega) (by omega)).trans (hB x h1 h2)
 have l0:load1 F M1 bl 0=some v1:=au mb1 0
 have n1:=hT1.len
 have hlA:=(hA.sl (F:=F)).len
 have FIN:∀u:List (Option V),eT k tr=([],tr)→Wp N0 (K Φ none 31 F) (.mk ((aI3 u (.i .i64 (m:Int)) (.p bl 0) ov)) [] M1 c1) (eg .ret (K Φ none 31 F) (j6 F [.t (.l (.l .h))] fun r M' c'=>eW (fun x=>x=bl) c M c' M'∧v8 lo cs Ms M' c c' r (eT m ts).1∧ ∃v',M'.get bl=some (ae 71 [v'])∧xd lo cs Ms v' (eT m ts).2)):=by
  intro u he;rw[he,bH]at hwe;simp only[WX,B31];rw[hwe];exact⟨gx,⟨b,es,hA,hel,by show cu.length≤_;omega,hes⟩,v1,mb1,hT1⟩
 cases tr with
 |nil=>
  have d0:decide ((0:Int)<((0:Nat):Int))=false:=rfl;simp only[WX,Gx,Gy,l0,n1,d0];exact FIN (G2 (X2 (G1 (br (X8 (X2 [])))))) (by cases k<;>rfl)
 |cons t r=>
  have d0:decide ((0:Int)<((r.length+1:Nat):Int))=true:=ah (by omega);have n1:pf v1=some (.i .i64 ((r.length+1:Nat):Int)):=n1;obtain⟨tb,o,pv,htb,ia,lt,lp,hw⟩:=hT1.head (F:=F) hB1;have qe:=cM t.1 [];have e0:V.s 0 0=sV []:=rfl;rw[←e0]at qe;by_cases h1:t.1=[]
  ·rw[ah h1]at qe;cases k with
   |zero=>
    have d1:decide ((es.length:Int)<(m:Int))=false:=af (by omega);simp only[WX,Gx,Gy,l0,n1,d0,ia,lt,qe,hlA,d1,aB];exact FIN (G2 (X2 (G1 (br (X8 (X2 [])))))) rfl
   |succ k=>
    have d1:decide ((es.length:Int)<(m:Int))=true:=ah (by omega);obtain⟨v',e1,e2,w1,w2,w3⟩:=hT1.tail;obtain⟨p1,p2,p3⟩:=(hw F M1 hB1).one;have hG:∀v,flatten (V.g [v])=[v]:=fun _=>rfl;have ok1:cR F M1 c1:=gx.ok ok (fun b hb hx=>by rw[hx];exact⟨_,mb⟩);have hle:=gx.le;have gZ:=(Gr.refl ok1).set c1 (cL [V.l0] 36 [pv]) (aj _) (ay _) (aJ _);have hy:cE F (M1.set c1 (cL [V.l0] 36 [pv])) (c1+1) 1 (.l c1 0 1 1) [[pv]]:=II (d:=[V.l0]) (ty:=36) (by rw[am];rfl) (ay _) (fun e he=>by rw[List.mem_singleton]at he;subst he;rfl) rfl;have gA:Gr c M1 (c1+1) (M1.set c1 (cL [V.l0] 36 [pv])):=⟨by omega,fun x hx=>gZ.old x (by omega),gZ.new⟩
    simp only[WX,B31,l0,n1,d0,ia,lt,qe,hlA,d1,lp,hG,p1,aB];refine az ((fO (bytes:=24) (hA.gr gZ) gA (by decide) hy (by show aK [pv]=true;exact p3) (eP (by simp only[aA,aM];omega) (by simp only[aA,aM];omega))).mono ?_);rintro ov' M2 c2 ⟨b',hA2,g2,hle2,hfr2,hb2⟩;have mb2:M2.get bl=some (ae 71 [v1]):=(g2.old bl (by omega)).trans mb1;have l2:load1 F M2 bl 0=some v1:=au mb2 0;have st:=aC mb2 0 [v'] (by simp) w3;simp only[WX,B31,l2,e1,w2,st];have hA3:aX (M2.set bl (ae 71 [v'])) c c2 b' 36 1 ov' (es++[[pv]]):=fL hA2 (by omega);refine⟨r.length,ay _,(hI _ _).2 ⟨c2,k,b',_,ov',v',cu++[t.2],es++[[pv]],r,(G2 (X2 (G1 (br (X8 (X2 [])))))),rfl,rfl,?_,hA3,by rw[aH,aH,hel];rfl,by rw[aH];simp only[aA,aM];omega,?_,am _ _ _,e2,?_⟩⟩
    ·refine⟨by omega,fun x hx hn=>?_,fun x hx=>?_⟩
     ·rw[ak _ _ hn,g2.old x hx];exact gx.old x hx hn
     ·rw[ak _ _ (by omega)];exact g2.new x hx
    ·intro i h1 h2;by_cases hi:i<es.length
     ·obtain⟨pv0,a1,a2⟩:=hes i hi (by omega);exact⟨pv0,by rw[dC hi];exact a1,by rw[dC (by omega)];exact a2⟩
     ·rw[aH]at h1;simp only[aA,aM]at h1;obtain rfl:i=es.length:=by omega
      exact⟨pv,by rw[dB (aj _)];simp,by rw[dB (by omega)];simp only[hel,Nat.sub_self,List.getElem_cons_zero];exact hw⟩
    ·rw[hwe,eT,ac h1];simp
  ·rw[af h1]at qe;simp only[WX,Gx,Gy,l0,n1,d0,ia,lt,qe,aB];exact FIN (G2 (X2 (G1 (br (X8 (X2 [])))))) (by cases k with|zero=>rfl|succ k=>rw[eT,ab h1])
def vr:List T2→Option (List Pc×List T2)
 |t::r=>if t.1=[]then some (t.2,r)else none
 |[]=>none
theorem fy(t:T2)(r:List T2):vr (t::r)=if t.1=[]then some (t.2,r)else none:=rfl
theorem Vj(ts:List T2):eT 1 ts=match vr ts with|some (w,r)=>([w],r)|none=>([],ts):=by
 cases ts with
 |nil=>rfl
 |cons t r=>
  rw[eT,fy];split<;>rfl
theorem w32(Φ:Nat→Option CF)(h:Φ 32=some Ws)(h31:Φ 31=some Hm){F:RO}{lo cs bl b6 b7 c:Nat}{Ms M:Mem}{v:V}{y:Bool}{ts:List T2}(ok:cR F M c)(hcs:cs≤c)(hbl:bl<lo)(hlc:lo≤cs)(hb6:b6<c)(hb7:b7<c)(h67:cs≤b6)(h66:b6≠b7)(hB:Bk lo cs Ms M)(mb:M.get bl=some (ae 71 [v]))(m6:M.get b6=some (ae 4 [.b y]))(m7:M.get b7=some (ae 74 [.f 31 [] [.p bl 0]]))(hT:xd lo cs Ms v ts):
 Calls Φ F 32 [.p b7 0,.p b6 0] M c fun r M' c'=>eW (fun x=>x=bl∨x=b6) c M c' M'∧((∃w rs v' pv,vr ts=some (w,rs)∧r= .g [pv]∧bC pv=true∧rP lo cs Ms pv w∧M'.get bl=some (ae 71 [v'])∧xd lo cs Ms v' rs∧M'.get b6=some (ae 4 [.b y]))∨(vr ts=none∧r= .g [.l0]∧(∃v',M'.get bl=some (ae 71 [v'])∧xd lo cs Ms v' ts)∧M'.get b6=some (ae 4 [.b true]))):=by
 refine aN h ?_
 have gX:=(Gr.refl ok).set c (ae 36 [.l0]) (aj _) (ay _) (aJ _)
 have mc:(M.set c (ae 36 [.l0])).get c=some (ae 36 [.l0]):=am _ _ _
 have l7:load1 F (M.set c (ae 36 [.l0])) b7 0=some (.f 31 [] [.p bl 0]):=au ((gX.old b7 hb7).trans m7) 0
 simp only[WX,B32,l7]
 generalize M.set c (ae 36 [.l0])=X at gX mc⊢
 have okX:=gX.ok ok
 refine az ((w31 Φ h31 okX (by omega) hbl hlc (fun x a b=>(gX.old x (by omega)).trans (hB x a b)) ((gX.old bl (by omega)).trans mb) hT 1 (by decide)).mono ?_)
 rintro r M2 c2 ⟨g2,hW,v',mb2,hT2⟩
 have m62:M2.get b6=some (ae 4 [.b y]):=(g2.old b6 (by omega) (by omega)).trans ((gX.old b6 hb6).trans m6)
 have mc2:M2.get c=some (ae 36 [.l0]):=(g2.old c (by omega) (by omega)).trans mc
 have hle2:=g2.le
 have ok2:cR F M2 c2:=g2.ok okX (fun b hb hx=>by rw[hx];exact⟨_,(gX.old bl (by omega)).trans mb⟩)
 have GX:eW (fun x=>x=bl∨x=b6) c M c2 M2:=(eW.of gX).trans (g2.wk fun b _ hx=> .inl hx)
 rw[Vj]at hW hT2
 have hG:∀v,flatten (V.g [v])=[v]:=fun _=>rfl
 obtain⟨ob,es,hA,hel,_,hes⟩:=hW
 have hS:=hA.sl (F:=F)
 have n2:=hS.len
 have BOX:∀(M':Mem) (w:V) (z:bK),M'=(M2.set c2 z).set c (ae 36 [w])→M'.get bl=M2.get bl∧M'.get b6=M2.get b6∧eW (fun x=>x=bl∨x=b6) c M (c2+1) M':=by
  intro M' w z e;subst e;refine⟨by rw[ak _ _ (by omega),ak _ _ (by omega)],by rw[ak _ _ (by omega),ak _ _ (by omega)],by omega,fun x hx hn=>?_,fun x hx=>?_⟩
  ·rw[ak _ _ (by omega),ak _ _ (by omega)];exact GX.old x hx hn
  ·rw[ak _ _ (by omega),ak _ _ (by omega)];exact GX.new x (by omega)
 cases ho:vr ts with
 |some wr=>
  obtain⟨w,rs⟩:=wr;rw[ho]at hel hes hT2;dsimp only at hel hes hT2;have hel:es.length=1:=hel;obtain⟨pv,e1,hw⟩:=hes 0 (by omega) (by simp);have hw:rP lo cs Ms pv w:=hw;obtain⟨p1,p2,p3⟩:=(hw F Ms fun _ _ _=>rfl).one;obtain⟨b,o,hb,ia,cl⟩:=hS.at 0 (by omega);rw[e1]at cl;have ia:eV 1 r (.i .i64 0)=some (.p b o):=ia .i64;have lp:loadN F M2 b o 1=some [pv]:=by have:=cl.load (by simp);exact this
  rw[hel]at n2;have d1:decide ((0:Int)<((1:Nat):Int))=true:=rfl;have sn:bR (M2.set c2 (ae 36 [.l0])) c2 0 [pv]=some (M2.set c2 (ae 36 [pv])):=dI rfl p3;have l4:loadN F (M2.set c2 (ae 36 [pv])) c2 0 1=some [pv]:=aP (am _ _ _) 1 rfl;have mcx:(M2.set c2 (ae 36 [pv])).get c=some (ae 36 [.l0]):=(ak _ _ (by omega)).trans mc2;have sc:bR (M2.set c2 (ae 36 [pv])) c 0 [pv]=some ((M2.set c2 (ae 36 [pv])).set c (ae 36 [pv])):=aC mcx 0 [pv] (by simp) p3;have lr:loadN F ((M2.set c2 (ae 36 [pv])).set c (ae 36 [pv])) c 0 1=some [pv]:=aP (am _ _ _) 1 rfl;obtain⟨B1,B2,B3⟩:=BOX _ pv _ rfl;simp only[WX,reduceCtorEq,n2];rw[iC];simp only[WX,B32,d1,ia,lp,hG,sn,l4,sc,lr];exact⟨B3,w,rs,v',pv,rfl,rfl,p1,hw,B1.trans mb2,hT2,B2.trans m62⟩
 |none=>
  rw[ho]at hel hT2;dsimp only at hel hT2;have hel:es.length=0:=hel;rw[hel]at n2;have d1:decide ((0:Int)<((0:Nat):Int))=false:=rfl;have s6:bR M2 b6 0 [.b true]=some (M2.set b6 (ae 4 [.b true])):=aC m62 0 [.b true] (by simp) rfl;have mc3:(M2.set b6 (ae 4 [.b true])).get c=some (ae 36 [.l0]):=(ak _ _ (by omega)).trans mc2;have sc:bR (M2.set b6 (ae 4 [.b true])) c 0 [.l0]=some ((M2.set b6 (ae 4 [.b true])).set c (ae 36 [.l0])):=aC mc3 0 [.l0] (by simp) rfl;have lr:loadN F ((M2.set b6 (ae 4 [.b true])).set c (ae 36 [.l0])) c 0 1=some [.l0]:=aP (am _ _ _) 1 rfl;simp only[WX,reduceCtorEq,n2];rw[iC];simp only[WX,B32,d1,s6,sc,lr,hG];refine⟨⟨by omega,fun x hx hn=>?_,fun x hx=>?_⟩,.inr ⟨⟨v',?_,hT2⟩,?_⟩⟩
  ·rw[ak _ _ (by omega),ak _ _ (fun e=>hn (.inr e))];exact GX.old x hx hn
  ·rw[ak _ _ (by omega),ak _ _ (by omega)];exact GX.new x (by omega)
  ·rw[ak _ _ (by omega),ak _ _ (by omega),mb2]
  ·rw[ak _ _ (by omega)];exact am _ _ _
def GR(F:RO)(tl:List T2)(c:Nat)(M:Mem)(bl:Nat)(k:Nat)(M1:Mem)(c1:Nat):Prop:=cR F M1 c1∧eW (fun x=>x=bl) c M c1 M1∧ ∃(v:V) (b:Nat) (es:List (List V)),M1.get bl=some (ae 71 [v])∧aX M1 c c1 b 59 2 v es∧es.length=k∧ ∀i (h:i<es.length),∃(h':i<tl.length) (pv:V) (lo hi:Nat),es[i]=[sV tl[i].1,pv]∧bC pv=true∧c≤lo∧hi≤c1∧(b<lo∨hi≤b)∧(∀F:RO,jB F M1 lo hi 2 pv (jy tl[i].2))∧tl[i].2.length≤ST
theorem GR.start{F:RO}{tl:List T2}{c bl:Nat}{M:Mem}(ok:cR F M c)(mb:M.get bl=some (ae 71 [.l0])):GR F tl c M bl 0 M c:=
 ⟨ok,eW.of (Gr.refl ok),.l0,0,[],mb,aX.nil,rfl,fun i h=>(by cases h)⟩
theorem GR.grow{F:RO}{tl:List T2}{c bl k c1 c2:Nat}{M M1 M2:Mem}(hbl:bl<c)(h:GR F tl c M bl k M1 c1)(g:Gr c1 M1 c2 M2):GR F tl c M bl k M2 c2:=by
 obtain⟨ok,gx,v,b,es,mb,hA,hl,he⟩:=h
 have hle:=gx.le
 have hle2:=g.le
 obtain⟨b',hA',hb'⟩:∃b',aX M2 c c2 b' 59 2 v es∧(b'=b∨es=[]):=by
  rcases hA with⟨a0,⟨a1,a2⟩|⟨a1,a2,a3,a4⟩⟩
  ·exact⟨b,⟨a0,.inl ⟨a1,a2⟩⟩,.inl rfl⟩
  ·exact⟨b,aX.gr ⟨a0,.inr ⟨a1,a2,a3,a4⟩⟩ g,.inl rfl⟩
 refine⟨g.ok ok,gx.trans (eW.of g),v,b',es,(g.old bl (by omega)).trans mb,hA',hl,fun i hi=>?_⟩
 obtain⟨h',pv,lo,hi2,e1,e2,e3,e4,e5,e6,e7⟩:=he i hi
 have hbb:b'=b:=hb'.resolve_right (by intro e;rw[e]at hi;cases hi)
 exact⟨h',pv,lo,hi2,e1,e2,e3,by omega,by rw[hbb];exact e5,fun F=>(e6 F).up (aj _) (aj _) (fun x _ hx=>g.old x (by omega)),e7⟩
theorem w29(Φ:Nat→Option CF)(h:Φ 29=some c29){F:RO}{tl:List T2}{c bl k c1 b0 at_:Nat}{M M1:Mem}{pv:V}(hbl:bl<c)(hI:GR F tl c M bl k M1 c1)(hk:k<tl.length)(hkl:k≤400000)(hp1:bC pv=true)(hpl:tl[k].2.length≤ST)(hA:aX M1 c c1 b0 64 2 pv (jy tl[k].2)):
 Calls Φ F 29 [.i .i64 (at_:Int),.g [sV tl[k].1,pv],.p bl 0] M1 c1 fun r M' c'=>r= .b true∧GR F tl c M bl (k+1) M' c':=by
 refine aN h ?_
 have hI0:=hI
 obtain⟨ok,gx,v,b,es,mb,hA1,hl,he⟩:=hI
 have hle:=gx.le
 have hF:∀w,flatten (sV w)=[sV w]:=fun _=>rfl
 have hO:∀w,bC (sV w)=true:=fun _=>rfl
 have hG2:flatten (V.g [sV tl[k].1,pv])=[sV tl[k].1,pv]:=rfl
 have hAll:aK [sV tl[k].1,pv]=true:=by rw[av,av,bO,hp1];rfl
 have g1:=(Gr.refl ok).set c1 (ae 59 [sV tl[k].1,pv]) (aj _) (ay _) (aJ _)
 have m1:(M1.set c1 (ae 59 [sV tl[k].1,pv])).get c1=some (ae 59 [sV tl[k].1,pv]):=am _ _ _
 have l1:loadN F (M1.set c1 (ae 59 [sV tl[k].1,pv])) c1 0 2=some [sV tl[k].1,pv]:=aP m1 2 rfl
 have lb:load1 F (M1.set c1 (ae 59 [sV tl[k].1,pv])) bl 0=some v:=au ((g1.old bl (by omega)).trans mb) 0
 generalize hX:M1.set c1 (ae 59 [sV tl[k].1,pv])=X at g1 m1 l1 lb
 have okX:=g1.ok ok
 have gZ:=(Gr.refl okX).set (c1+1) (cL [V.s 0 0,V.l0] 59 [sV tl[k].1,pv]) (aj _) (ay _) (aJ _)
 have hy:cE F (X.set (c1+1) (cL [V.s 0 0,V.l0] 59 [sV tl[k].1,pv])) (c1+2) 2 (.l (c1+1) 0 1 1) [[sV tl[k].1,pv]]:=II (d:=[V.s 0 0,V.l0]) (ty:=59) (by rw[am];rfl) (ay _) (fun e he=>by rw[List.mem_singleton]at he;subst he;rfl) rfl
 have GZ:Gr c1 M1 (c1+2) (X.set (c1+1) (cL [V.s 0 0,V.l0] 59 [sV tl[k].1,pv])):=g1.trans gZ
 have gA:Gr c M1 (c1+2) (X.set (c1+1) (cL [V.s 0 0,V.l0] 59 [sV tl[k].1,pv])):=⟨by omega,fun x hx=>GZ.old x (by omega),GZ.new⟩
 obtain⟨b1,hA2,hb1⟩:∃b1,aX (X.set (c1+1) (cL [V.s 0 0,V.l0] 59 [sV tl[k].1,pv])) c (c1+2) b1 59 2 v es∧((b1=b∧b<c1∧M1.get b=some (pC 59 es.flatten))∨(es=[]∧c1≤b1)):=by
  rcases hA1 with⟨a0,⟨a1,a2⟩|⟨a1,a2,a3,a4⟩⟩
  ·exact⟨c1,⟨a0,.inl ⟨a1,a2⟩⟩,.inr ⟨a1,aj _⟩⟩
  ·exact⟨b,aX.gr ⟨a0,.inr ⟨a1,a2,a3,a4⟩⟩ GZ,.inl ⟨rfl,a2,a4⟩⟩
 simp only[WX,Nat.reduceAdd,B29,hG2,hAll,hX,l1,lb]
 refine az ((fO (bytes:=40) hA2 gA (by decide) hy (by show aK [sV tl[k].1,pv]=true;exact hAll) (eP (by simp only[aA,aM];omega) (by simp only[aA,aM];omega))).mono ?_)
 rintro v' M2 c2 ⟨b',hA3,g3,hle3,hfr,hb'⟩
 have w3:bC v'=true∧flatten v'=[v']∧aK [v']=true:=by
  rcases hA3 with⟨_,⟨_,rfl⟩|⟨_,_,rfl,_⟩⟩<;>exact⟨rfl,rfl,rfl⟩
 obtain⟨w1,w2,w3⟩:=w3
 have mb2:M2.get bl=some (ae 71 [v]):=(g3.old bl (by omega)).trans mb
 have st:=aC mb2 0 [v'] (by simp) w3
 simp only[WX,B29,w2,st]
 have OLD:∀x,x<c1→x≠bl→x≠b1→(M2.set bl (ae 71 [v'])).get x=M1.get x:=fun x h1 h2 h3=>by
  rw[ak _ _ h2,hfr x (by omega) h3];exact GZ.old x h1
 have gF:eW (fun x=>x=bl∨x=b1) c1 M1 c2 (M2.set bl (ae 71 [v'])):=⟨by omega,fun x h1 h2=>OLD x h1 (fun e=>h2 (.inl e)) (fun e=>h2 (.inr e)),fun x hx=>by rw[ak _ _ (by omega)];exact g3.new x hx⟩
 have okF:=gF.ok ok fun x hx hh=>by
  rcases hh with rfl|rfl
  ·exact⟨_,mb⟩
  ·rcases hb1 with⟨rfl,_,hm⟩|⟨_,hc⟩
   ·exact⟨_,hm⟩
   ·omega
 refine⟨okF,⟨by omega,fun x hx hn=>?_,gF.new⟩,v',b',es++[[sV tl[k].1,pv]],am _ _ _,fL hA3 (by omega),by rw[aH,hl];rfl,fun i hi=>?_⟩
 ·rw[ak _ _ hn];exact(g3.old x hx).trans (gx.old x hx hn)
 ·by_cases hie:i<es.length
  ·obtain⟨h',pv',lo,hi2,e1,e2,e3,e4,e5,e6,e7⟩:=he i hie;have hb1':b1<lo∨hi2≤b1:=by
    rcases hb1 with⟨rfl,_,_⟩|⟨_,hc⟩
    ·exact e5
    ·omega
   exact⟨h',pv',lo,hi2,by rw[dC hie];exact e1,e2,e3,by omega,by omega,fun F=>(e6 F).up (aj _) (aj _) (fun x h1 h2=>OLD x (by omega) (by omega) (by omega)),e7⟩
  ·rw[aH]at hi;simp only[aA,aM]at hi;obtain rfl:i=es.length:=by omega
   subst hl;have ge:(es++[[sV tl[es.length].1,pv]])[es.length]'(by simp)=[sV tl[es.length].1,pv]:=by rw[dB (aj _)];simp
   rcases hA with⟨a0,⟨a1,a2⟩|⟨a1,a2,a3,a4⟩⟩
   ·refine⟨hk,pv,c,c,ge,hp1,aj _,by omega,by omega,?_,hpl⟩;rw[a2,a1];exact fun F=>aX.own (c0:=c) (b:=0) (ty:=64) aX.nil
   ·have hne:b0≠b1:=by
     rcases hb1 with⟨rfl,_,hm⟩|⟨_,hc⟩
     ·intro e;subst e;rw[a4]at hm;have:=ag hm;unfold pC at this;injection this with this
      exact absurd this (by decide)
     ·omega
    have hO1:∀F:RO,jB F M1 b0 (b0+1) 2 pv (jy tl[es.length].2):=fun F=>aX.own (c0:=b0) (b:=b0) (ty:=64) ⟨a0,.inr ⟨aj _,ay _,a3,a4⟩⟩;exact⟨hk,pv,b0,b0+1,ge,hp1,a1,by omega,by omega,fun F=>(hO1 F).up (aj _) (aj _) (fun x h1 h2=>OLD x (by omega) (by omega) (by omega)),hpl⟩
theorem GR.done{F:RO}{tl:List T2}{c bl c1:Nat}{M M1:Mem}(hbl:bl<c)(h:GR F tl c M bl tl.length M1 c1)(hl:tl.length≤1000000):∃v,M1.get bl=some (ae 71 [v])∧xd c c1 M1 v tl:=by
 obtain⟨ok,gx,v,b,es,mb,hA,hel,he⟩:=h
 refine⟨v,mb,es,fun F M' hM'=>(hA.own (F:=F)) M' hM',hel,hl,fun i hi hi'=>?_⟩
 obtain⟨h',pv,lo,hi2,e1,e2,e3,e4,e5,e6,e7⟩:=he i hi
 exact⟨pv,e1,fun F M' hM'=>⟨(e6 F M' fun x h1 h2=>hM' x (by omega) (by omega)).upc e4,e7⟩⟩
theorem dK{s:List UInt8}{ts r:List T2}(h:isS s ts=some r):r.length+1=ts.length:=by
 cases ts with
 |nil=>cases h
 |cons t q=>
  rw[fR]at h;split at h
  ·injection h with h;rw[h];rfl
  ·cases h
theorem pL:∀(m:Nat) (ts:List T2),(eT m ts).1.length+(eT m ts).2.length=ts.length
 |0,ts=>by simp[eT]
 |_+1,[]=>rfl
 |m+1,t::r=>by
  rw[eT];split
  ·have:=pL m r;simp only[aA];omega
  ·simp
theorem uI:∀(m:Nat) (ts:List T2),ts.length≤m→eT m ts=eT ts.length ts
 |0,ts,h=>by rw[show ts.length=0 by omega]
 |_+1,[],_=>rfl
 |m+1,t::r,h=>by
  rw[aA,eT,eT,uI m r (by simpa using h)]
def bI(ts:List T2):eB×List T2:=eT ts.length ts
def fA:Nat→List T2→List eB×List T2
 |0,ts=>([],ts)
 |f+1,ts=>match isS [124] ts with
  |some r=>((bI r).1::(fA f (bI r).2).1,(fA f (bI r).2).2)
  |none=>([],ts)
def cm(ts:List T2):List eB×List T2:=fA ts.length ts
theorem u5:∀(f g:Nat) (ts:List T2),ts.length≤f→ts.length≤g→fA f ts=fA g ts
 |0,g,ts,h,_=>by
  have:ts=[]:=List.length_eq_zero_iff.1 (by omega);subst this;cases g<;>rfl
 |f+1,0,ts,_,h=>by
  have:ts=[]:=List.length_eq_zero_iff.1 (by omega);subst this;rfl
 |f+1,g+1,ts,h1,h2=>by
  unfold fA;cases hs:isS [124] ts with
  |none=>rfl
  |some r=>
   have hl:=dK hs;have hw:=pL r.length r;have:(bI r).2.length≤r.length:=by unfold bI;omega
   dsimp only;rw[u5 f g _ (by omega) (by omega)]
theorem oa{ts r:List T2}(h:isS [124] ts=some r):cm ts=((bI r).1::(cm (bI r).2).1,(cm (bI r).2).2):=by
 have hl:=dK h
 have hw:=pL r.length r
 have h2:(bI r).2.length≤r.length:=by unfold bI;omega
 unfold cm
 rw[←hl,fA,h]
 dsimp only
 rw[u5 r.length (bI r).2.length _ h2 (aj _)]
theorem kr{ts:List T2}(h:isS [124] ts=none):cm ts=([],ts):=by
 unfold cm
 cases hl:ts.length with
 |zero=>rfl
 |succ n=>rw[fA,h]
def redir(ts:List T2):List Pc×Bool×List T2:=match vr ts with
 |some (w,r)=>(w,false,r)
 |none=>([],true,ts)
def cA(ts:List T2):List Pc×Bool×List T2:=match isS [60] ts with
 |some r=>redir r
 |none=>([],false,ts)
def dm(ts:List T2):Bool×List Pc×Bool×List T2:=match isS [62,62] ts with
 |some r=>(true,redir r)
 |none=>match isS [62] ts with
  |some r=>(false,redir r)
  |none=>(false,[],false,ts)
def jM(ts:List T2):Bool×List T2:=match isS [33] ts with
 |some r=>(true,r)
 |none=>(false,ts)
def cP(j:Int)(ts:List T2):fD×Bool×List T2:=
 (⟨j,(jM ts).1,(cA (bI (jM ts).2).2).1,(dm (cm (cA (bI (jM ts).2).2).2.2).2).2.1,(dm (cm (cA (bI (jM ts).2).2).2.2).2).1,(bI (jM ts).2).1::(cm (cA (bI (jM ts).2).2).2.2).1⟩,
   (cA (bI (jM ts).2).2).2.1||(dm (cm (cA (bI (jM ts).2).2).2.2).2).2.2.1,(dm (cm (cA (bI (jM ts).2).2).2.2).2).2.2.2)
def dU(ts:List T2):Option (Int×List T2):=match isS [59] ts with
 |some r=>some (1,r)
 |none=>match isS [38,38] ts with
  |some r=>some (2,r)
  |none=>match isS [124,124] ts with
   |some r=>some (3,r)
   |none=>none
theorem mV{ts r:List T2}{j:Int}(h:dU ts=some (j,r)):r.length<ts.length:=by
 unfold dU at h
 split at h
 ·rename_i q hq;have:=dK hq;injection h with h;injection h with _ h;subst h;omega
 ·split at h
  ·rename_i q hq;have:=dK hq;injection h with h;injection h with _ h;subst h;omega
  ·split at h
   ·rename_i q hq;have:=dK hq;injection h with h;injection h with _ h;subst h;omega
   ·cases h
theorem qB(ts:List T2):(redir ts).2.2.length≤ts.length:=by
 unfold redir
 cases ts with
 |nil=>exact aj _
 |cons t r=>
  rw[fy];split
  ·rename_i w q h;split at h
   ·injection h with h;injection h with _ h;subst h;simp
   ·cases h
  ·exact aj _
theorem tS(ts:List T2):(cA ts).2.2.length≤ts.length:=by
 unfold cA
 split
 ·rename_i r h;have:=dK h;have:=qB r;omega
 ·exact aj _
theorem T3(ts:List T2):(dm ts).2.2.2.length≤ts.length:=by
 unfold dm
 split
 ·rename_i r h;have:=dK h;have:=qB r;dsimp only;omega
 ·split
  ·rename_i r h;have:=dK h;have:=qB r;dsimp only;omega
  ·exact aj _
theorem XA(ts:List T2):(jM ts).2.length≤ts.length:=by
 unfold jM
 split
 ·rename_i r h;have:=dK h;dsimp only;omega
 ·exact aj _
theorem gK(ts:List T2):(bI ts).2.length≤ts.length:=by
 have:=pL ts.length ts;unfold bI;omega
theorem wE:∀(f:Nat) (ts:List T2),(fA f ts).2.length≤ts.length
 |0,_=>aj _
 |f+1,ts=>by
  rw[fA];split
  ·rename_i r h;have:=dK h;have:=gK r;have:=wE f (bI r).2;dsimp only;omega
  ·exact aj _
theorem mY(j:Int)(ts:List T2):(cP j ts).2.2.length≤ts.length:=by
 have h1:=XA ts
 have h2:=gK (jM ts).2
 have h3:=tS (bI (jM ts).2).2
 have h4:(cm (cA (bI (jM ts).2).2).2.2).2.length≤_:=wE _ _
 have h5:=T3 (cm (cA (bI (jM ts).2).2).2.2).2
 show(dm (cm (cA (bI (jM ts).2).2).2.2).2).2.2.2.length≤_
 omega
def fT:Nat→Int→List T2→List fD×Bool×List T2
 |0,_,ts=>([],true,ts)
 |f+1,j,ts=>match dU (cP j ts).2.2 with
  |none=>([(cP j ts).1],(cP j ts).2.1,(cP j ts).2.2)
  |some (j',r)=>((cP j ts).1::(fT f j' r).1,(cP j ts).2.1||(fT f j' r).2.1,(fT f j' r).2.2)
theorem tX:∀(f g:Nat) (j:Int) (ts:List T2),ts.length<f→ts.length<g→fT f j ts=fT g j ts
 |0,_,_,_,h,_=>by omega
 |_,0,_,_,_,h=>by omega
 |f+1,g+1,j,ts,h1,h2=>by
  unfold fT;cases hj:dU (cP j ts).2.2 with
  |none=>rfl
  |some x=>
   obtain⟨j',r⟩:=x;have:=mV hj;have:=mY j ts;dsimp only;rw[tX f g j' r (by omega) (by omega)]
def dv(j:Int)(ts:List T2):List fD×Bool×List T2:=fT (ts.length+1) j ts
theorem o4{j:Int}{ts:List T2}(h:dU (cP j ts).2.2=none):dv j ts=([(cP j ts).1],(cP j ts).2.1,(cP j ts).2.2):=by
 unfold dv;rw[fT,h]
theorem o5{j j':Int}{ts r:List T2}(h:dU (cP j ts).2.2=some (j',r)):dv j ts=((cP j ts).1::(dv j' r).1,(cP j ts).2.1||(dv j' r).2.1,(dv j' r).2.2):=by
 have:=mV h
 have:=mY j ts
 unfold dv;rw[fT,h]
 dsimp only
 rw[tX ts.length (r.length+1) j' r (by omega) (by omega)]
def cD(s:List UInt8):List T2:=(tk s 0).map (·.2)
def po(s:List UInt8):List fD×Int:=
 if 4096<s.length then([],3)
 else if uA s=false then([],4)
 else if((dv 0 (cD s)).2.1||(decide (0<(dv 0 (cD s)).2.2.length)|| !D7 (dv 0 (cD s)).1))=true then([],4)
 else((dv 0 (cD s)).1,0)
def GS(M:Mem)(lo c ty sz:Nat)(v:V)(n:Nat):Prop:=(n=0∧v= .l0)∨ ∃b,lo≤b∧b<c∧(v= .l b 0 n n∨v= .u b 0 n 0 n)∧ ∃ex d t,M.get b=some (.cells ty (n*sz) ex 0 false d t)
def W4(F:RO)(lo:Nat)(M:Mem)(c:Nat)(v:V)(l:eB):Prop:=fo F M c v l∧GS M lo c 36 1 v l.length
def YL(F:RO)(lo:Nat)(M:Mem)(c:Nat)(e:List V)(l:eB):Prop:=∃x,e=[x]∧W4 F lo M c x l
def VK(F:RO)(lo:Nat)(M:Mem)(c:Nat)(v:V)(l:List eB):Prop:=cQ F (YL F lo) 1 M c v l∧GS M lo c 42 1 v l.length
def J5(F:RO)(lo:Nat)(M:Mem)(c:Nat)(e:List V)(p:fD):Prop:=∃vi vo vc,e=[.i .i64 p.join,.b p.nt,vi,vo,.b p.beh,vc]∧dQ F M c vi p.inp∧dQ F M c vo p.out∧VK F lo M c vc p.cmds
def J4(F:RO)(lo:Nat)(M:Mem)(c:Nat)(v:V)(l:List fD):Prop:=cQ F (J5 F lo) 6 M c v l∧GS M lo c 39 6 v l.length
theorem cQ.imp{α:Type}{F:RO}{R R':Mem→Nat→List V→α→Prop}{sz:Nat}{M:Mem}{c c':Nat}{v:V}{l:List α}(h:cQ F R sz M c v l)(hc:c≤c')(hR:∀e x,R M c e x→R' M c' e x):cQ F R' sz M c' v l:=by
 obtain⟨es,h1,h2,h3,h4⟩:=h
 exact⟨es,h1.upc hc,h2,h3,fun i h h'=>hR _ _ (h4 i h h')⟩
theorem YL.c1{F:RO}{lo:Nat}{M:Mem}{c:Nat}(e:List V)(l:eB)(h:YL F lo M c e l):C1 F M c e l:=by obtain⟨x,h1,h2⟩:=h;exact⟨x,h1,h2.1⟩
theorem VK.cs{F:RO}{lo:Nat}{M:Mem}{c:Nat}{v:V}{l:List eB}(h:VK F lo M c v l):lh F M c v l:=cQ.imp h.1 (aj _) YL.c1
theorem J5.p1{F:RO}{lo:Nat}{M:Mem}{c:Nat}(e:List V)(p:fD)(h:J5 F lo M c e p):P1 F M c e p:=by
 obtain⟨vi,vo,vc,h1,h2,h3,h4⟩:=h;exact⟨vi,vo,vc,h1,h2,h3,h4.cs⟩
theorem J4.ln{F:RO}{lo:Nat}{M:Mem}{c:Nat}{v:V}{l:List fD}(h:J4 F lo M c v l):nh F M c v l:=cQ.imp h.1 (aj _) J5.p1
theorem GS.up{M:Mem}{lo lo' c c' ty sz n:Nat}{v:V}(h:GS M lo c ty sz v n)(hl:lo'≤lo)(hc:c≤c'):GS M lo' c' ty sz v n:=by
 rcases h with h|⟨b,h1,h2,h3⟩
 ·exact .inl h
 ·exact .inr ⟨b,by omega,by omega,h3⟩
theorem W1.upc{F:RO}{M:Mem}{c c':Nat}(hc:c≤c')(e:List V)(w:List Pc)(h:W1 F M c e w):W1 F M c' e w:=by obtain⟨x,h1,h2⟩:=h;exact⟨x,h1,h2.upc hc⟩
theorem W4.up{F:RO}{lo lo':Nat}{M:Mem}{c c':Nat}{v:V}{l:eB}(h:W4 F lo M c v l)(hl:lo'≤lo)(hc:c≤c'):W4 F lo' M c' v l:=⟨cQ.imp h.1 hc (W1.upc hc),h.2.up hl hc⟩
theorem YL.up{F:RO}{lo lo':Nat}{M:Mem}{c c':Nat}(hl:lo'≤lo)(hc:c≤c')(e:List V)(l:eB)(h:YL F lo M c e l):YL F lo' M c' e l:=by obtain⟨x,h1,h2⟩:=h;exact⟨x,h1,h2.up hl hc⟩
theorem VK.up{F:RO}{lo lo':Nat}{M:Mem}{c c':Nat}{v:V}{l:List eB}(h:VK F lo M c v l)(hl:lo'≤lo)(hc:c≤c'):VK F lo' M c' v l:=⟨cQ.imp h.1 hc (YL.up hl hc),h.2.up hl hc⟩
theorem J5.up{F:RO}{lo lo':Nat}{M:Mem}{c c':Nat}(hl:lo'≤lo)(hc:c≤c')(e:List V)(p:fD)(h:J5 F lo M c e p):J5 F lo' M c' e p:=by
 obtain⟨vi,vo,vc,h1,h2,h3,h4⟩:=h;exact⟨vi,vo,vc,h1,h2.upc hc,h3.upc hc,h4.up hl hc⟩
theorem xq{M:Mem}{c0 c b ty sz:Nat}{v:V}{es:List (List V)}(h:aX M c0 c b ty sz v es):GS M c0 c ty sz v es.length:=by
 have hl:=fe h.1
 rcases h with⟨h0,⟨rfl,rfl⟩|⟨h1,h2,rfl,h3⟩⟩
 ·exact .inl ⟨rfl,rfl⟩
 ·refine .inr ⟨b,h1,h2,.inr rfl,?_⟩;unfold pC at h3;rw[hl]at h3;exact⟨_,_,_,h3⟩
def rO(lo cs:Nat)(Ms M:Mem)(a b:Nat)(P:Mem→Prop):Prop:=∀M',Bk lo cs Ms M'→(∀x,a≤x→x<b→M'.get x=M.get x)→P M'
theorem rO.up{lo cs:Nat}{Ms M M2:Mem}{a b:Nat}{P:Mem→Prop}(h:rO lo cs Ms M a b P)(hM:∀x,a≤x→x<b→M2.get x=M.get x):rO lo cs Ms M2 a b P:=fun M' h1 h2=>h M' h1 fun x h3 h4=>(h2 x h3 h4).trans (hM x h3 h4)
theorem v8.own{F:RO}{lo cs:Nat}{Ms M:Mem}{c0 c:Nat}{v:V}{l:eB}(h:v8 lo cs Ms M c0 c v l)(hc:cs≤c):rO lo cs Ms M c0 c fun M'=>W4 F c0 M' c v l:=by
 intro M' h1 h2
 obtain⟨b,es,hA,hl,hb,he⟩:=h
 have hA':aX M' c0 c b 36 1 v es:=by
  rcases hA with⟨a0,a|⟨a1,a2,a3,a4⟩⟩
  ·exact⟨a0,.inl a⟩
  ·exact⟨a0,.inr ⟨a1,a2,a3,by rw[h2 b a1 a2];exact a4⟩⟩
 refine⟨⟨es,hA'.sl,hl,bm hb (by decide),fun i h h'=>?_⟩,by rw[←hl];exact xq hA'⟩
 obtain⟨pv,e,hw⟩:=he i h h'
 exact⟨pv,e,(hw F M' h1).upc hc⟩
theorem v8.one{lo cs:Nat}{Ms M:Mem}{c0 c:Nat}{v:V}{l:eB}(h:v8 lo cs Ms M c0 c v l):bC v=true∧flatten v=[v]∧aK [v]=true:=by
 obtain⟨b,es,hA,_⟩:=h
 exact jj (hA.sl (F:=[]))
def GO(M:Mem)(a c:Nat)(vc:V)(b:Nat)(es:List (List V)):Prop:=(∀e∈es,e.length=1)∧a≤b∧b<c∧((es.length=1∧vc= .l b 0 1 1∧M.get b=some (cL [V.l0] 42 es.flatten))∨(vc= .u b 0 es.length 0 es.length∧M.get b=some (pC 42 es.flatten)))
theorem GO.one{M:Mem}{a c:Nat}{vc:V}{b:Nat}{es:List (List V)}(h:GO M a c vc b es):bC vc=true∧flatten vc=[vc]∧aK [vc]=true:=by
 obtain⟨_,_,_,⟨_,rfl,_⟩|⟨rfl,_⟩⟩:=h<;>exact⟨rfl,rfl,rfl⟩
theorem GO.up{M M2:Mem}{a c c2:Nat}{vc:V}{b:Nat}{es:List (List V)}(h:GO M a c vc b es)(hc:c≤c2)(hM:M2.get b=M.get b):GO M2 a c2 vc b es:=by
 obtain⟨h0,h1,h2,h3⟩:=h
 refine⟨h0,h1,by omega,?_⟩
 rw[hM];exact h3
theorem GO.sl{F:RO}{M:Mem}{a c:Nat}{vc:V}{b:Nat}{es:List (List V)}(h:GO M a c vc b es):cE F M c 1 vc es:=by
 obtain⟨h0,h1,h2,⟨h3,rfl,h4⟩|⟨rfl,h4⟩⟩:=h
 ·exact II (d:=[V.l0]) (ty:=42) h4 h2 h0 h3
 ·exact aX.sl (c0:=a) (b:=b) (ty:=42) ⟨h0,.inr ⟨h1,h2,rfl,h4⟩⟩
theorem GO.sh{M:Mem}{a c:Nat}{vc:V}{b:Nat}{es:List (List V)}(h:GO M a c vc b es):GS M a c 42 1 vc es.length:=by
 obtain⟨h0,h1,h2,⟨h3,rfl,h4⟩|⟨rfl,h4⟩⟩:=h
 ·refine .inr ⟨b,h1,h2,.inl (by rw[h3]),?_⟩;have hl:=fe h0;unfold cL at h4;rw[hl]at h4;exact⟨_,_,_,h4⟩
 ·exact xq ⟨h0,.inr ⟨h1,h2,rfl,h4⟩⟩
theorem WN{F:RO}{M1:Mem}{a c y b:Nat}{vc wv:V}{es:List (List V)}(h:GO M1 a c vc b es)(ok1:cR F M1 c)(hw:bC wv=true)(hy:y<c)(hby:b≠y)(hyM:M1.get y=some (cL [V.l0] 42 [wv]))(hn:es.length≤1000000):
 lD (rU F M1 c 42 1 24 vc (.l y 0 1 1)) fun v' M' c'=>∃b',GO M' a c' v' b' (es++[[wv]])∧c≤c'∧(b'=b∨c≤b')∧(∀x,x<c→x≠b→M'.get x=M1.get x)∧(∀x,c'≤x→M'.get x=none):=by
 have hys:cE F M1 c 1 (.l y 0 1 1) [[wv]]:=II (d:=[V.l0]) (ty:=42) hyM hy (fun e he=>by rw[List.mem_singleton]at he;subst he;rfl) rfl
 have hw1:aK [[wv]].flatten=true:=by show aK [wv]=true;rw[av,bO,hw];rfl
 have hall:∀e∈es++[[wv]],e.length=1:=by
  intro e he;rcases List.mem_append.1 he with he|he
  ·exact h.1 e he
  ·rw[List.mem_singleton]at he;subst he;rfl
 have hr:mo (es.length+[[wv]].length) 24=true:=eP (by simp only[aA,aM];omega) (by simp only[aA,aM];omega)
 have hsl:=h.sl (F:=F)
 obtain⟨h0,h1,h2,⟨h3,rfl,h4⟩|⟨rfl,h4⟩⟩:=h
 ·refine(Wm (bytes:=24) hsl h3 (by decide) hys (by simp) hw1 hr).mono ?_;rintro v' M' c' ⟨rfl,rfl,rfl⟩;refine⟨c,⟨hall,by omega,ay _,.inr ⟨rfl,am _ _ _⟩⟩,aJ _,.inr (aj _),fun x hx _=>ak _ _ (by omega),fun x hx=>by rw[ak _ _ (by omega)];exact ok1.hiM x (by omega)⟩
 ·have hA:aX M1 a c b 42 1 (.u b 0 es.length 0 es.length) es:=⟨h0,.inr ⟨h1,h2,rfl,h4⟩⟩
  have hg:Gr a M1 c M1:=⟨by omega,fun _ _=>rfl,ok1.hiM⟩
  refine(fO (bytes:=24) hA hg (by decide) hys hw1 hr).mono ?_;rintro v' M' c' ⟨b',hA2,g2,hle,hf,hb'⟩;refine⟨b',?_,hle,hb',hf,g2.new⟩;rcases hA2 with⟨a0,⟨a1,a2⟩|⟨a1,a2,a3,a4⟩⟩
  ·exact absurd a1 (by simp)
  ·exact⟨hall,a1,a2,.inr ⟨a3,a4⟩⟩
abbrev iX(u:List (Option V))(x0 x2 x4 x5 x6 x7 x8 x9 x10 x11:V):T:=(.n (.n (.n (.n (aq u 63 31 95 15 79 47 111) (some x7) (aq u 71 39 103 23 87 55 119)) (uO u 3) (.n (aq u 67 35 99 19 83 51 115) (some x11) (aq u 75 43 107 27 91 59 123))) (uO u 1) (.n (.n (aq u 65 33 97 17 81 49 113) (some x9) (aq u 73 41 105 25 89 57 121)) (some x5) (.n (aq u 69 37 101 21 85 53 117) (uO u 13) (aq u 77 45 109 29 93 61 125)))) (some x0) (.n (.n (.n (aq u 64 32 96 16 80 48 112) (some x8) (aq u 72 40 104 24 88 56 120)) (some x4) (.n (aq u 68 36 100 20 84 52 116) (uO u 12) (aq u 76 44 108 28 92 60 124))) (some x2) (.n (.n (aq u 66 34 98 18 82 50 114) (some x10) (aq u 74 42 106 26 90 58 122)) (some x6) (.n (aq u 70 38 102 22 86 54 118) (uO u 14) (aq u 78 46 110 30 94 62 126)))))
def YR:CC:=(.reg [(aa a2 (.al 25 [.l0])),(qq a3 (.mv (x6 0)))])
def bS3:=wu YR.eq_1
def YS:CC:=(.reg [(qq dR (.mv z0)),(qq dA (.ln .str fG)),(qq eX (.bi .gtr gf (x6 4096)))])
def bS4:=wu YS.eq_1
def YT:CC:=(.reg [(qq gC (.bld [.l0] [])),(ez (.st 1 z2 gS)),(qq a3 (.mv (x6 3)))])
def bS5:=wu YT.eq_1
def YU:CC:=(.seq YS (.cond gM (.seq YT .ret) .skip))
def bS6:=wu YU.eq_1
def YV:CC:=(.reg [(qq fK (.mv z0)),(qq i5 (.mkf 29 [] [z4])),(ee gh (.call 28 [hU,jz])),(qq fE (.un .not k7))])
def bS7:=wu YV.eq_1
def YW:CC:=(.reg [(qq j9 (.bld [.l0] [])),(ez (.st 1 z2 kL)),(qq a3 (.mv (x6 4)))])
def bS8:=wu YW.eq_1
def YX:CC:=(.seq YV (.cond ju (.seq YW .ret) .skip))
def bS9:=wu YX.eq_1
def YY:CC:=(.reg [(qq gO (.mkf 30 [] [z4])),(qq a5 (.mv k8))])
def bT0:=wu YY.eq_1
def YZ:CC:=(.reg [(aa a6 (.al 4 [(.b false)])),(ez (.st 1 z6 xF))])
def bT1:=wu YZ.eq_1
def JG:CC:=(.reg [(qq jn (.mkf 31 [] [z4])),(aa a7 (.al 74 [.f0])),(ez (.st 1 z7 jA))])
def b08:=wu JG.eq_1
def JH:CC:=(.reg [(qq gP (.mkf 32 [] [z7,z6])),(qq a8 (.mv kM))])
def b09:=wu JH.eq_1
def JI:CC:=(.reg [(aa a9 (.al 25 [.l0]))])
def b11:=wu JI.eq_1
def JJ:CC:=(.reg [(qq dJ (.mv (x6 0)))])
def b12:=wu JJ.eq_1
def JK:CC:=(.reg [(qq ja (.mv eK)),(qq gQ (.mv z5)),(ee kQ (.cv lB [(.c (.s 1 33))])),(qq gU (.bld [(.i .i64 0),(.b false),.l0,.l0,(.b false),.l0] [(0,1,lw),(1,1,mH)])),(aa ey (.al 39 [(.i .i64 0),(.b false),.l0,.l0,(.b false),.l0])),(ez (.st 6 dE mI))])
def b13:=wu JK.eq_1
def xu:CC:=(.reg [(qq jv (.ld1 z7)),(qq jC (.mv z0)),(qq lz (.ln .str ny)),(ee lE (.cv nv [oC])),(qq jx (.bld [.l0] [(0,1,pQ)])),(aa iK (.bsl 42 1 1 [.l0] [(0,pR)])),(qq mK (.fa 5 dE)),(ez (.st 1 pS pM))])
def b14:=wu xu.eq_1
def JL:CC:=(.reg [(qq ka (.mv z5)),(ee mL (.cv oF [(.c (.s 1 60))]))])
def b15:=wu JL.eq_1
def JM:CC:=(.reg [(qq lA (.mv z8)),(ee nj (.cv qT [])),(qq jb (.fa 2 dE)),(ez (.st 1 pT rJ))])
def b16:=wu JM.eq_1
def xz:CC:=(.seq JL (.cond qS JM .skip))
def b17:=wu xz.eq_1
def JN:CC:=(.reg [(qq kR (.mv z5)),(ee oK (.cv rK [(.c (.s 1 124))]))])
def b18:=wu JN.eq_1
def C9:CC:=(.seq JN (.cond rL .skip (.exit 2)))
def b19:=wu C9.eq_1
def Ca:CC:=(.dreg 11 [(0,0,(qq lF (.fa 5 dE))),(1,1,(qq oL (.ld1 qU))),(2,0,(qq ll (.ld1 z7))),(3,0,(qq oM (.mv z0))),(4,8,(qq kb (.ln .str rN))),(5,28,(ee lG (.cv sO [sq]))),(6,60,(qq qZ (.bld [.l0] [(0,1,uN)]))),(7,124,(aa r0 (.bsl 42 1 1 [.l0] [(0,uZ)]))),(8,255,(ee mM (.app 42 1 24 rM uP))),(9,511,(qq sv (.fa 5 dE))),(10,1023,(ez (.st 1 vD v7)))])
def b20:=wu Ca.eq_1
def Cb:CC:=(.reg [(qq uS (.mv z5)),(ee pO (.cv wW [(.c (.s 2 15934))])),(qq sZ (.fa 4 dE)),(ez (.st 1 vE za))])
def b21:=wu Cb.eq_1
def JO:CC:=(.reg [(qq vN (.fa 4 dE)),(qq vO (.ld1 BH)),(qq sw (.mv Bg)),(aw vP (.mv z5) sw),(jJ sy (.cv Bi [(.c (.s 1 62))]) sw),(qq vQ (.pk Bh xT BI))])
def En:=wu JO.eq_1
def Cc:CC:=(.reg [(qq nA (.mv z8)),(ee vR (.cv zk [])),(qq ve (.fa 3 dE)),(ez (.st 1 zb BJ))])
def b22:=wu Cc.eq_1
def Cd:CC:=(.seq JO (.cond Bj Cc .skip))
def Eo:=wu Cd.eq_1
def Ce:CC:=(.reg [(qq oN (.fa 0 z9)),(qq rS (.ld1 zl)),(qq vf (.ldn 6 dE)),(aa uT (.bsl 39 1 6 [(.i .i64 0),(.b false),.l0,.l0,(.b false),.l0] [(0,zd)])),(ee uU (.app 39 6 96 vF ze)),(qq oD (.fa 0 z9)),(ez (.st 1 zf zm))])
def b23:=wu Ce.eq_1
def JP:CC:=(.reg [(ee uV (.call 33 [])),(qq fF (.mv (x6 0)))])
def b24:=wu JP.eq_1
def JQ:CC:=(.reg [(qq pP (.bi .lss ss (x6 4)))])
def b25:=wu JQ.eq_1
def JR:CC:=(.cond zo .skip (.exit 4))
def b26:=wu JR.eq_1
def JS:CC:=(.reg [(qq vg (.mv ss)),(qq r4 (.ixA1 4 1 zn ss)),(qq eU (.mv zq)),(qq eC (.mv zr))])
def b27:=wu JS.eq_1
def JT:CC:=(.reg [(qq vT (.mv z5)),(qq vU (.mv eb)),(ee vV (.cv Bm [Bn]))])
def b28:=wu JT.eq_1
def JU:CC:=(.reg [(qq uW (.mv ei)),(qq dJ (.mv BK))])
def b29:=wu JU.eq_1
def JV:CC:=(.cond Bo (.seq JU (.exit 1)) .skip)
def b30:=wu JV.eq_1
def JW:CC:=(.reg [(qq xe (.bi .add ss (x6 1))),(qq fF (.mv BL))])
def b31:=wu JW.eq_1
def JX:CC:=(.seq JR (.seq (.block 5 (.seq JS (.seq JT JV))) JW))
def b32:=wu JX.eq_1
def Cf:CC:=(.seq (.seq JP (.block 4 (.loop (.seq JQ JX)))) (.exit 0))
def b33:=wu Cf.eq_1
def Cg:CC:=(.seq (.block 2 (.loop (.seq C9 (.block 3 Ca)))) (.seq (.seq Cb Cd) (.seq Ce Cf)))
def Ui:=wu Cg.eq_1
def JY:CC:=(.loop (.block 1 (.seq JK (.seq xu (.seq xz Cg)))))
def b34:=wu JY.eq_1
def xA:CC:=(.reg [(qq oO (.ld1 z6)),(qq t0 (.mv BM)),(aw zB (.ld1 z4) t0),(aw vW (.ln .slice BO) t0),(aw Bv (.bi .gtr ES (x6 0)) t0),(qq Bw (.pk BN xT GH)),(qq rT (.mv ET)),(aw Bx (.ldn 1 z9) rT),(jJ BU (.call 17 [EV]) rT),(aw BV (.bi .neq GI (x6 0)) rT),(qq BW (.pk EU xT EW))])
def Uj:=wu xA.eq_1
def JZ:CC:=(.reg [(qq BX (.bld [.l0] [])),(ez (.st 1 z2 GK)),(qq a3 (.mv (x6 4)))])
def b35:=wu JZ.eq_1
def xB:CC:=(.cond GJ (.seq JZ .ret) .skip)
def b36:=wu xB.eq_1
def xC:CC:=(.reg [(qq BZ (.ldn 1 z9)),(ez (.st 1 z2 GL)),(qq a3 (.mv (x6 0)))])
def b37:=wu xC.eq_1
def K0:CC:=(.seq (.block 0 JY) (.seq (.seq xA xB) (.seq xC .ret)))
def b38:=wu K0.eq_1
def K1:CC:=(.seq JH (.seq JI (.seq JJ (.seq .skip K0))))
def b39:=wu K1.eq_1
def K8:CC:=(.seq (.reg [(aa a4 (.al 71 [.l0]))]) (.seq YX (.seq YY (.seq YZ (.seq JG K1)))))
def b40:=wu K8.eq_1
def Ka:CC:=(.reg [(qq ja (.mv eK)),(qq gQ (.mv z5)),(ee kQ (.cv lB [(.c (.s 1 33))])),(qq gU (.bld [(.i .i64 0),(.b false),.l0,.l0,(.b false),.l0] [(0,1,lw),(1,1,mH)])),(aa ey (.al 39 [(.i .i64 0),(.b false),.l0,.l0,(.b false),.l0])),(ez (.st 6 dE mI))])
def b41:=wu Ka.eq_1
def Kb:CC:=(.reg [(qq jv (.ld1 z7)),(qq jC (.mv z0)),(qq lz (.ln .str ny)),(ee lE (.cv nv [oC])),(qq jx (.bld [.l0] [(0,1,pQ)])),(aa iK (.bsl 42 1 1 [.l0] [(0,pR)])),(qq mK (.fa 5 dE)),(ez (.st 1 pS pM))])
def b42:=wu Kb.eq_1
def Kc:CC:=(.reg [(qq ka (.mv z5)),(ee mL (.cv oF [(.c (.s 1 60))]))])
def b43:=wu Kc.eq_1
def Kd:CC:=(.reg [(qq lA (.mv z8)),(ee nj (.cv qT [])),(qq jb (.fa 2 dE)),(ez (.st 1 pT rJ))])
def b44:=wu Kd.eq_1
def Ke:CC:=(.seq Kc (.cond qS Kd .skip))
def b45:=wu Ke.eq_1
def Kf:CC:=(.reg [(qq kR (.mv z5)),(ee oK (.cv rK [(.c (.s 1 124))]))])
def b46:=wu Kf.eq_1
def Kg:CC:=(.seq Kf (.cond rL .skip (.exit 2)))
def b47:=wu Kg.eq_1
def Kh:CC:=(.dreg 11 [(0,0,(qq lF (.fa 5 dE))),(1,1,(qq oL (.ld1 qU))),(2,0,(qq ll (.ld1 z7))),(3,0,(qq oM (.mv z0))),(4,8,(qq kb (.ln .str rN))),(5,28,(ee lG (.cv sO [sq]))),(6,60,(qq qZ (.bld [.l0] [(0,1,uN)]))),(7,124,(aa r0 (.bsl 42 1 1 [.l0] [(0,uZ)]))),(8,255,(ee mM (.app 42 1 24 rM uP))),(9,511,(qq sv (.fa 5 dE))),(10,1023,(ez (.st 1 vD v7)))])
def b48:=wu Kh.eq_1
def Ki:CC:=(.reg [(qq uS (.mv z5)),(ee pO (.cv wW [(.c (.s 2 15934))])),(qq sZ (.fa 4 dE)),(ez (.st 1 vE za))])
def b49:=wu Ki.eq_1
def Kj:CC:=(.reg [(qq vN (.fa 4 dE)),(qq vO (.ld1 BH)),(qq sw (.mv Bg)),(aw vP (.mv z5) sw),(jJ sy (.cv Bi [(.c (.s 1 62))]) sw),(qq vQ (.pk Bh xT BI))])
def b50:=wu Kj.eq_1
def Kk:CC:=(.reg [(qq nA (.mv z8)),(ee vR (.cv zk [])),(qq ve (.fa 3 dE)),(ez (.st 1 zb BJ))])
def b51:=wu Kk.eq_1
def Kl:CC:=(.seq Kj (.cond Bj Kk .skip))
def b52:=wu Kl.eq_1
def Km:CC:=(.reg [(qq oN (.fa 0 z9)),(qq rS (.ld1 zl)),(qq vf (.ldn 6 dE)),(aa uT (.bsl 39 1 6 [(.i .i64 0),(.b false),.l0,.l0,(.b false),.l0] [(0,zd)])),(ee uU (.app 39 6 96 vF ze)),(qq oD (.fa 0 z9)),(ez (.st 1 zf zm))])
def b53:=wu Km.eq_1
def Ko:CC:=(.reg [(ee uV (.call 33 [])),(qq fF (.mv (x6 0)))])
def b54:=wu Ko.eq_1
def Kq:CC:=(.reg [(qq pP (.bi .lss ss (x6 4)))])
def b55:=wu Kq.eq_1
def Kr:CC:=(.cond zo .skip (.exit 4))
def b56:=wu Kr.eq_1
def Ks:CC:=(.reg [(qq vg (.mv ss)),(qq r4 (.ixA1 4 1 zn ss)),(qq eU (.mv zq)),(qq eC (.mv zr))])
def b57:=wu Ks.eq_1
def Kt:CC:=(.reg [(qq vT (.mv z5)),(qq vU (.mv eb)),(ee vV (.cv Bm [Bn]))])
def b58:=wu Kt.eq_1
def Ku:CC:=(.reg [(qq uW (.mv ei)),(qq dJ (.mv BK))])
def b59:=wu Ku.eq_1
def Kv:CC:=(.cond Bo (.seq Ku (.exit 1)) .skip)
def b60:=wu Kv.eq_1
def Kw:CC:=(.reg [(qq xe (.bi .add ss (x6 1))),(qq fF (.mv BL))])
def b61:=wu Kw.eq_1
def Kx:CC:=(.seq Kr (.seq (.block 5 (.seq Ks (.seq Kt Kv))) Kw))
def b62:=wu Kx.eq_1
def Ky:CC:=(.seq (.seq Ko (.block 4 (.loop (.seq Kq Kx)))) (.exit 0))
def b63:=wu Ky.eq_1
def Kz:CC:=(.seq (.block 2 (.loop (.seq Kg (.block 3 Kh)))) (.seq (.seq Ki Kl) (.seq Km Ky)))
def b64:=wu Kz.eq_1
def KA:CC:=(.loop (.block 1 (.seq Ka (.seq Kb (.seq Ke Kz)))))
def b65:=wu KA.eq_1
def KB:CC:=(.reg [(qq oO (.ld1 z6)),(qq t0 (.mv BM)),(aw zB (.ld1 z4) t0),(aw vW (.ln .slice BO) t0),(aw Bv (.bi .gtr ES (x6 0)) t0),(qq Bw (.pk BN xT GH)),(qq rT (.mv ET)),(aw Bx (.ldn 1 z9) rT),(jJ BU (.call 17 [EV]) rT),(aw BV (.bi .neq GI (x6 0)) rT),(qq BW (.pk EU xT EW))])
def b66:=wu KB.eq_1
def KC:CC:=(.reg [(qq BX (.bld [.l0] [])),(ez (.st 1 z2 GK)),(qq a3 (.mv (x6 4)))])
def b67:=wu KC.eq_1
def KD:CC:=(.cond GJ (.seq KC .ret) .skip)
def b68:=wu KD.eq_1
def KE:CC:=(.reg [(qq BZ (.ldn 1 z9)),(ez (.st 1 z2 GL)),(qq a3 (.mv (x6 0)))])
def b69:=wu KE.eq_1
def KF:CC:=(.seq (.block 0 KA) (.seq (.seq KB KD) (.seq KE .ret)))
def b70:=wu KF.eq_1
def KG:CC:=(.scope (.seq YU K8) (.tab 0 (.seq .skip KF) .skip))
def b71:=wu KG.eq_1
def c10:CF:= .mk 7 [.cn a2 1,.t a3] (.seq YR KG)
theorem e10(v0:V):bz 7 [v0]=(.n uY (some v0) uY):=rfl
def ng:=ai @e10 (ai @bS3 (ai @bS4 (ai @bS5 (ai @bS6 (ai @bS7 (ai @bS8 (ai @bS9 (ai @bT0 (ai @bT1 (ai @b08 (ai @b09 (ai @b11 (ai @b12 (ai @b13 (ai @b14 (ai @b15 (ai @b16 (ai @b17 (ai @b18 (ai @b19 (ai @b20 (ai @b21 (ai @En (ai @b22 (ai @Eo (ai @b23 (ai @b24 (ai @b25 (ai @b26 (ai @b27 (ai @b28 (ai @b29 (ai @b30 (ai @b31 (ai @b32 (ai @b33 (ai @Ui (ai @b34 (ai @Uj (ai @b35 (ai @b36 (ai @b37 (ai @b38 (ai @b39 (ai @b40 (ai @b41 (ai @b42 (ai @b43 (ai @b44 (ai @b45 (ai @b46 (ai @b47 (ai @b48 (ai @b49 (ai @b50 (ai @b51 (ai @b52 (ai @b53 (ai @b54 (ai @b55 (ai @b56 (ai @b57 (ai @b58 (ai @b59 (ai @b60 (ai @b61 (ai @b62 (ai @b63 (ai @b64 (ai @b65 (ai @b66 (ai @b67 (ai @b68 (ai @b69 (ai @b70 (@b71))))))))))))))))))))))))))))))))))))))))))))))))))))))))))))))))))))))))))))
structure J3(lo cs bl c1:Nat)(M1:Mem):Prop where
 h1:bl<lo
 h2:lo≤cs
 h3:cs+3≤c1
 m7:M1.get (cs+1)=some (ae 74 [.f 31 [] [.p bl 0]])
structure RS(F:RO)(lo cs:Nat)(Ms:Mem)(bl:Nat)(M1:Mem)(c1:Nat)(M2:Mem)(c2:Nat)(bad:Bool)(ts:List T2):Prop where
 g:eW (fun x=>x=bl∨x=cs) c1 M1 c2 M2
 ok:cR F M2 c2
 tk:∃v,M2.get bl=some (ae 71 [v])∧xd lo cs Ms v ts
 m6:M2.get cs=some (ae 4 [.b bad])
 bk:Bk lo cs Ms M2
theorem RS.grx{F:RO}{lo cs bl c1 c2 c3:Nat}{Ms M1 M2 M3:Mem}{bad bad':Bool}{ts ts':List T2}(h:RS F lo cs Ms bl M1 c1 M2 c2 bad ts)(h1:bl<lo)(h2:lo≤cs)(h3:cs<c1)(g:eW (fun x=>x=bl∨x=cs) c2 M2 c3 M3)(htk:∃v,M3.get bl=some (ae 71 [v])∧xd lo cs Ms v ts')(m6:M3.get cs=some (ae 4 [.b bad'])):RS F lo cs Ms bl M1 c1 M3 c3 bad' ts':=by
 have hle:=h.g.le
 refine⟨h.g.trans g,g.ok h.ok fun b hb hx=>?_,htk,m6,fun x a b=>(g.old x (by omega) (by omega)).trans (h.bk x a b)⟩
 rcases hx with rfl|rfl
 ·obtain⟨v,hv,_⟩:=h.tk;exact⟨_,hv⟩
 ·exact⟨_,h.m6⟩
theorem RS.grow{F:RO}{lo cs bl c1 c2 c3:Nat}{Ms M1 M2 M3:Mem}{bad:Bool}{ts:List T2}(h:RS F lo cs Ms bl M1 c1 M2 c2 bad ts)(h1:bl<lo)(h2:lo≤cs)(h3:cs<c1)(g:Gr c2 M2 c3 M3):RS F lo cs Ms bl M1 c1 M3 c3 bad ts:=by
 have hle:=h.g.le
 obtain⟨v,hv,ht⟩:=h.tk
 exact h.grx h1 h2 h3 (eW.of g) ⟨v,(g.old _ (by omega)).trans hv,ht⟩ ((g.old _ (by omega)).trans h.m6)
theorem RS.put{F:RO}{lo cs bl c1 c2:Nat}{Ms M1 M2:Mem}{bad:Bool}{ts:List T2}(h:RS F lo cs Ms bl M1 c1 M2 c2 bad ts)(h1:bl<lo)(h2:lo≤cs)(h3:cs<c1){x:Nat}{y z:bK}(hx:c1≤x)(hx2:x<c2)(hm:M2.get x=some y):RS F lo cs Ms bl M1 c1 (M2.set x z) c2 bad ts:=by
 have hle:=h.g.le
 obtain⟨v,hv,ht⟩:=h.tk
 refine⟨⟨hle,fun b hb hn=>by rw[ak _ _ (by omega)];exact h.g.old b hb hn,fun b hb=>by rw[ak _ _ (by omega)];exact h.g.new b hb⟩,h.ok.put hx2 hm,⟨v,by rw[ak _ _ (by omega)];exact hv,ht⟩,by rw[ak _ _ (by omega)];exact h.m6,fun b h4 h5=>by rw[ak _ _ (by omega)];exact h.bk b h4 h5⟩
theorem RS.fr{F:RO}{lo cs bl c1 c2 c3:Nat}{Ms M1 M2 M3:Mem}{bad:Bool}{ts:List T2}(h:RS F lo cs Ms bl M1 c1 M2 c2 bad ts)(h1:bl<lo)(h2:lo≤cs)(h3:cs<c1)(g:eW (fun x=>c1≤x) c2 M2 c3 M3)(ok:cR F M3 c3):RS F lo cs Ms bl M1 c1 M3 c3 bad ts:=by
 have hle:=h.g.le
 have hle2:=g.le
 obtain⟨v,hv,ht⟩:=h.tk
 refine⟨⟨by omega,fun x a b=>(g.old x (by omega) (by omega)).trans (h.g.old x a b),g.new⟩,ok,⟨v,(g.old bl (by omega) (by omega)).trans hv,ht⟩,(g.old cs (by omega) (by omega)).trans h.m6,fun x a b=>(g.old x (by omega) (by omega)).trans (h.bk x a b)⟩
theorem Xp(Φ:Nat→Option CF)(h30:Φ 30=some VN){F:RO}{lo cs bl c1 c2:Nat}{Ms M1 M2:Mem}{bad:Bool}{ts:List T2}(h:RS F lo cs Ms bl M1 c1 M2 c2 bad ts)(h1:bl<lo)(h2:lo≤cs)(h3:cs<c1)(s:List UInt8):
 Calls Φ F 30 [sV s,.p bl 0] M2 c2 fun r M' c'=>c'=c2∧(∀x,x≠bl→M'.get x=M2.get x)∧((∃rs,isS s ts=some rs∧r= .b true∧RS F lo cs Ms bl M1 c1 M' c2 bad rs)∨(isS s ts=none∧r= .b false∧RS F lo cs Ms bl M1 c1 M' c2 bad ts)):=by
 obtain⟨v,hv,ht⟩:=h.tk
 have hle:=h.g.le
 refine(w30 Φ h30 h.bk hv ht s).mono ?_
 rintro r M' c' ⟨rfl,⟨rs,v',e1,rfl,rfl,e2⟩|⟨e1,rfl,rfl⟩⟩
 ·exact⟨rfl,fun x hx=>ak _ _ hx,.inl ⟨rs,e1,rfl,h.grx h1 h2 h3 (eW.set h.ok (by omega) (.inl rfl) _) ⟨v',am _ _ _,e2⟩ (by rw[ak _ _ (by omega)];exact h.m6)⟩⟩
 ·exact⟨rfl,fun _ _=>rfl,.inr ⟨e1,rfl,h⟩⟩
theorem bL8(Φ:Nat→Option CF)(h32:Φ 32=some Ws)(h31:Φ 31=some Hm){F:RO}{lo cs bl c1 c2:Nat}{Ms M1 M2:Mem}{bad:Bool}{ts:List T2}(cx:J3 lo cs bl c1 M1)(h:RS F lo cs Ms bl M1 c1 M2 c2 bad ts):
 Calls Φ F 32 [.p (cs+1) 0,.p cs 0] M2 c2 fun r M' c'=>∃pv,r= .g [pv]∧bC pv=true∧rP lo cs Ms pv (redir ts).1∧RS F lo cs Ms bl M1 c1 M' c' (bad||(redir ts).2.1) (redir ts).2.2∧(∀x,x<c2→x≠bl→x≠cs→M'.get x=M2.get x)∧c2≤c':=by
 obtain⟨h1,h2,h3,m7⟩:=cx
 obtain⟨v,hv,ht⟩:=h.tk
 have hle:=h.g.le
 refine(w32 Φ h32 h31 h.ok (by omega) h1 h2 (by omega) (by omega) (aj _) (by omega) h.bk hv h.m6 ((h.g.old (cs+1) (by omega) (by omega)).trans m7) ht).mono ?_
 rintro r M' c' ⟨g,⟨w,rs,v',pv,e1,rfl,e2,e3,e4,e5,e6⟩|⟨e1,rfl,e2,e3⟩⟩
 ·have hr:redir ts=(w,false,rs):=by unfold redir;rw[e1]
  rw[hr];exact⟨pv,rfl,e2,e3,h.grx h1 h2 (by omega) g ⟨v',e4,e5⟩ (by rw[e6];cases bad<;>rfl),fun x a b d=>g.old x a (by omega),g.le⟩
 ·have hr:redir ts=([],true,ts):=by unfold redir;rw[e1]
  rw[hr];exact⟨.l0,rfl,rfl,fun F M' _=>⟨⟨fun e he=>(by cases he),.inl ⟨rfl,.inl rfl⟩⟩,aD _⟩,h.grx h1 h2 (by omega) g e2 (by rw[e3];cases bad<;>rfl),fun x a b d=>g.old x a (by omega),g.le⟩
theorem wdR(Φ:Nat→Option CF)(h31:Φ 31=some Hm){F:RO}{lo cs bl c1 c2 m:Nat}{Ms M1 M2:Mem}{bad:Bool}{ts:List T2}(cx:J3 lo cs bl c1 M1)(h:RS F lo cs Ms bl M1 c1 M2 c2 bad ts)(hm:ts.length≤m)(hm2:m≤1000000):
 Calls Φ F 31 [.i .i64 (m:Int),.p bl 0] M2 c2 fun r M' c'=>RS F lo cs Ms bl M1 c1 M' c' bad (bI ts).2∧v8 lo cs Ms M' c2 c' r (bI ts).1∧(∀x,x<c2→x≠bl→M'.get x=M2.get x)∧c2≤c':=by
 obtain⟨h1,h2,h3,m7⟩:=cx
 obtain⟨v,hv,ht⟩:=h.tk
 have hle:=h.g.le
 refine(w31 Φ h31 h.ok (by omega) h1 h2 h.bk hv ht m hm2).mono ?_
 rintro r M' c' ⟨g,hW,htk⟩
 rw[uI m ts hm]at hW htk
 exact⟨h.grx h1 h2 (by omega) (g.wk fun _ _ e=> .inl e) htk ((g.old cs (by omega) (by omega)).trans h.m6),hW,fun x a b=>g.old x a b,g.le⟩
theorem n18(Φ:Nat→Option CF)(h30:Φ 30=some VN)(h31:Φ 31=some Hm)(h32:Φ 32=some Ws){F:RO}{lo cs bl c c1 c2:Nat}{Ms M1 M2:Mem}{bad:Bool}{ts:List T2}{s:List UInt8}{j:Int}{nt:Bool}{vc:V}(cx:J3 lo cs bl c1 M1)(h:RS F lo cs Ms bl M1 c1 M2 c2 bad ts)(hc:c1<c2)(mp:M2.get c1=some (ae 39 [.i .i64 j,.b nt,.l0,.l0,.b false,vc]))(u:List (Option V))(Q:Ex→St→Prop)
 (hQ:∀(u:List (Option V)) M' c' vi,RS F lo cs Ms bl M1 c1 M' c' (bad||(cA ts).2.1) (cA ts).2.2→bC vi=true→rP lo cs Ms vi (cA ts).1→M'.get c1=some (ae 39 [.i .i64 j,.b nt,vi,.l0,.b false,vc])→c2≤c'→(∀x,c1<x→x<c2→M'.get x=M2.get x)→Q .nrm (.mk ((iX u (sV s) (.p c 0) (.p bl 0) (.f 30 [] [.p bl 0]) (.p cs 0) (.p (cs+1) 0) (.f 32 [] [.p (cs+1) 0,.p cs 0]) (.p (cs+2) 0) (.i .i64 j) (.p c1 0))) [] M' c')):
 Wp xz (K Φ none 10 F) (.mk ((iX u (sV s) (.p c 0) (.p bl 0) (.f 30 [] [.p bl 0]) (.p cs 0) (.p (cs+1) 0) (.f 32 [] [.p (cs+1) 0,.p cs 0]) (.p (cs+2) 0) (.i .i64 j) (.p c1 0))) [] M2 c2) Q:=by
 have J7:V.s 1 60=sV [60]:=rfl
 have hx:=cx.h1;have hx2:=cx.h2;have hx3:=cx.h3
 simp only[WX,ng]
 rw[J7]
 refine az ((Xp Φ h30 h cx.h1 cx.h2 (by omega) [60]).mono ?_)
 rintro r M3 c3 ⟨rfl,hf,⟨rs,e1,rfl,hR⟩|⟨e1,rfl,hR⟩⟩
 ·have hi:cA ts=redir rs:=by unfold cA;rw[e1]
  rw[hi]at hQ;simp only[WX,ng];refine az ((bL8 Φ h32 h31 cx hR).mono ?_);rintro r M4 c4 ⟨pv,rfl,p1,p2,hR4,hf4,hlt⟩;have hle:=hR4.g.le;have m4:M4.get c1=some (ae 39 [.i .i64 j,.b nt,.l0,.l0,.b false,vc]):=(hf4 c1 hc (by omega) (by omega)).trans ((hf c1 (by omega)).trans mp);have hG:flatten (V.g [pv])=[pv]:=rfl;have st:=aC m4 2 [pv] (by simp) (by rw[av,bO,p1];rfl);simp only[WX,Nat.reduceAdd,hG,st];exact hQ (G1 (X1 (G1 (X1 (G8 (bf (bA (br (X2 (X1 [])))))))))) _ _ pv (hR4.put cx.h1 cx.h2 (by omega) (aj _) (by omega) m4) p1 p2 (am _ _ _) hlt (fun x a b=>by rw[ak _ _ (by omega),hf4 x b (by omega) (by omega)];exact hf x (by omega))
 ·have hi:cA ts=([],false,ts):=by unfold cA;rw[e1]
  rw[hi,Bool.or_false]at hQ;simp only[WX];exact hQ (G1 (X1 (G1 (X1 (G8 (bf (bA (br (X2 (X1 [])))))))))) _ _ .l0 hR rfl (fun F M' _=>⟨⟨fun e he=>(by cases he),.inl ⟨rfl,.inl rfl⟩⟩,aD _⟩) ((hf c1 (by omega)).trans mp) (aj _) (fun x a b=>hf x (by omega))
def Bs(F:RO)(lo cs:Nat)(Ms M:Mem)(a c:Nat)(vc:V)(cl:List eB):Prop:=∃b es,GO M a c vc b es∧es.length=cl.length∧cl.length≤1000000∧ ∀i (h:i<es.length) (h':i<cl.length),∃wv l h2,es[i]=[wv]∧a≤l∧l≤h2∧h2≤c∧(b<l∨h2≤b)∧rO lo cs Ms M l h2 fun M'=>W4 F l M' h2 wv cl[i]
theorem Bs.keep{F:RO}{lo cs:Nat}{Ms M M2:Mem}{a c c2:Nat}{vc:V}{cl:List eB}(h:Bs F lo cs Ms M a c vc cl)(hc:c≤c2)(hM:∀x,a≤x→x<c→M2.get x=M.get x):Bs F lo cs Ms M2 a c2 vc cl:=by
 obtain⟨b,es,hv,h1,h2,h3⟩:=h
 refine⟨b,es,hv.up hc (hM b hv.2.1 hv.2.2.1),h1,h2,fun i hi hi'=>?_⟩
 obtain⟨wv,l,h2,e1,e2,e3,e4,e5,e6⟩:=h3 i hi hi'
 exact⟨wv,l,h2,e1,e2,e3,by omega,e5,e6.up fun x a1 a2=>hM x (by omega) (by omega)⟩
theorem Bs.own{F:RO}{lo cs:Nat}{Ms M:Mem}{a c:Nat}{vc:V}{cl:List eB}(h:Bs F lo cs Ms M a c vc cl):rO lo cs Ms M a c fun M'=>VK F a M' c vc cl:=by
 intro M' hB hM
 obtain⟨b,es,hv,h1,h2,h3⟩:=h
 have hv':GO M' a c vc b es:=hv.up (aj _) (hM b hv.2.1 hv.2.2.1)
 refine⟨⟨es,hv'.sl,h1,bm h2 (by decide),fun i hi hi'=>?_⟩,by rw[←h1];exact hv'.sh⟩
 obtain⟨wv,l,h2,e1,e2,e3,e4,e5,e6⟩:=h3 i hi hi'
 exact⟨wv,e1,(e6 M' hB fun x a1 a2=>hM x (by omega) (by omega)).up e2 e4⟩
theorem Bs.one{F:RO}{lo cs:Nat}{Ms M:Mem}{a c:Nat}{vc:V}{cl:List eB}(h:Bs F lo cs Ms M a c vc cl):bC vc=true∧flatten vc=[vc]∧aK [vc]=true:=by
 obtain⟨b,es,hv,_⟩:=h;exact hv.one
theorem Bs.len{F:RO}{lo cs:Nat}{Ms M:Mem}{a c:Nat}{vc:V}{cl:List eB}(h:Bs F lo cs Ms M a c vc cl):cl.length≤1000000:=by
 obtain⟨b,es,hv,_,h2,_⟩:=h;exact h2
theorem AD{j:Int}{nt beh:Bool}{vi vo vc:V}(h1:bC vi=true)(h2:bC vo=true)(h3:bC vc=true):aK [.i .i64 j,.b nt,vi,vo,.b beh,vc]=true:=by
 rw[av,av,av,av,av,av,bO,h1,h2,h3];rfl
theorem n15(Φ:Nat→Option CF)(h31:Φ 31=some Hm){F:RO}{lo cs bl c c1 c2:Nat}{Ms M1 M2:Mem}{bad:Bool}{ts:List T2}{s:List UInt8}{j:Int}{nt:Bool}(cx:J3 lo cs bl c1 M1)(h:RS F lo cs Ms bl M1 c1 M2 c2 bad ts)(hc:c1<c2)(hm:ts.length≤s.length)(hs:s.length≤400000)(mp:M2.get c1=some (ae 39 [.i .i64 j,.b nt,.l0,.l0,.b false,.l0]))(u:List (Option V))(Q:Ex→St→Prop)
 (hQ:∀(u:List (Option V)) M' c' vc,RS F lo cs Ms bl M1 c1 M' c' bad (bI ts).2→Bs F lo cs Ms M' (c1+1) c' vc [(bI ts).1]→M'.get c1=some (ae 39 [.i .i64 j,.b nt,.l0,.l0,.b false,vc])→c2≤c'→Q .nrm (.mk ((iX u (sV s) (.p c 0) (.p bl 0) (.f 30 [] [.p bl 0]) (.p cs 0) (.p (cs+1) 0) (.f 32 [] [.p (cs+1) 0,.p cs 0]) (.p (cs+2) 0) (.i .i64 j) (.p c1 0))) [] M' c')):
 Wp xu (K Φ none 10 F) (.mk ((iX u (sV s) (.p c 0) (.p bl 0) (.f 30 [] [.p bl 0]) (.p cs 0) (.p (cs+1) 0) (.f 32 [] [.p (cs+1) 0,.p cs 0]) (.p (cs+2) 0) (.i .i64 j) (.p c1 0))) [] M2 c2) Q:=by
 have hx:=cx.h1;have hx2:=cx.h2;have hx3:=cx.h3
 have l7:load1 F M2 (cs+1) 0=some (.f 31 [] [.p bl 0]):=au ((h.g.old (cs+1) (by omega) (by omega)).trans cx.m7) 0
 simp only[WX,ng,l7]
 refine az ((wdR Φ h31 cx h hm (by omega)).mono ?_)
 rintro r M3 c3 ⟨hR,hW,hf,hle⟩
 obtain⟨w1,w2,w3⟩:=hW.one
 have hG:∀v,flatten (V.g [v])=[v]:=fun _=>rfl
 have gZ:=(Gr.refl hR.ok).set c3 (cL [V.l0] 42 [r]) (aj _) (ay _) (aJ _)
 have m3:(M3.set c3 (cL [V.l0] 42 [r])).get c1=some (ae 39 [.i .i64 j,.b nt,.l0,.l0,.b false,.l0]):=(ak _ _ (by omega)).trans ((hf c1 hc (by omega)).trans mp)
 have st:=aC m3 5 [.l c3 0 1 1] (by simp) rfl
 simp only[WX,Nat.reduceAdd,Nat.reduceLeDiff,hG,w1,w2,st]
 have hR3:=(hR.grow cx.h1 cx.h2 (by omega) gZ).put cx.h1 cx.h2 (by omega) (aj _) (z:=ae 39 (over [.i .i64 j,.b nt,.l0,.l0,.b false,.l0] 5 [.l c3 0 1 1])) (by omega) m3
 refine hQ (G1 (X1 (G1 (X1 (G8 (bf (bA (br (X2 (X1 [])))))))))) _ _ (.l c3 0 1 1) hR3 ?_ (am _ _ _) (by omega)
 refine⟨c3,[[r]],⟨fun e he=>by rw[List.mem_singleton]at he;subst he;rfl,by omega,ay _,.inl ⟨rfl,rfl,by rw[ak _ _ (by omega)];exact am _ _ _⟩⟩,rfl,by show 1≤1000000;omega,fun i hi hi'=>?_⟩
 have hi0:i=0:=by simp only[aA,aM]at hi;omega
 subst hi0
 refine⟨r,c2,c3,rfl,by omega,by omega,by omega,by omega,?_⟩
 have:=(hW.own (F:=F) (by omega)).up (M2:=(M3.set c3 (cL [V.l0] 42 [r])).set c1 (ae 39 (over [.i .i64 j,.b nt,.l0,.l0,.b false,.l0] 5 [.l c3 0 1 1]))) fun x a1 a2=>by rw[ak _ _ (by omega),ak _ _ (by omega)]
 exact this
theorem n21(Φ:Nat→Option CF)(h30:Φ 30=some VN)(h31:Φ 31=some Hm){F:RO}{lo cs bl c c1 c2:Nat}{Ms M1 M2:Mem}{bad:Bool}{ts:List T2}{s:List UInt8}{j:Int}{nt:Bool}{vi vc:V}{cl:List eB}(cx:J3 lo cs bl c1 M1)(h:RS F lo cs Ms bl M1 c1 M2 c2 bad ts)(hc:c1<c2)(hm:ts.length≤s.length)(hs:s.length≤400000)(hvi:bC vi=true)(mp:M2.get c1=some (ae 39 [.i .i64 j,.b nt,vi,.l0,.b false,vc]))(hca:Bs F lo cs Ms M2 (c1+1) c2 vc cl)(hcl:cl.length+ts.length≤900000)(u:List (Option V))(Q:Ex→St→Prop)
 (hQ:∀(u:List (Option V)) M' c' vc,RS F lo cs Ms bl M1 c1 M' c' bad (cm ts).2→Bs F lo cs Ms M' (c1+1) c' vc (cl++(cm ts).1)→M'.get c1=some (ae 39 [.i .i64 j,.b nt,vi,.l0,.b false,vc])→c2≤c'→Q (.ext 2) (.mk ((iX u (sV s) (.p c 0) (.p bl 0) (.f 30 [] [.p bl 0]) (.p cs 0) (.p (cs+1) 0) (.f 32 [] [.p (cs+1) 0,.p cs 0]) (.p (cs+2) 0) (.i .i64 j) (.p c1 0))) [] M' c')):
 Wp (.loop (.seq C9 (.block 3 Ca))) (K Φ none 10 F) (.mk ((iX u (sV s) (.p c 0) (.p bl 0) (.f 30 [] [.p bl 0]) (.p cs 0) (.p (cs+1) 0) (.f 32 [] [.p (cs+1) 0,.p cs 0]) (.p (cs+2) 0) (.i .i64 j) (.p c1 0))) [] M2 c2) Q:=by
 have hx:=cx.h1;have hx2:=cx.h2;have hx3:=cx.h3
 have c124:V.s 1 124=sV [124]:=rfl
 obtain⟨I,hI⟩:∃I:Nat→St→Prop,∀n s',I n s'↔(∃(c3:Nat) (M3:Mem) (tr:List T2) (vc':V) (cu:List eB) (u:List (Option V)),n=tr.length∧s'= .mk ((iX u (sV s) (.p c 0) (.p bl 0) (.f 30 [] [.p bl 0]) (.p cs 0) (.p (cs+1) 0) (.f 32 [] [.p (cs+1) 0,.p cs 0]) (.p (cs+2) 0) (.i .i64 j) (.p c1 0))) [] M3 c3∧RS F lo cs Ms bl M1 c1 M3 c3 bad tr∧c2≤c3∧tr.length≤s.length∧cu.length+tr.length≤900000∧M3.get c1=some (ae 39 [.i .i64 j,.b nt,vi,.l0,.b false,vc'])∧Bs F lo cs Ms M3 (c1+1) c3 vc' cu∧cl++(cm ts).1=cu++(cm tr).1∧(cm ts).2=(cm tr).2):=⟨fun n s'=>_,fun _ _=>Iff.rfl⟩
 refine bw I ?_ ts.length _ ((hI _ _).2 ⟨_,_,_,_,_,(G1 (X1 (G1 (X1 (G8 (bf (bA (br (X2 (X1 [])))))))))),rfl,rfl,h,aj _,hm,hcl,mp,hca,rfl,rfl⟩)
 intro n s' hIs
 obtain⟨c3,M3,tr,vc',cu,u,rfl,rfl,hR,hle,hml,hcu,mp3,hca3,he1,he2⟩:=(hI _ _).1 hIs
 clear hIs
 simp only[WX,ng]
 rw[c124]
 refine az ((Xp Φ h30 hR cx.h1 cx.h2 (by omega) [124]).mono ?_)
 rintro r M4 c4 ⟨rfl,hf,⟨rs,e1,rfl,hR4⟩|⟨e1,rfl,hR4⟩⟩
 ·have hrl:=dK e1;have hp:=oa e1;have mp4:=(hf c1 (by omega)).trans mp3;have l5:load1 F M4 c1 5=some vc':=au mp4 5;have l7:load1 F M4 (cs+1) 0=some (.f 31 [] [.p bl 0]):=au ((hR4.g.old (cs+1) (by omega) (by omega)).trans cx.m7) 0;have hca4:Bs F lo cs Ms M4 (c1+1) c4 vc' cu:=hca3.keep (aj _) fun x a1 a2=>hf x (by omega);have hfr:=hR4.ok.free;simp only[WX,ng,l5,l7];have g5:Gr c4 M4 (c4+11) M4:=(Gr.refl hR4.ok).up (by omega);have hR5:=hR4.grow cx.h1 cx.h2 (by omega) g5;obtain⟨v,hv,ht⟩:=hR5.tk;refine Vg (hx:=fun x=>x=bl) _ _ _ _ _ _ _ _ _ _ _ hR5.ok (by intro e he;simp only[bq,List.not_mem_nil,or_false]at he;rcases he with rfl|rfl<;>show¬_=bl<;>dsimp only<;>omega) (fun b hb hx=>by rw[hx];exact⟨_,hv⟩) ?_;intro F1 N1 okn hlk hkp;have hkp2:∀x,x<cs→N1.get x=M4.get x:=fun x hx=>hkp x (by intro e he;simp only[bq,List.not_mem_nil,or_false]at he;rcases he with rfl|rfl<;>dsimp only<;>omega);refine(show lD (dt (j5 Φ) F1 31 [.i .i64 (s.length:Int),.p bl 0] N1 (c4+11) (Φ 31)) _ from(w31 Φ h31 okn (by omega) hx hx2 (fun x a b=>(hkp2 x b).trans (hR5.bk x a b)) ((hkp2 bl (by omega)).trans hv) ht s.length (by omega)).mono ?_);rintro wv N2 c5 ⟨gN,hW,v2,hv2,ht2⟩;rw[uI s.length rs (by omega)]at hW ht2;refine⟨gN,fun M6 g6 hM6=>?_⟩;have hle6:=g6.le;have hR6:RS F lo cs Ms bl M1 c1 M6 c5 bad (bI rs).2:=hR5.grx cx.h1 cx.h2 (by omega) (g6.wk fun _ _ e=> .inl e) ⟨v2,(hM6 bl (.inr rfl)).trans hv2,ht2⟩ ((g6.old cs (by omega) (by omega)).trans hR5.m6);have hW6:v8 lo cs Ms M6 (c4+11) c5 wv (bI rs).1:=by
   obtain⟨b,es,hA,a2,a3,a4⟩:=hW;refine⟨b,es,?_,a2,a3,a4⟩;rcases hA with⟨a0,a|⟨b1,b2,b3,b4⟩⟩
   ·exact⟨a0,.inl a⟩
   ·exact⟨a0,.inr ⟨b1,b2,b3,by rw[hM6 b (.inl b1)];exact b4⟩⟩
  obtain⟨w1,w2,w3⟩:=hW6.one;have mp6:=(g6.old c1 (by omega) (by omega)).trans mp4;have hca6:Bs F lo cs Ms M6 (c1+1) c4 vc' cu:=hca4.keep (aj _) fun x a1 a2=>g6.old x (by omega) (by omega);have lk:(look F M6 (c4+7)).isNone=true:=by rw[cF (g6.old _ (by omega) (by omega)),hR4.ok.look (by omega)];rfl
  have rf:bY (c4+7) [(2,cs+1),(1,c1)]=true:=by rw[bo _ _ _ _ (by omega),bo _ _ _ _ (by omega),cK]
  have hG:∀v,flatten (V.g [v])=[v]:=fun _=>rfl;simp only[WX,Nat.reducePow,Nat.reduceDiv,Nat.reduceMod,Nat.reduceBEq,Nat.reduceLeDiff,lk,rf,uH,mh,rI,hG,w1,w2,Dc];obtain⟨b,es,hvA,q1,q2,q3⟩:=hca4;have hb1:=hvA.2.1;have hb2:=hvA.2.2.1;have gZ4:eW (fun x=>x=bl∨x=cs) c4 M4 c5 (M6.set (c4+7) (cL [V.l0] 42 [wv])):=⟨by omega,fun x a b=>by rw[ak _ _ (by omega)];exact g6.old x (by omega) (fun e=>b (.inl e)),fun x a=>by rw[ak _ _ (by omega)];exact g6.new x a⟩
  have hRZ:=hR4.grx (bad':=bad) (ts':=(bI rs).2) cx.h1 cx.h2 (by omega) gZ4 ⟨v2,(ak _ _ (by omega)).trans ((hM6 bl (.inr rfl)).trans hv2),ht2⟩ ((ak _ _ (by omega)).trans ((g6.old cs (by omega) (by omega)).trans hR4.m6));have hM4:∀x,c1≤x→x<c4→(M6.set (c4+7) (cL [V.l0] 42 [wv])).get x=M4.get x:=fun x a1 a2=>by rw[ak _ _ (by omega)];exact g6.old x (by omega) (by omega)
  have hvZ:=hvA.up (M2:=M6.set (c4+7) (cL [V.l0] 42 [wv])) (c2:=c5) (by omega) (hM4 b (by omega) hb2);refine eH ((WN hvZ hRZ.ok w1 (show c4+7<c5 by omega) (by omega) (am _ _ _) (by omega)).mono ?_);rintro v' M7 c7 ⟨b',hv7,hle7,hb7,hf7,hn7⟩;have gx7:eW (fun x=>x=b) c5 (M6.set (c4+7) (cL [V.l0] 42 [wv])) c7 M7:=⟨hle7,fun x a b=>hf7 x a b,hn7⟩
  have ok7:cR F M7 c7:=gx7.ok hRZ.ok fun x a e=>by
   rw[e];obtain⟨_,_,_,⟨_,_,hm⟩|⟨_,hm⟩⟩:=hvZ
   ·exact⟨_,hm⟩
   ·exact⟨_,hm⟩
  have hR7:=hRZ.fr cx.h1 cx.h2 (by omega) (gx7.wk fun x _ e=>by rw[e];omega) ok7;have mp7:M7.get c1=some (ae 39 [.i .i64 j,.b nt,vi,.l0,.b false,vc']):=(hf7 c1 (by omega) (by omega)).trans ((hM4 c1 (aj _) (by omega)).trans mp4);obtain⟨k1,k2,k3⟩:=hv7.one;have st:=aC mp7 5 [v'] (by simp) k3;have ho:over [.i .i64 j,.b nt,vi,.l0,.b false,vc'] 5 [v']=[.i .i64 j,.b nt,vi,.l0,.b false,v']:=rfl;rw[ho]at st;have hR8:=hR7.put cx.h1 cx.h2 (by omega) (aj _) (z:=ae 39 [.i .i64 j,.b nt,vi,.l0,.b false,v']) (by omega) mp7;have f8:=hR8.ok.free;refine⟨ok7.free,?_⟩;simp only[WX,Nat.reducePow,Nat.reduceDiv,Nat.reduceMod,Nat.reduceBEq,j0,k2,st,f8];refine⟨(bI rs).2.length,by have:=gK rs;omega,(hI _ _).2 ⟨c7,_,(bI rs).2,v',cu++[(bI rs).1],(G1 (X1 (G1 (X1 (G8 (bf (bA (br (X2 (X1 [])))))))))),rfl,rfl,hR8,by omega,by have:=gK rs;omega,by have:=gK rs;rw[aH,List.length_singleton];omega,am _ _ _,?_,by rw[he1,hp];simp,by rw[he2,hp]⟩⟩;refine⟨b',es++[[wv]],hv7.up (aj _) (ak _ _ (by have:=hv7.2.1;omega)),by rw[aH,aH,q1];rfl,by rw[aH,List.length_singleton];omega,fun i hi hi'=>?_⟩
  have FR:∀x,c1<x→x<c5→x≠b→x≠c4+7→(M7.set c1 (ae 39 [.i .i64 j,.b nt,vi,.l0,.b false,v'])).get x=M6.get x:=fun x a1 a2 a3 a4=>by
   rw[ak _ _ (by omega),hf7 x a2 a3,ak _ _ a4]
  by_cases hie:i<es.length
  ·obtain⟨wv',l,h2,e1,e2,e3,e4,e5,e6⟩:=q3 i hie (by omega);refine⟨wv',l,h2,by rw[dC hie];exact e1,e2,e3,by omega,by omega,?_⟩;have:=e6.up (M2:=M7.set c1 (ae 39 [.i .i64 j,.b nt,vi,.l0,.b false,v'])) fun x a1 a2=>(FR x (by omega) (by omega) (by omega) (by omega)).trans (g6.old x (by omega) (by omega));rw[dC (by omega)];exact this
  ·rw[aH]at hi;simp only[aA,aM]at hi;obtain rfl:i=es.length:=by omega
   refine⟨wv,c4+11,c5,by rw[dB (aj _)];simp,by omega,by omega,by omega,by omega,?_⟩;have:=(hW6.own (F:=F) (by omega)).up (M2:=M7.set c1 (ae 39 [.i .i64 j,.b nt,vi,.l0,.b false,v'])) fun x a1 a2=>FR x (by omega) (by omega) (by omega) (by omega);rw[dB (by omega)];simp only[q1,Nat.sub_self,List.getElem_cons_zero];exact this
 ·rw[kr e1,bH]at he1;rw[kr e1]at he2;simp only[WX];rw[he1,he2]at hQ;exact hQ (G1 (X1 (G1 (X1 (G8 (bf (bA (br (X2 (X1 [])))))))))) _ _ vc' hR4 (hca3.keep (aj _) fun x a1 a2=>hf x (by omega)) ((hf c1 (by omega)).trans mp3) hle
theorem n24(Φ:Nat→Option CF)(h31:Φ 31=some Hm)(h32:Φ 32=some Ws){F:RO}{lo cs bl c c1 c2:Nat}{Ms M1 M2:Mem}{bad:Bool}{ts:List T2}{s:List UInt8}{j:Int}{nt beh:Bool}{vi vc:V}(cx:J3 lo cs bl c1 M1)(h:RS F lo cs Ms bl M1 c1 M2 c2 bad ts)(hc:c1<c2)(mp:M2.get c1=some (ae 39 [.i .i64 j,.b nt,vi,.l0,.b beh,vc]))(u:List (Option V))(Q:Ex→St→Prop)
 (hQ:∀(u:List (Option V)) M' c' vo,RS F lo cs Ms bl M1 c1 M' c' (bad||(redir ts).2.1) (redir ts).2.2→bC vo=true→rP lo cs Ms vo (redir ts).1→M'.get c1=some (ae 39 [.i .i64 j,.b nt,vi,vo,.b beh,vc])→c2≤c'→(∀x,c1<x→x<c2→M'.get x=M2.get x)→Q .nrm (.mk ((iX u (sV s) (.p c 0) (.p bl 0) (.f 30 [] [.p bl 0]) (.p cs 0) (.p (cs+1) 0) (.f 32 [] [.p (cs+1) 0,.p cs 0]) (.p (cs+2) 0) (.i .i64 j) (.p c1 0))) [] M' c')):
 Wp Cc (K Φ none 10 F) (.mk ((iX u (sV s) (.p c 0) (.p bl 0) (.f 30 [] [.p bl 0]) (.p cs 0) (.p (cs+1) 0) (.f 32 [] [.p (cs+1) 0,.p cs 0]) (.p (cs+2) 0) (.i .i64 j) (.p c1 0))) [] M2 c2) Q:=by
 have hx:=cx.h1;have hx2:=cx.h2;have hx3:=cx.h3
 simp only[WX,ng]
 refine az ((bL8 Φ h32 h31 cx h).mono ?_)
 rintro r M4 c4 ⟨pv,rfl,p1,p2,hR4,hf4,hlt⟩
 have m4:M4.get c1=some (ae 39 [.i .i64 j,.b nt,vi,.l0,.b beh,vc]):=(hf4 c1 hc (by omega) (by omega)).trans mp
 have hG:flatten (V.g [pv])=[pv]:=rfl
 have st:=aC m4 3 [pv] (by simp) (by rw[av,bO,p1];rfl)
 simp only[WX,Nat.reduceAdd,hG,st]
 exact hQ (G1 (X1 (G1 (X1 (G8 (bf (bA (br (X2 (X1 [])))))))))) _ _ pv (hR4.put cx.h1 cx.h2 (by omega) (aj _) (by omega) m4) p1 p2 (am _ _ _) hlt (fun x a b=>by rw[ak _ _ (by omega)];exact hf4 x b (by omega) (by omega))
theorem sM(lo cs:Nat)(Ms:Mem):rP lo cs Ms .l0 []:=fun F M' _=>⟨⟨fun e he=>(by cases he),.inl ⟨rfl,.inl rfl⟩⟩,aD _⟩
theorem n22(Φ:Nat→Option CF)(h30:Φ 30=some VN)(h31:Φ 31=some Hm)(h32:Φ 32=some Ws){F:RO}{lo cs bl c c1 c2:Nat}{Ms M1 M2:Mem}{bad:Bool}{ts:List T2}{s:List UInt8}{j:Int}{nt:Bool}{vi vc:V}(cx:J3 lo cs bl c1 M1)(h:RS F lo cs Ms bl M1 c1 M2 c2 bad ts)(hc:c1<c2)(mp:M2.get c1=some (ae 39 [.i .i64 j,.b nt,vi,.l0,.b false,vc]))(u:List (Option V))(Q:Ex→St→Prop)
 (hQ:∀(u:List (Option V)) M' c' vo,RS F lo cs Ms bl M1 c1 M' c' (bad||(dm ts).2.2.1) (dm ts).2.2.2→bC vo=true→rP lo cs Ms vo (dm ts).2.1→M'.get c1=some (ae 39 [.i .i64 j,.b nt,vi,vo,.b (dm ts).1,vc])→c2≤c'→(∀x,c1<x→x<c2→M'.get x=M2.get x)→Q .nrm (.mk ((iX u (sV s) (.p c 0) (.p bl 0) (.f 30 [] [.p bl 0]) (.p cs 0) (.p (cs+1) 0) (.f 32 [] [.p (cs+1) 0,.p cs 0]) (.p (cs+2) 0) (.i .i64 j) (.p c1 0))) [] M' c')):
 Wp Cb (K Φ none 10 F) (.mk ((iX u (sV s) (.p c 0) (.p bl 0) (.f 30 [] [.p bl 0]) (.p cs 0) (.p (cs+1) 0) (.f 32 [] [.p (cs+1) 0,.p cs 0]) (.p (cs+2) 0) (.i .i64 j) (.p c1 0))) [] M2 c2) (eg Cd (K Φ none 10 F) Q):=by
 have hx:=cx.h1;have hx2:=cx.h2;have hx3:=cx.h3
 have Ho:V.s 1 62=sV [62]:=rfl
 have cgg:V.s 2 15934=sV [62,62]:=rfl
 simp only[WX,ng]
 rw[cgg]
 refine az ((Xp Φ h30 h cx.h1 cx.h2 (by omega) [62,62]).mono ?_)
 rintro r M3 c3 ⟨rfl,hf,⟨rs,e1,rfl,hR⟩|⟨e1,rfl,hR⟩⟩
 ·have ho:dm ts=(true,redir rs):=by unfold dm;rw[e1]
  rw[ho]at hQ;have m3:=(hf c1 (by omega)).trans mp;have st:=aC m3 4 [V.b true] (by simp) rfl;have hov:over [.i .i64 j,.b nt,vi,.l0,.b false,vc] 4 [V.b true]=[.i .i64 j,.b nt,vi,.l0,.b true,vc]:=rfl;rw[hov]at st;have m4:=am M3 c1 (ae 39 [.i .i64 j,.b nt,vi,.l0,.b true,vc]);have l4:load1 F (M3.set c1 (ae 39 [.i .i64 j,.b nt,vi,.l0,.b true,vc])) c1 4=some (.b true):=au m4 4;have hR4:=hR.put cx.h1 cx.h2 (by omega) (aj _) (z:=ae 39 [.i .i64 j,.b nt,vi,.l0,.b true,vc]) hc m3;simp only[WX,En,Eo,st,l4];refine n24 Φ h31 h32 cx hR4 hc m4 (G1 (X1 (G1 (X1 (G8 (bf (bA (br (X2 (X1 [])))))))))) _ ?_;intro u M5 c5 vo hR5 o1 o2 m5 hle hf5;exact hQ u M5 c5 vo hR5 o1 o2 m5 hle fun x a b=>(hf5 x a b).trans ((ak _ _ (by omega)).trans (hf x (by omega)))
 ·have m3:=(hf c1 (by omega)).trans mp;have st:=aC m3 4 [V.b false] (by simp) rfl;have hov:over [.i .i64 j,.b nt,vi,.l0,.b false,vc] 4 [V.b false]=[.i .i64 j,.b nt,vi,.l0,.b false,vc]:=rfl;rw[hov]at st;have m4:=am M3 c1 (ae 39 [.i .i64 j,.b nt,vi,.l0,.b false,vc]);have l4:load1 F (M3.set c1 (ae 39 [.i .i64 j,.b nt,vi,.l0,.b false,vc])) c1 4=some (.b false):=au m4 4;have hR4:=hR.put cx.h1 cx.h2 (by omega) (aj _) (z:=ae 39 [.i .i64 j,.b nt,vi,.l0,.b false,vc]) hc m3;simp only[WX,En,Eo,st,l4];rw[Ho];refine az ((Xp Φ h30 hR4 cx.h1 cx.h2 (by omega) [62]).mono ?_);rintro r M5 c5 ⟨rfl,hf5,⟨rs,e2,rfl,hR5⟩|⟨e2,rfl,hR5⟩⟩
  ·have ho:dm ts=(false,redir rs):=by unfold dm;rw[e1,e2]
   rw[ho]at hQ;simp only[WX];refine n24 Φ h31 h32 cx hR5 hc ((hf5 c1 (by omega)).trans m4) (G1 (X1 (G1 (X1 (G8 (bf (bA (br (X2 (X1 [])))))))))) _ ?_;intro u M6 c6 vo hR6 o1 o2 m6 hle hf6;exact hQ u M6 c6 vo hR6 o1 o2 m6 hle fun x a b=>(hf6 x a b).trans ((hf5 x (by omega)).trans ((ak _ _ (by omega)).trans (hf x (by omega))))
  ·have ho:dm ts=(false,[],false,ts):=by unfold dm;rw[e1,e2]
   rw[ho,Bool.or_false]at hQ;simp only[WX];exact hQ (G1 (X1 (G1 (X1 (G8 (bf (bA (br (X2 (X1 [])))))))))) _ _ .l0 hR5 rfl (sM lo cs Ms) ((hf5 c1 (by omega)).trans m4) (aj _) fun x a b=>(hf5 x (by omega)).trans ((ak _ _ (by omega)).trans (hf x (by omega)))
def li(F:RO)(lo cs:Nat)(Ms M:Mem)(a c:Nat)(vl:V)(dn:List fD):Prop:=∃b es,aX M a c b 39 6 vl es∧es.length=dn.length∧dn.length≤1000000∧ ∀i (h:i<es.length) (h':i<dn.length),∃l h2,a≤l∧l≤h2∧h2≤c∧(b<l∨h2≤b)∧rO lo cs Ms M l h2 fun M'=>J5 F l M' h2 es[i] dn[i]
theorem li.keep{F:RO}{lo cs:Nat}{Ms M M2:Mem}{a c c2:Nat}{vl:V}{dn:List fD}(h:li F lo cs Ms M a c vl dn)(hc:c≤c2)(hM:∀x,a≤x→x<c→M2.get x=M.get x):li F lo cs Ms M2 a c2 vl dn:=by
 obtain⟨b,es,hA,h1,h2,h3⟩:=h
 refine⟨b,es,?_,h1,h2,fun i hi hi'=>?_⟩
 ·rcases hA with⟨a0,x|⟨a1,a2,a3,a4⟩⟩
  ·exact⟨a0,.inl x⟩
  ·exact⟨a0,.inr ⟨a1,by omega,a3,(hM b a1 a2).trans a4⟩⟩
 ·obtain⟨l,h2,e2,e3,e4,e5,e6⟩:=h3 i hi hi';exact⟨l,h2,e2,e3,by omega,e5,e6.up fun x a1 a2=>hM x (by omega) (by omega)⟩
theorem li.own{F:RO}{lo cs:Nat}{Ms M:Mem}{a c:Nat}{vl:V}{dn:List fD}(h:li F lo cs Ms M a c vl dn):rO lo cs Ms M a c fun M'=>J4 F a M' c vl dn:=by
 intro M' hB hM
 obtain⟨b,es,hA,h1,h2,h3⟩:=h
 have hA':aX M' a c b 39 6 vl es:=by
  rcases hA with⟨a0,x|⟨a1,a2,a3,a4⟩⟩
  ·exact⟨a0,.inl x⟩
  ·exact⟨a0,.inr ⟨a1,a2,a3,(hM b a1 a2).trans a4⟩⟩
 refine⟨⟨es,hA'.sl,h1,bm h2 (by decide),fun i hi hi'=>?_⟩,by rw[←h1];exact xq hA'⟩
 obtain⟨l,h2,e2,e3,e4,e5,e6⟩:=h3 i hi hi'
 exact J5.up e2 e4 _ _ (e6 M' hB fun x a1 a2=>hM x (by omega) (by omega))
theorem n26(Φ:Nat→Option CF){F:RO}{lo cs bl c c1 c2:Nat}{Ms M1 M2:Mem}{bad:Bool}{ts:List T2}{s:List UInt8}{j:Int}{nt beh:Bool}{vi vo vc vl:V}{w1 w2:List Pc}{cl:List eB}{dn:List fD}(cx:J3 lo cs bl c1 M1)(h:RS F lo cs Ms bl M1 c1 M2 c2 bad ts)(hc:c1<c2)(h9:M1.get (cs+2)=some (ae 25 [vl]))(hL:li F lo cs Ms M1 (cs+3) c1 vl dn)(hdn:dn.length≤900000)
 (mp:M2.get c1=some (ae 39 [.i .i64 j,.b nt,vi,vo,.b beh,vc])) (i1:bC vi=true) (o1:bC vo=true) (hvi:rP lo cs Ms vi w1) (hvo:rP lo cs Ms vo w2) (hca:Bs F lo cs Ms M2 (c1+1) c2 vc cl) (u:List (Option V)) (Q:Ex→St→Prop)
 (hQ:∀(u:List (Option V)) M' c' vl',RS F lo cs Ms bl M' c' M' c' bad ts→J3 lo cs bl c' M'→M'.get (cs+2)=some (ae 25 [vl'])→li F lo cs Ms M' (cs+3) c' vl' (dn++[⟨j,nt,w1,w2,beh,cl⟩])→(∀x,x<cs+3→x≠bl→x≠cs→x≠cs+2→M'.get x=M1.get x)→c1≤c'→Q .nrm (.mk ((iX u (sV s) (.p c 0) (.p bl 0) (.f 30 [] [.p bl 0]) (.p cs 0) (.p (cs+1) 0) (.f 32 [] [.p (cs+1) 0,.p cs 0]) (.p (cs+2) 0) (.i .i64 j) (.p c1 0))) [] M' c')):
 Wp Ce (K Φ none 10 F) (.mk ((iX u (sV s) (.p c 0) (.p bl 0) (.f 30 [] [.p bl 0]) (.p cs 0) (.p (cs+1) 0) (.f 32 [] [.p (cs+1) 0,.p cs 0]) (.p (cs+2) 0) (.i .i64 j) (.p c1 0))) [] M2 c2) Q:=by
 have hx:=cx.h1;have hx2:=cx.h2;have hx3:=cx.h3
 have m9:M2.get (cs+2)=some (ae 25 [vl]):=(h.g.old _ (by omega) (by omega)).trans h9
 have l9:load1 F M2 (cs+2) 0=some vl:=au m9 0
 have ln:loadN F M2 c1 0 6=some [.i .i64 j,.b nt,vi,vo,.b beh,vc]:=aP mp 6 rfl
 obtain⟨v1,v2,v3⟩:=hca.one
 have hG:flatten (V.g [.i .i64 j,.b nt,vi,vo,.b beh,vc])=[.i .i64 j,.b nt,vi,vo,.b beh,vc]:=rfl
 have hall:=AD (j:=j) (nt:=nt) (beh:=beh) i1 o1 v1
 have gZ:=(Gr.refl h.ok).set c2 (cL [.i .i64 0,.b false,.l0,.l0,.b false,.l0] 39 [.i .i64 j,.b nt,vi,vo,.b beh,vc]) (aj _) (ay _) (aJ _)
 have okZ:=gZ.ok h.ok
 have hRZ:=h.grow cx.h1 cx.h2 (by omega) gZ
 have hys:cE F (M2.set c2 (cL [.i .i64 0,.b false,.l0,.l0,.b false,.l0] 39 [.i .i64 j,.b nt,vi,vo,.b beh,vc])) (c2+1) 6 (.l c2 0 1 1) [[.i .i64 j,.b nt,vi,vo,.b beh,vc]]:=II (d:=[.i .i64 0,.b false,.l0,.l0,.b false,.l0]) (ty:=39) (by rw[am];rfl) (ay _) (fun e he=>by rw[List.mem_singleton]at he;subst he;rfl) rfl
 have hPO:rO lo cs Ms M2 c1 c2 fun M'=>J5 F c1 M' c2 [.i .i64 j,.b nt,vi,vo,.b beh,vc] ⟨j,nt,w1,w2,beh,cl⟩:=by
  intro M' hB hM;refine⟨vi,vo,vc,rfl,(hvi F M' hB).upc (by omega),(hvo F M' hB).upc (by omega),?_⟩;exact(hca.own M' hB fun x a1 a2=>hM x (by omega) a2).up (by omega) (aj _)
 have hL2:li F lo cs Ms M2 (cs+3) c1 vl dn:=hL.keep (aj _) fun x a1 a2=>h.g.old x a2 (by omega)
 obtain⟨b,es,hA,q1,q2,q3⟩:=hL2
 obtain⟨b1,hA1,hb1⟩:∃b1,aX (M2.set c2 (cL [.i .i64 0,.b false,.l0,.l0,.b false,.l0] 39 [.i .i64 j,.b nt,vi,vo,.b beh,vc])) (cs+3) (c2+1) b1 39 6 vl es∧((b1=b∧cs+3≤b∧b<c1∧M2.get b=some (pC 39 es.flatten))∨(es=[]∧c2+1≤b1)):=by
  rcases hA with⟨a0,⟨a1,a2⟩|⟨a1,a2,a3,a4⟩⟩
  ·exact⟨c2+1,⟨a0,.inl ⟨a1,a2⟩⟩,.inr ⟨a1,aj _⟩⟩
  ·exact⟨b,⟨a0,.inr ⟨a1,by omega,a3,by rw[ak _ _ (by omega)];exact a4⟩⟩,.inl ⟨rfl,a1,a2,a4⟩⟩
 have gA:Gr (cs+3) M2 (c2+1) (M2.set c2 (cL [.i .i64 0,.b false,.l0,.l0,.b false,.l0] 39 [.i .i64 j,.b nt,vi,vo,.b beh,vc])):=⟨by omega,fun x hx=>gZ.old x (by omega),gZ.new⟩
 simp only[WX,Nat.reduceAdd,ng,l9,ln,hG,i1,o1,v1,Bool.and_self,aB]
 refine az ((fO (bytes:=96) hA1 gA (by decide) hys (by show aK [.i .i64 j,.b nt,vi,vo,.b beh,vc]=true;exact hall) (eP (by simp only[aA,aM];omega) (by simp only[aA,aM];omega))).mono ?_)
 rintro vl' M3 c3 ⟨b',hA3,g3,hle3,hfr,hb'⟩
 have w3:bC vl'=true∧flatten vl'=[vl']∧aK [vl']=true:=by
  rcases hA3 with⟨_,⟨_,rfl⟩|⟨_,_,rfl,_⟩⟩<;>exact⟨rfl,rfl,rfl⟩
 obtain⟨k1,k2,k3⟩:=w3
 have m93:M3.get (cs+2)=some (ae 25 [vl]):=(g3.old _ (by omega)).trans m9
 have st:=aC m93 0 [vl'] (by simp) k3
 simp only[WX,k2,st]
 have OLD:∀x,x<c2→x≠cs+2→x≠b1→(M3.set (cs+2) (ae 25 [vl'])).get x=M2.get x:=fun x a1 a2 a3=>by
  rw[ak _ _ a2,hfr x (by omega) a3];exact gZ.old x a1
 have gF:eW (fun x=>x=cs+2∨x=b1) c2 M2 c3 (M3.set (cs+2) (ae 25 [vl'])):=⟨by omega,fun x a1 a2=>OLD x a1 (fun e=>a2 (.inl e)) (fun e=>a2 (.inr e)),fun x hx=>by rw[ak _ _ (by omega)];exact g3.new x hx⟩
 have hb1c:b1<c2→cs+3≤b1∧b1<c1:=by
  intro hlt;rcases hb1 with⟨rfl,a1,a2,_⟩|⟨_,a2⟩<;>omega
 have okF:cR F (M3.set (cs+2) (ae 25 [vl'])) c3:=gF.ok h.ok fun x a e=>by
  rcases e with rfl|rfl
  ·exact⟨_,m9⟩
  ·rcases hb1 with⟨rfl,_,_,hm⟩|⟨_,a2⟩
   ·exact⟨_,hm⟩
   ·omega
 obtain⟨v,hv,ht⟩:=h.tk
 have hble:b1<c2∨c2≤b1:=by omega
 have NB:∀x,x<cs+3→x≠b1:=fun x a e=>by
  rcases hble with hb|hb
  ·have:=hb1c hb;omega
  ·omega
 refine hQ (G1 (X1 (G1 (X1 (G8 (bf (bA (br (X2 (X1 [])))))))))) _ _ vl' ⟨eW.of (Gr.refl okF),okF,⟨v,(OLD bl (by omega) (by omega) (NB _ (by omega))).trans hv,ht⟩,(OLD cs (by omega) (by omega) (NB _ (by omega))).trans h.m6,fun x a1 a2=>(OLD x (by omega) (by omega) (NB _ (by omega))).trans (h.bk x a1 a2)⟩ ⟨cx.h1,cx.h2,by omega,(OLD _ (by omega) (by omega) (NB _ (by omega))).trans ((h.g.old _ (by omega) (by omega)).trans cx.m7)⟩ (am _ _ _) ?_ ?_ (by omega)
 ·refine⟨b',es++[[.i .i64 j,.b nt,vi,vo,.b beh,vc]],fL hA3 (by omega),by rw[aH,aH,q1];rfl,by rw[aH,List.length_singleton];omega,fun i hi hi'=>?_⟩;by_cases hie:i<es.length
  ·obtain⟨l,h2,e2,e3,e4,e5,e6⟩:=q3 i hie (by omega);have hb1':b1<l∨h2≤b1:=by
    rcases hb1 with⟨rfl,_,_⟩|⟨_,a2⟩<;>omega
   refine⟨l,h2,e2,e3,by omega,by omega,?_⟩;have:=e6.up (M2:=M3.set (cs+2) (ae 25 [vl'])) fun x a1 a2=>OLD x (by omega) (by omega) (by omega);rw[dC (by omega)];rw[dC (by omega)];exact this
  ·rw[aH]at hi;simp only[aA,aM]at hi;obtain rfl:i=es.length:=by omega
   have hb1':b1<c1∨c2≤b1:=by
    rcases hble with hb|hb
    ·have:=hb1c hb;omega
    ·omega
   refine⟨c1,c2,by omega,by omega,by omega,by omega,?_⟩;have:=hPO.up (M2:=M3.set (cs+2) (ae 25 [vl'])) fun x a1 a2=>OLD x (by omega) (by omega) (by omega);rw[dB (aj _)];rw[dB (by omega)];simp only[q1,Nat.sub_self,List.getElem_cons_zero];exact this
 ·exact fun x a1 a2 a3 a4=>(OLD x (by omega) a4 (NB x a1)).trans (h.g.old x (by omega) (by omega))
abbrev Gm(u:List (Option V))(x0 x2 x4 x5 x6 x7 x8 x9 x10:V):T:=(.n (.n (.n (.n (aq u 63 31 95 15 79 47 111) (some x7) (aq u 71 39 103 23 87 55 119)) (uO u 3) (.n (aq u 67 35 99 19 83 51 115) (uO u 11) (aq u 75 43 107 27 91 59 123))) (uO u 1) (.n (.n (aq u 65 33 97 17 81 49 113) (some x9) (aq u 73 41 105 25 89 57 121)) (some x5) (.n (aq u 69 37 101 21 85 53 117) (uO u 13) (aq u 77 45 109 29 93 61 125)))) (some x0) (.n (.n (.n (aq u 64 32 96 16 80 48 112) (some x8) (aq u 72 40 104 24 88 56 120)) (some x4) (.n (aq u 68 36 100 20 84 52 116) (uO u 12) (aq u 76 44 108 28 92 60 124))) (some x2) (.n (.n (aq u 66 34 98 18 82 50 114) (some x10) (aq u 74 42 106 26 90 58 122)) (some x6) (.n (aq u 70 38 102 22 86 54 118) (uO u 14) (aq u 78 46 110 30 94 62 126)))))
theorem Xq(ts:List T2):isS [] ts=none:=by
 cases ts with
 |nil=>rfl
 |cons t r=>rw[fR,ab (fun h=>h.2 rfl)]
theorem n36(Φ:Nat→Option CF)(h30:Φ 30=some VN)(h33:Φ 33=some VP){F:RO}{lo cs bl c c1 c2:Nat}{Ms M1 M2:Mem}{bad:Bool}{ts:List T2}{s:List UInt8}{j:Int}(cx:J3 lo cs bl c2 M2)(h:RS F lo cs Ms bl M2 c2 M2 c2 bad ts)(u:List (Option V))(Q:Ex→St→Prop)
 (hQ0:dU ts=none→ ∀(u:List (Option V)) M' c',RS F lo cs Ms bl M2 c2 M' c' bad ts→Q (.ext 0) (.mk ((Gm u (sV s) (.p c 0) (.p bl 0) (.f 30 [] [.p bl 0]) (.p cs 0) (.p (cs+1) 0) (.f 32 [] [.p (cs+1) 0,.p cs 0]) (.p (cs+2) 0) (.i .i64 j))) [] M' c'))
 (hQ1:∀n rs,dU ts=some (n,rs)→ ∀(u:List (Option V)) M' c',RS F lo cs Ms bl M2 c2 M' c' bad rs→Q (.ext 1) (.mk ((Gm u (sV s) (.p c 0) (.p bl 0) (.f 30 [] [.p bl 0]) (.p cs 0) (.p (cs+1) 0) (.f 32 [] [.p (cs+1) 0,.p cs 0]) (.p (cs+2) 0) (.i .i64 n))) [] M' c')):
 Wp Cf (K Φ none 10 F) (.mk ((iX u (sV s) (.p c 0) (.p bl 0) (.f 30 [] [.p bl 0]) (.p cs 0) (.p (cs+1) 0) (.f 32 [] [.p (cs+1) 0,.p cs 0]) (.p (cs+2) 0) (.i .i64 j) (.p c1 0))) [] M2 c2) Q:=by
 have hx:=cx.h1;have hx2:=cx.h2;have hx3:=cx.h3
 simp only[WX,ng]
 refine az ((w33 Φ h33 h.ok).mono ?_)
 rintro r M3 c3 ⟨rfl,g3⟩
 have hR:=h.grow hx hx2 (by omega) g3
 have i0:rt 4 1 SE (.i .i64 0)=some (sV []):=by unfold SE;rw[qi];rfl
 have i1:rt 4 1 SE (.i .i64 1)=some (sV [59]):=by unfold SE;rw[qi];rfl
 have i2:rt 4 1 SE (.i .i64 2)=some (sV [38,38]):=by unfold SE;rw[qi];rfl
 have i3:rt 4 1 SE (.i .i64 3)=some (sV [124,124]):=by unfold SE;rw[qi];rfl
 have q0:cB .add (.i .i64 0) (.i .i64 1)=some (.i .i64 1):=by rw[be _ _ (by decide) (by decide)];rfl
 have q1:cB .add (.i .i64 1) (.i .i64 1)=some (.i .i64 2):=by rw[be _ _ (by decide) (by decide)];rfl
 have q2:cB .add (.i .i64 2) (.i .i64 1)=some (.i .i64 3):=by rw[be _ _ (by decide) (by decide)];rfl
 have q3:cB .add (.i .i64 3) (.i .i64 1)=some (.i .i64 4):=by rw[be _ _ (by decide) (by decide)];rfl
 simp only[WX]
 rw[iC]
 simp only[WX,Int.reduceLT,ng,i0]
 refine az ((Xp Φ h30 hR hx hx2 (by omega) []).mono ?_)
 rintro r M4 c4 ⟨rfl,_,⟨rs,e1,_⟩|⟨_,rfl,hR⟩⟩
 ·rw[Xq]at e1;cases e1
 simp only[WX,ng,q0]
 rw[iC]
 simp only[WX,Int.reduceLT,ng,i1]
 refine az ((Xp Φ h30 hR hx hx2 (by omega) [59]).mono ?_)
 rintro r M5 c5 ⟨rfl,_,⟨rs,e1,rfl,hR⟩|⟨e1,rfl,hR⟩⟩
 ·simp only[WX,Nat.reduceEqDiff,ng];exact hQ1 1 rs (by unfold dU;rw[e1]) (G1 (X1 (G1 (X1 (G4 (G2 (G1 (bf (bA (br (X4 []))))))))))) _ _ hR
 simp only[WX,ng,q1]
 rw[iC]
 simp only[WX,Int.reduceLT,ng,i2]
 refine az ((Xp Φ h30 hR hx hx2 (by omega) [38,38]).mono ?_)
 rintro r M6 c6 ⟨rfl,_,⟨rs,e2,rfl,hR⟩|⟨e2,rfl,hR⟩⟩
 ·simp only[WX,Nat.reduceEqDiff,ng];exact hQ1 2 rs (by unfold dU;rw[e1,e2]) (G1 (X1 (G1 (X1 (G4 (G2 (G1 (bf (bA (br (X4 []))))))))))) _ _ hR
 simp only[WX,ng,q2]
 rw[iC]
 simp only[WX,Int.reduceLT,ng,i3]
 refine az ((Xp Φ h30 hR hx hx2 (by omega) [124,124]).mono ?_)
 rintro r M7 c7 ⟨rfl,_,⟨rs,e3,rfl,hR⟩|⟨e3,rfl,hR⟩⟩
 ·simp only[WX,Nat.reduceEqDiff,ng];exact hQ1 3 rs (by unfold dU;rw[e1,e2,e3]) (G1 (X1 (G1 (X1 (G4 (G2 (G1 (bf (bA (br (X4 []))))))))))) _ _ hR
 simp only[WX,ng,q3]
 rw[iC]
 simp only[WX,Int.reduceLT,ng]
 exact hQ0 (by unfold dU;rw[e1,e2,e3]) (G1 (X1 (G1 (X1 (G4 (G2 (G1 (bf (bA (br (X4 []))))))))))) _ _ hR
def LnF(F:RO)(lo c:Nat)(M:Mem)(v:V)(l:List fD):Prop:=∀M':Mem,(∀x,lo≤x→x<c→M'.get x=M.get x)→J4 F lo M' c v l
theorem km{F:RO}{lo c:Nat}{M:Mem}:LnF F lo c M .l0 []:=fun M' _=>⟨⟨[],⟨fun e he=>(by cases he),.inl ⟨rfl,.inl rfl⟩⟩,rfl,aD _,fun i h=>(by cases h)⟩,.inl ⟨rfl,rfl⟩⟩
def scF(_ _:Nat)(_:St):Prop:=False
theorem J4.up{F:RO}{lo lo':Nat}{M:Mem}{c c':Nat}{v:V}{l:List fD}(h:J4 F lo M c v l)(hl:lo'≤lo)(hc:c≤c'):J4 F lo' M c' v l:=⟨cQ.imp h.1 hc (J5.up hl hc),h.2.up hl hc⟩
def VL(F:RO)(s:List UInt8)(M:Mem)(c:Nat)(r:V)(M':Mem)(c':Nat):Prop:=∃v,r= .t [.g [v],.i .i64 (po s).2]∧LnF F c c' M' v (po s).1∧Gr c M c' M'
theorem ci0(Φ:Nat→Option CF)(h17:Φ 17=some c17)(h40:Φ 40=some c40)(h63:Φ 63=some Wu)(h62:Φ 62=some Ho)(h80:Φ 80=some RJ)(h81:Φ 81=some RK)(h82:Φ 82=some VT)(h90:Φ 90=some RL)(h83:Φ 83=some J8)(h61:Φ 61=some Hn)(h39:Φ 39=some c39)(h33:Φ 33=some VP)(h57:Φ 57=some zL)(h58:Φ 58=some Wt)(h59:Φ 59=some Fb)(h60:Φ 60=some J7)(h79:Φ 79=some Wx)(h89:Φ 89=some VU)(h77:Φ 77=some (.orc (aG h77)))(h52:Φ 52=some BA)(h54:Φ 54=some BB)(h71:Φ 71=some zg){F:RO}{cs c c1:Nat}{Ms M M1:Mem}{bad:Bool}{tr:List T2}{s:List UInt8}{j:Int}{vl:V}{dn:List fD}(h:RS F (c+2) cs Ms (c+1) M1 c1 M1 c1 bad tr)(h2:c+2≤cs)(h3:cs+3≤c1)(m9:M1.get (cs+2)=some (ae 25 [vl]))(hL:li F (c+2) cs Ms M1 (cs+3) c1 vl dn)(mc:M1.get c=some (ae 25 [.l0]))(old:∀x,x<c→M1.get x=M.get x)
 (hlen:¬4096<s.length) (hto:uA s=true) (hLA:dv 0 (cD s)=(dn,bad,tr)) (hS:∀p∈dn,GQ p) (hz:dL (qP dn)≤1000000) (u:List (Option V)):
 Wp xA (K Φ none 10 F) (.mk ((Gm u (sV s) (.p c 0) (.p (c+1) 0) (.f 30 [] [.p (c+1) 0]) (.p cs 0) (.p (cs+1) 0) (.f 32 [] [.p (cs+1) 0,.p cs 0]) (.p (cs+2) 0) (.i .i64 j))) [] M1 c1) (eg xB (K Φ none 10 F) (eg (.seq xC .ret) (K Φ none 10 F) (kF scF 0 (j6 F [.cn (.r .h) 1,.t (.l (.l .h))] fun r M' c'=>VL F s M c r M' c')))):=by
 have hprs:po s=if(bad||(decide (0<tr.length)|| !D7 dn))=true then([],4)else(dn,0):=by
  unfold po;rw[ab hlen,ab (by rw[hto];simp),hLA]
 have l6:load1 F M1 cs 0=some (.b bad):=au h.m6 0
 have stc:=aC mc 0 [V.l0] (by simp) rfl
 have hovc:over [V.l0] 0 [V.l0]=[V.l0]:=rfl
 rw[hovc,←cq mc]at stc
 have lc:loadN F M1 c 0 1=some [V.l0]:=aP mc 1 rfl
 have hG:∀v,flatten (V.g [v])=[v]:=fun _=>rfl
 have ERR:∀M' c',Gr c1 M1 c' M'→po s=([],4)→VL F s M c (.t [.g [.l0],.i .i64 4]) M' c':=by
  intro M' c' g hp;have hle:=g.le;exact⟨.l0,by rw[hp],by rw[hp];exact km,by omega,fun x hx=>(g.old x (by omega)).trans (old x hx),g.new⟩
 cases bad with
 |true=>
  simp only[WX,ng,dZ,l6,hG,stc,lc];exact ERR _ _ (Gr.refl h.ok) (by rw[hprs];rfl)
 |false=>
  obtain⟨v,hv,ht⟩:=h.tk;have lv:load1 F M1 (c+1) 0=some v:=au hv 0;have nt:=ht.len;cases hd:decide (0<tr.length)with
  |true=>
   have d0:decide ((0:Int)<(tr.length:Int))=true:=ah (by have:=bW hd;omega);simp only[WX,ng,dZ,l6,lv,nt,d0,hG,stc,lc];exact ERR _ _ (Gr.refl h.ok) (by rw[hprs,hd];rfl)
  |false=>
   have d0:decide ((0:Int)<(tr.length:Int))=false:=af (by have:=of_decide_eq_false hd;omega);have l9:loadN F M1 (cs+2) 0 1=some [vl]:=aP m9 1 rfl;have hLT:=hL.own M1 h.bk fun _ _ _=>rfl;simp only[WX,ng,l6,lv,nt,d0,l9];refine az ((w17 Φ h17 h40 h63 h62 h80 h81 h82 h90 h83 h61 h39 h33 h57 h58 h59 h60 h79 h89 h77 h52 h54 h71 h.ok hLT.ln hS hz).mono ?_);rintro r M2 c2 ⟨rfl,g2⟩;have hle2:=g2.le;have ok2:=g2.ok h.ok;cases hk:D7 dn with
   |false=>
    have e2:VV false= .i .i64 2:=rfl;have d2:decide (¬((2:Int)=0))=true:=rfl;have mc2:M2.get c=some (ae 25 [.l0]):=(g2.old c (by omega)).trans mc;have stc:=aC mc2 0 [V.l0] (by simp) rfl;rw[hovc,←cq mc2]at stc;have lc:loadN F M2 c 0 1=some [V.l0]:=aP mc2 1 rfl;simp only[WX,ng,dZ,e2,d2,hG,stc,lc];exact ERR _ _ g2 (by rw[hprs,hd,hk];rfl)
   |true=>
    have e2:VV true= .i .i64 0:=rfl;have d2:decide (¬((0:Int)=0))=false:=rfl;have mc2:M2.get c=some (ae 25 [.l0]):=(g2.old c (by omega)).trans mc;obtain⟨y1,y2,y3⟩:=hLT.ln.one;have stc:=aC mc2 0 [vl] (by simp) y3;have l92:loadN F M2 (cs+2) 0 1=some [vl]:=(g2.loadN (by omega) _ _).trans l9;have hov:over [V.l0] 0 [vl]=[vl]:=rfl;rw[hov]at stc;have lc:loadN F (M2.set c (ae 25 [vl])) c 0 1=some [vl]:=aP (am _ _ _) 1 rfl;simp only[WX,ng,dZ,e2,d2,hG,l92,stc,lc];have hp:po s=(dn,0):=by rw[hprs,hd,hk];rfl
    refine⟨vl,by rw[hp],?_,by omega,fun x hx=>by rw[ak _ _ (by omega)];exact(g2.old x (by omega)).trans (old x hx),fun x hx=>by rw[ak _ _ (by omega)];exact g2.new x hx⟩;rw[hp];intro M' hM';have hA:∀x,c<x→x<c1→M'.get x=M1.get x:=fun x a1 a2=>(hM' x (by omega) (by omega)).trans ((ak _ _ (by omega)).trans (g2.old x a2));exact(hL.own M' (fun x a1 a2=>(hA x (by omega) (by omega)).trans (h.bk x a1 a2)) fun x a1 a2=>hA x (by omega) a2).up (by omega) hle2
theorem r10(Φ:Nat→Option CF)(h:Φ 10=some c10)(h28:Φ 28=some c28)(h56:Φ 56=some c56)(h55:Φ 55=some (.orc (aG h55)))(h73:Φ 73=some (.orc (aG h73)))(h75:Φ 75=some (.orc (aG h75)))(h76:Φ 76=some (.orc (aG h88)))(h74:Φ 74=some Ww)(h29:Φ 29=some c29)(h30:Φ 30=some VN)(h31:Φ 31=some Hm)(h32:Φ 32=some Ws)(h17:Φ 17=some c17)(h40:Φ 40=some c40)(h63:Φ 63=some Wu)(h62:Φ 62=some Ho)(h80:Φ 80=some RJ)(h81:Φ 81=some RK)(h82:Φ 82=some VT)(h90:Φ 90=some RL)(h83:Φ 83=some J8)(h61:Φ 61=some Hn)(h39:Φ 39=some c39)(h33:Φ 33=some VP)(h57:Φ 57=some zL)(h58:Φ 58=some Wt)(h59:Φ 59=some Fb)(h60:Φ 60=some J7)(h79:Φ 79=some Wx)(h89:Φ 89=some VU)(h77:Φ 77=some (.orc (aG h77)))(h52:Φ 52=some BA)(h54:Φ 54=some BB)(h71:Φ 71=some zg){F:RO}{M:Mem}{c:Nat}(ok:cR F M c)(s:List UInt8)
 (hPB:s.length≤4096→(∀p∈(dv 0 (cD s)).1,GQ p)∧dL (qP (dv 0 (cD s)).1)≤1000000):
 Calls Φ F 10 [sV s] M c fun r M' c'=>VL F s M c r M' c':=by
 refine aN h ?_
 have hG:∀v,flatten (V.g [v])=[v]:=fun _=>rfl
 have g1:=(Gr.refl ok).set c (ae 25 [.l0]) (aj _) (ay _) (aJ _)
 simp only[WX,ng]
 refine wV scF (fun n l s h=>h.elim) 0 _ _ ?_
 by_cases hlen:4096<s.length
 ·have d1:decide ((4096:Int)<(s.length:Int))=true:=ah (by omega);have mc:=am M c (ae 25 [.l0]);have stc:=aC mc 0 [V.l0] (by simp) rfl;have hovc:over [V.l0] 0 [V.l0]=[V.l0]:=rfl;rw[hovc,←cq mc]at stc;have lc:loadN F (M.set c (ae 25 [.l0])) c 0 1=some [V.l0]:=aP mc 1 rfl;simp only[WX,ng,dZ,d1,hG,stc,lc];have hp:po s=([],3):=by unfold po;rw[ac hlen]
  exact⟨.l0,by rw[hp],by rw[hp];exact km,g1⟩
 obtain⟨hPS,hPZ⟩:=hPB (by omega)
 have d1:decide ((4096:Int)<(s.length:Int))=false:=af (by omega)
 have g2:Gr c M (c+2) ((M.set c (ae 25 [.l0])).set (c+1) (ae 71 [.l0])):=g1.set (c+1) _ (by omega) (by omega) (by omega)
 have mc2:((M.set c (ae 25 [.l0])).set (c+1) (ae 71 [.l0])).get c=some (ae 25 [.l0]):=(ak _ _ (by omega)).trans (am _ _ _)
 have mb2:((M.set c (ae 25 [.l0])).set (c+1) (ae 71 [.l0])).get (c+1)=some (ae 71 [.l0]):=am _ _ _
 simp only[WX,Nat.reduceAdd,ng,d1]
 generalize(M.set c (ae 25 [.l0])).set (c+1) (ae 71 [.l0])=X at g2 mc2 mb2⊢
 have okX:=g2.ok ok
 have hTl:(cD s).length=(tk s 0).length:=List.length_map ..
 have htl:=Ud s 0
 refine az ((cq6 Φ h28 h56 h55 h73 h75 h76 h77 h74 (s:=s) (by omega) (I:=GR F (cD s) (c+2) X (c+1)) (J:=fun _ _=>False) (GR.start okX mb2) (fun k N1 n1 hI=>⟨hI.1,hI.2.1.le⟩) (fun k N1 n1 N2 n2 hI g=>GR.grow (by omega) hI g) ?_).mono ?_)
 ·intro k N1 n1 pv b hk hI hp hA;have hk':k<(cD s).length:=by omega
  have e:(cD s)[k]=(tk s 0)[k].2:=by simp[cD]
  have hpl:(cD s)[k].2.length≤ST:=by
   rw[e];have:=uz (s.length+1) s 0 (tk s 0)[k] (List.getElem_mem _);show _≤9223372036854775807;omega
  have hh:=w29 Φ h29 (F:=F) (tl:=cD s) (at_:=(tk s 0)[k].1) (show c+1<c+2 by omega) hI hk' (by omega) hp hpl (by rw[e];exact hA);rw[e]at hh;exact hh.mono fun r M' c' hr=> .inl hr
 ·intro r M2 cs hor;obtain⟨rfl,hI⟩:=hor.resolve_right fun h=>h.2;rw[←hTl]at hI;have hOk2:=hI.1;have hgx:=hI.2.1;have hle:=hgx.le;have mc3:M2.get c=some (ae 25 [.l0]):=(hgx.old c (by omega) (by omega)).trans mc2;have old3:∀x,x<c→M2.get x=M.get x:=fun x hx=>(hgx.old x (by omega) (by omega)).trans (g2.old x hx);have new3:=hgx.new;cases hto:uA s with
  |false=>
   have stc:=aC mc3 0 [V.l0] (by simp) rfl;have hovc:over [V.l0] 0 [V.l0]=[V.l0]:=rfl;rw[hovc,←cq mc3]at stc;have lc:loadN F M2 c 0 1=some [V.l0]:=aP mc3 1 rfl;simp only[WX,ng,dZ,hG,stc,lc];have hp:po s=([],4):=by unfold po;rw[ab hlen,ac hto]
   exact⟨.l0,by rw[hp],by rw[hp];exact km,by omega,old3,new3⟩
  |true=>
   obtain⟨v,hv,ht⟩:=GR.done (by omega) hI (by omega);have s6:bR (M2.set cs (ae 4 [.b false])) cs 0 [.b false]=some (M2.set cs (ae 4 [.b false])):=dI rfl rfl;have s7:bR ((M2.set cs (ae 4 [.b false])).set (cs+1) (ae 74 [.f0])) (cs+1) 0 [.f 31 [] [.p (c+1) 0]]=some ((M2.set cs (ae 4 [.b false])).set (cs+1) (ae 74 [.f 31 [] [.p (c+1) 0]])):=dI rfl rfl;have hfn:∀a b c,flatten (V.f a b c)=[V.f a b c]:=fun _ _ _=>rfl;simp only[WX,Nat.reduceAdd,ng,s6,s7,hfn];have gY:Gr cs M2 (cs+3) (((M2.set cs (ae 4 [.b false])).set (cs+1) (ae 74 [.f 31 [] [.p (c+1) 0]])).set (cs+2) (ae 25 [.l0])):=(((Gr.refl hOk2).set cs _ (aj _) (ay _) (aJ _)).set (cs+1) _ (by omega) (show cs+1<cs+2 by omega) (by omega)).set (cs+2) _ (by omega) (by omega) (by omega);have y6:(((M2.set cs (ae 4 [.b false])).set (cs+1) (ae 74 [.f 31 [] [.p (c+1) 0]])).set (cs+2) (ae 25 [.l0])).get cs=some (ae 4 [.b false]):=(ak _ _ (by omega)).trans ((ak _ _ (by omega)).trans (am _ _ _));have y7:(((M2.set cs (ae 4 [.b false])).set (cs+1) (ae 74 [.f 31 [] [.p (c+1) 0]])).set (cs+2) (ae 25 [.l0])).get (cs+1)=some (ae 74 [.f 31 [] [.p (c+1) 0]]):=(ak _ _ (by omega)).trans (am _ _ _);have y9:(((M2.set cs (ae 4 [.b false])).set (cs+1) (ae 74 [.f 31 [] [.p (c+1) 0]])).set (cs+2) (ae 25 [.l0])).get (cs+2)=some (ae 25 [.l0]):=am _ _ _;generalize((M2.set cs (ae 4 [.b false])).set (cs+1) (ae 74 [.f 31 [] [.p (c+1) 0]])).set (cs+2) (ae 25 [.l0])=Y at gY y6 y7 y9⊢;have okY:=gY.ok hOk2;have hRY:RS F (c+2) cs M2 (c+1) Y (cs+3) Y (cs+3) false (cD s):=⟨eW.of (Gr.refl okY),okY,⟨v,(gY.old _ (by omega)).trans hv,ht⟩,y6,fun x a b=>gY.old x b⟩
   have mcY:=(gY.old c (by omega)).trans mc3;have oldY:∀x,x<c→Y.get x=M.get x:=fun x hx=>(gY.old x (by omega)).trans (old3 x hx);obtain⟨I,hI⟩:∃I:Nat→St→Prop,∀n s',I n s'↔(∃(c1:Nat) (M1:Mem) (tr:List T2) (j:Int) (bad:Bool) (dn:List fD) (vl:V) (u:List (Option V)),n=tr.length∧s'= .mk ((Gm u (sV s) (.p c 0) (.p (c+1) 0) (.f 30 [] [.p (c+1) 0]) (.p cs 0) (.p (cs+1) 0) (.f 32 [] [.p (cs+1) 0,.p cs 0]) (.p (cs+2) 0) (.i .i64 j))) [] M1 c1∧RS F (c+2) cs M2 (c+1) M1 c1 M1 c1 bad tr∧J3 (c+2) cs (c+1) c1 M1∧M1.get (cs+2)=some (ae 25 [vl])∧li F (c+2) cs M2 M1 (cs+3) c1 vl dn∧dn.length+tr.length≤500000∧tr.length≤s.length∧M1.get c=some (ae 25 [.l0])∧(∀x,x<c→M1.get x=M.get x)∧dv 0 (cD s)=(dn++(dv j tr).1,bad||(dv j tr).2.1,(dv j tr).2.2)):=⟨fun n s'=>_,fun _ _=>Iff.rfl⟩
   refine bw I ?_ (cD s).length _ ((hI _ _).2 ⟨_,_,_,0,false,[],.l0,(G1 (X1 (G1 (X1 (G4 (G2 (G1 (bf (bA (br (X4 []))))))))))),rfl,rfl,hRY,⟨by omega,by omega,aj _,y7⟩,y9,⟨0,[],aX.nil,rfl,aD _,fun i h=>(by cases h)⟩,by simp only[aM];omega,by omega,mcY,oldY,by simp⟩);intro n s' hIs;obtain⟨c1,M1,tr,j,bad,dn,vl,u,rfl,rfl,hR,cx,m9,hL,hdl,htl2,mc1,old1,hLA⟩:=(hI _ _).1 hIs;clear hIs;have hx:=cx.h1;have hx2:=cx.h2;have hx3:=cx.h3;have c33':V.s 1 33=sV [33]:=rfl;simp only[WX,ng];rw[c33'];refine az ((Xp Φ h30 hR hx hx2 (by omega) [33]).mono ?_)
   have STEP:∀(nt:Bool) (ts1:List T2) (M3:Mem) (u:List (Option V)),jM tr=(nt,ts1)→RS F (c+2) cs M2 (c+1) M1 c1 M3 (c1+1) bad ts1→M3.get c1=some (ae 39 [.i .i64 j,.b nt,.l0,.l0,.b false,.l0])→ts1.length≤tr.length→
    Wp xu (K Φ none 10 F) (.mk ((iX u (sV s) (.p c 0) (.p (c+1) 0) (.f 30 [] [.p (c+1) 0]) (.p cs 0) (.p (cs+1) 0) (.f 32 [] [.p (cs+1) 0,.p cs 0]) (.p (cs+2) 0) (.i .i64 j) (.p c1 0))) [] M3 (c1+1)) (eg (xz.seq Cg) (K Φ none 10 F) (d8 1 (gW I tr.length (d8 0 (eg ((xA.seq xB).seq (xC.seq .ret)) (K Φ none 10 F) (kF scF 0 (j6 F [.cn (.r .h) 1,.t (.l (.l .h))] fun r M' c'=>VL F s M c r M' c'))))))):=by
    intro nt ts1 M3 u hnt hR3 mp3 hl1;have hp:cP j tr=(⟨j,nt,(cA (bI ts1).2).1,(dm (cm (cA (bI ts1).2).2.2).2).2.1,(dm (cm (cA (bI ts1).2).2.2).2).1,(bI ts1).1::(cm (cA (bI ts1).2).2.2).1⟩,(cA (bI ts1).2).2.1||(dm (cm (cA (bI ts1).2).2.2).2).2.2.1,(dm (cm (cA (bI ts1).2).2.2).2).2.2.2):=by unfold cP;rw[hnt]
    have hl2:=gK ts1;have hl3:=tS (bI ts1).2;have hl4:=mY j tr;refine n15 Φ h31 cx hR3 (ay _) (by omega) (by omega) mp3 u _ ?_;intro u M4 c4 vc hR4 hca4 mp4 hle4;simp only[WX];refine n18 Φ h30 h31 h32 cx hR4 (by omega) mp4 (G1 (X1 (G1 (X1 (G8 (bf (bA (br (X2 (X1 [])))))))))) _ ?_;intro u M5 c5 vi hR5 i1 hvi mp5 hle5 hf5;simp only[WX,Ui];refine n21 Φ h30 h31 cx hR5 (by omega) (by omega) (by omega) i1 mp5 (hca4.keep hle5 fun x a b=>hf5 x (by omega) b) (by simp only[aA,aM];omega) (G1 (X1 (G1 (X1 (G8 (bf (bA (br (X2 (X1 [])))))))))) _ ?_;intro u M6 c6 vc6 hR6 hca6 mp6 hle6;simp only[WX,Nat.reduceEqDiff,reduceCtorEq,Uj,ou];refine n22 Φ h30 h31 h32 cx hR6 (by omega) mp6 (G1 (X1 (G1 (X1 (G8 (bf (bA (br (X2 (X1 [])))))))))) _ ?_;intro u M7 c7 vo hR7 o1 hvo mp7 hle7 hf7;simp only[WX];refine n26 Φ cx hR7 (by omega) m9 hL (by omega) mp7 i1 o1 hvi hvo (hca6.keep hle7 fun x a b=>hf7 x (by omega) b) (G1 (X1 (G1 (X1 (G8 (bf (bA (br (X2 (X1 [])))))))))) _ ?_;intro u M8 c8 vl8 hR8 cx8 m98 hL8 hold8 hle8;have mc8:M8.get c=some (ae 25 [.l0]):=(hold8 c (by omega) (by omega) (by omega) (by omega)).trans mc1;have old8:∀x,x<c→M8.get x=M.get x:=fun x hx=>(hold8 x (by omega) (by omega) (by omega) (by omega)).trans (old1 x hx);simp only[WX];have K9:∀(M9:Mem) (c9:Nat) (b9:Bool) (t9:List T2),RS F (c+2) cs M2 (c+1) M8 c8 M9 c9 b9 t9→RS F (c+2) cs M2 (c+1) M9 c9 M9 c9 b9 t9∧J3 (c+2) cs (c+1) c9 M9∧M9.get (cs+2)=some (ae 25 [vl8])∧li F (c+2) cs M2 M9 (cs+3) c9 vl8 (dn++[(cP j tr).1])∧M9.get c=some (ae 25 [.l0])∧(∀x,x<c→M9.get x=M.get x):=by
     intro M9 c9 b9 t9 hR9;have hle9:=hR9.g.le;refine⟨⟨eW.of (Gr.refl hR9.ok),hR9.ok,hR9.tk,hR9.m6,hR9.bk⟩,⟨by omega,by omega,by omega,(hR9.g.old _ (by omega) (by omega)).trans cx8.m7⟩,(hR9.g.old _ (by omega) (by omega)).trans m98,?_,(hR9.g.old _ (by omega) (by omega)).trans mc8,fun x hx=>(hR9.g.old _ (by omega) (by omega)).trans (old8 x hx)⟩;rw[hp];exact hL8.keep hle9 fun x a b=>hR9.g.old x b (by omega)
    refine n36 Φ h30 h33 (M1:=M8) cx8 hR8 (G1 (X1 (G1 (X1 (G8 (bf (bA (br (X2 (X1 [])))))))))) _ ?_ ?_
    ·intro hj u M9 c9 hR9;obtain⟨k1,k2,k3,k4,k5,k6⟩:=K9 _ _ _ _ hR9;have hj2:dU (cP j tr).2.2=none:=by rw[hp];exact hj
     have hLA':dv 0 (cD s)=(dn++[(cP j tr).1],(bad||(cA (bI ts1).2).2.1)||(dm (cm (cA (bI ts1).2).2.2).2).2.2.1,(dm (cm (cA (bI ts1).2).2.2).2).2.2.2):=by
      rw[hLA,o4 hj2,hp,Bool.or_assoc]
     rw[hLA']at hPS hPZ;simp only[WX,reduceCtorEq,ou];exact ci0 Φ h17 h40 h63 h62 h80 h81 h82 h90 h83 h61 h39 h33 h57 h58 h59 h60 h79 h89 h77 h52 h54 h71 k1 (by omega) k2.h3 k3 k4 k5 k6 hlen hto hLA' hPS hPZ (G1 (X1 (G1 (X1 (G4 (G2 (G1 (bf (bA (br (X4 [])))))))))))
    ·intro n rs hj u M9 c9 hR9;obtain⟨k1,k2,k3,k4,k5,k6⟩:=K9 _ _ _ _ hR9;have hj2:dU (cP j tr).2.2=some (n,rs):=by rw[hp];exact hj
     have hjl:=mV hj2;simp only[WX,reduceCtorEq,ng,ou];exact⟨rs.length,by omega,(hI _ _).2 ⟨c9,M9,rs,n,_,dn++[(cP j tr).1],vl8,(G1 (X1 (G1 (X1 (G4 (G2 (G1 (bf (bA (br (X4 []))))))))))),rfl,rfl,k1,k2,k3,k4,by rw[aH,List.length_singleton];omega,by omega,k5,k6,by rw[hLA,o5 hj2,hp];simp only[aT,List.singleton_append,Bool.or_assoc]⟩⟩
   have hG6:∀b:Bool,flatten (V.g [.i .i64 j,.b b,.l0,.l0,.b false,.l0])=[.i .i64 j,.b b,.l0,.l0,.b false,.l0]:=fun _=>rfl;have ALL:∀(b:Bool) (M3:Mem) (ts1:List T2),RS F (c+2) cs M2 (c+1) M1 c1 M3 c1 bad ts1→bR (M3.set c1 (ae 39 [.i .i64 0,.b false,.l0,.l0,.b false,.l0])) c1 0 [.i .i64 j,.b b,.l0,.l0,.b false,.l0]=some (M3.set c1 (ae 39 [.i .i64 j,.b b,.l0,.l0,.b false,.l0]))∧RS F (c+2) cs M2 (c+1) M1 c1 (M3.set c1 (ae 39 [.i .i64 j,.b b,.l0,.l0,.b false,.l0])) (c1+1) bad ts1:=fun b M3 ts1 hR3=>⟨dI rfl rfl,hR3.grow hx hx2 (by omega) ((Gr.refl hR3.ok).set c1 _ (aj _) (ay _) (aJ _))⟩;rintro r M3 c3 ⟨rfl,hf,⟨rs,e1,rfl,hR3⟩|⟨e1,rfl,hR3⟩⟩
   ·obtain⟨sn,hR4⟩:=ALL true M3 rs hR3;have hl:=dK e1;simp only[WX,Nat.reduceAdd,Nat.reduceLeDiff,hG6,sn];exact STEP true rs _ (G1 (X1 (G1 (X1 (G8 (bf (bA (br (X2 (X1 [])))))))))) (by unfold jM;rw[e1]) hR4 (am _ _ _) (by omega)
   ·obtain⟨sn,hR4⟩:=ALL false M3 tr hR3;simp only[WX,Nat.reduceAdd,Nat.reduceLeDiff,hG6,sn];exact STEP false tr _ (G1 (X1 (G1 (X1 (G8 (bf (bA (br (X2 (X1 [])))))))))) (by unfold jM;rw[e1]) hR4 (am _ _ _) (aj _)
def qM:List Pc→Nat
 |[]=>0
 |p::r=>p.1.length+2+qM r
theorem sI(a b:List Pc):qM (a++b)=qM a+qM b:=by
 induction a with
 |nil=>simp[qM]
 |cons p r ih=>show p.1.length+2+qM (r++b)=_;rw[ih];simp only[qM];omega
theorem Yj(w:List Pc):w.length≤qM w:=by
 induction w with
 |nil=>exact aj _
 |cons p r ih=>simp only[qM,aA];omega
theorem Yk{w:List Pc}{q:Pc}(h:q∈w):q.1.length≤qM w:=by
 induction w with
 |nil=>cases h
 |cons p r ih=>
  rcases bq.1 h with rfl|h
  ·simp only[qM];omega
  ·have:=ih h;simp only[qM];omega
theorem aX7(p:Pc):(u9 p).length≤p.1.length+2:=by
 unfold u9
 split
 ·simp
 ·split
  ·omega
  ·simp
theorem Vn(w:List Pc):(d6 w).length≤qM w:=by
 induction w with
 |nil=>exact aj _
 |cons p r ih=>have:=aX7 p;simp only[d6,qM,aH];omega
theorem b00{r bs:List UInt8}{k:Nat}{b:Bool}(h:mr r=some (some (k,bs,b))):bs.length≤k+1:=by
 cases r with
 |nil=>cases h
 |cons c t=>
  rw[mr]at h;split at h
  ·cases h
  ·split at h
   ·split at h
    ·injection h with h;injection h with h;injection h with h1 h2;injection h2 with h2 h3
     subst h1 h2;rw[List.length_take];omega
    ·cases h
   ·split at h
    ·split at h
     ·injection h with h;injection h with h;injection h with h1 h2;injection h2 with h2 h3
      subst h1 h2;simp
     ·cases h
    ·split at h
     ·injection h with h;injection h with h;injection h with h1 h2;injection h2 with h2 h3
      subst h1 h2;simp
     ·cases h
theorem aH0{r bs:List UInt8}{k:Nat}{b:Bool}(h:mr r=some (some (k,bs,b))):k+1≤r.length:=by
 cases r with
 |nil=>cases h
 |cons c t=>
  rw[mr]at h;split at h
  ·cases h
  ·split at h
   ·split at h
    ·rename_i hq;injection h with h;injection h with h;injection h with h1 h2
     subst h1;rw[aA];have:qn t<t.length:=by
      apply Classical.byContradiction;intro hn;rw[List.drop_eq_nil_of_le (by omega)]at hq;cases hq
     omega
    ·cases h
   ·split at h
    ·split at h
     ·rename_i hq;injection h with h;injection h with h;injection h with h1 h2
      subst h1;rw[aA];cases t with
      |nil=>cases hq
      |cons a t=>rw[aA];omega
     ·cases h
    ·split at h
     ·injection h with h;injection h with h;injection h with h1 h2
      subst h1;rw[aA];omega
     ·cases h
theorem DX:∀(f:Nat) (r:List UInt8) (w:List Pc) (text:List UInt8) (sm:Bool) (n:Nat) (ps:List Pc) (m:Nat),BE f r w text sm n=some (ps,m)→m≤n+r.length
 |0,_,_,_,_,_,_,_,h=>by cases h
 |f+1,r,w,text,sm,n,ps,m,h=>by
  rw[BE]at h;split at h
  ·injection h with h;injection h with h1 h2;omega
  ·cases h
  ·rename_i k bs hs;have:=DX f _ _ _ _ _ _ _ h;have:=aH0 hs;rw[bu]at *;omega
  ·rename_i k bs hs;have:=DX f _ _ _ _ _ _ _ h;have:=aH0 hs;rw[bu]at *;omega
theorem DY:∀(f:Nat) (r:List UInt8) (w:List Pc) (text:List UInt8) (sm:Bool) (n:Nat) (ps:List Pc) (m:Nat),BE f r w text sm n=some (ps,m)→qM ps+4*n≤qM w+text.length+2+4*m
 |0,_,_,_,_,_,_,_,h=>by cases h
 |f+1,r,w,text,sm,n,ps,m,h=>by
  rw[BE]at h;split at h
  ·injection h with h;injection h with h1 h2
   subst h1 h2;unfold nK;split
   ·rw[sI];simp only[qM];omega
   ·omega
  ·cases h
  ·have:=DY f _ _ _ _ _ _ _ h;have e:qM (ji w text)≤qM w+text.length+4:=by
    unfold ji;split
    ·rw[sI,sI];simp only[qM,aM];omega
    ·rw[sI];simp only[qM,aM];omega
   simp only[aM]at this;omega
  ·rename_i k bs hs;have:=DY f _ _ _ _ _ _ _ h;have hb:=b00 hs;rw[aH]at this;omega
def iZ:List T2→Nat
 |[]=>0
 |t::r=>qM t.2+10+iZ r
theorem yN:∀(f:Nat) (r:List UInt8) (i:Nat),iZ ((AX f r i).map (·.2))≤16*r.length
 |0,_,_=>aD _
 |_+1,[],_=>aj _
 |f+1,x::t,i=>by
  unfold AX;split
  ·have:=yN f t (i+1);rw[aA];omega
  ·split
   ·rename_i hs;have h1:=ir hs;have h2:=yN f ((x::t).drop (cS (x::t)).length) (i+(cS (x::t)).length);have h3:=pH (x::t);rw[bu]at h2;rw[List.map_cons,iZ];simp only[qM];omega
   ·split
    ·exact aD _
    ·split
     ·exact aD _
     ·rename_i ps n h hn;have h1:=yN f ((x::t).drop n) (i+n);have h2:=DY _ _ _ _ _ _ _ _ h;rw[bu]at h1;rw[List.map_cons,iZ];simp only[qM,aM]at h2⊢;have h3:=DX _ _ _ _ _ _ _ _ h;omega
theorem jg{s:List UInt8}{ts r:List T2}(h:isS s ts=some r):iZ r+10≤iZ ts:=by
 cases ts with
 |nil=>cases h
 |cons t q=>
  rw[fR]at h;split at h
  ·injection h with h;subst h;simp only[iZ];omega
  ·cases h
theorem uJ:∀(m:Nat) (ts:List T2),dL ((eT m ts).1.map d6)+iZ (eT m ts).2≤iZ ts∧ ∀k,(gL k (eT m ts).1).length+iZ (eT m ts).2≤iZ ts
 |0,ts=>⟨by simp[eT,dL],fun k=>by simp[eT,gL]⟩
 |_+1,[]=>⟨aj _,fun k=>aj _⟩
 |m+1,t::r=>by
  rw[eT];split
  ·obtain⟨h1,h2⟩:=uJ m r;have hw:=Vn t.2;refine⟨by simp only[List.map_cons,dL,iZ];omega,fun k=>?_⟩;have:=h2 (k+1);simp only[gL,iZ,aH];split<;>simp<;>omega
  ·exact⟨by simp[dL],fun k=>by simp[gL]⟩
def psz:List eB→Nat
 |[]=>0
 |c::r=>2+dL (c.map d6)+psz r
def DN:List eB→Nat
 |[]=>0
 |c::r=>3+(gL 0 c).length+DN r
theorem Fe(inp:List Pc):∀(k:Nat) (cl:List eB),0<k→dL (jp inp k cl)=psz cl∧(jF inp k cl).length=DN cl
 |_,[],_=>⟨rfl,rfl⟩
 |k,c::r,h=>by
  obtain⟨h1,h2⟩:=Fe inp (k+1) r (by omega);have hk:decide (k=0)=false:=af (by omega);constructor
  ·rw[jp,bZ,bZ,bZ,h1,ac h,hk,Bool.false_and,ab (by simp)];simp only[dL,psz,aA,aM];omega
  ·rw[jF,aH,aH,aH,h2,ac h];unfold inR;rw[hk,Bool.false_and,ab (by simp)];simp only[DN,aA,aM];omega
theorem wF:∀(f:Nat) (ts:List T2),psz (fA f ts).1+iZ (fA f ts).2≤iZ ts∧DN (fA f ts).1+iZ (fA f ts).2≤iZ ts
 |0,_=>⟨by simp[fA,psz],by simp[fA,DN]⟩
 |f+1,ts=>by
  rw[fA];split
  ·rename_i r h;have h1:=jg h;obtain⟨h2,h3⟩:=uJ r.length r;have h3:=h3 0;obtain⟨h4,h5⟩:=wF f (bI r).2;unfold bI at *;simp only[psz,DN];omega
  ·simp[psz,DN]
theorem SY{ts r:List T2}{w:List Pc}(h:vr ts=some (w,r)):iZ ts=qM w+10+iZ r:=by
 cases ts with
 |nil=>cases h
 |cons t q=>
  rw[fy]at h;split at h
  ·injection h with h;injection h with h1 h2;subst h1 h2;rfl
  ·cases h
theorem qC(ts:List T2):(d6 (redir ts).1).length+iZ (redir ts).2.2≤iZ ts:=by
 unfold redir
 split
 ·rename_i w r h;have:=SY h;have:=Vn w;dsimp only;omega
 ·simp[d6]
theorem Sy(ts:List T2):dL (if hasW (cA ts).1=true then[[60],d6 (cA ts).1]else[])+iZ (cA ts).2.2≤iZ ts∧(if hasW (cA ts).1=true then[32,60,32]++d6 (cA ts).1 else[]).length+iZ (cA ts).2.2≤iZ ts:=by
 unfold cA
 split
 ·rename_i r h;have:=jg h;have:=qC r;split
  ·simp only[dL,aH,aA,aM];omega
  ·simp only[dL,aM];omega
 ·rw[ab (by simp[hasW])];rw[ab (by simp[hasW])];simp[dL]
theorem T4(ts:List T2):dL (m8 (dm ts).1 (dm ts).2.1)+iZ (dm ts).2.2.2≤iZ ts∧(nq (dm ts).1 (dm ts).2.1).length+iZ (dm ts).2.2.2≤iZ ts:=by
 unfold dm
 split
 ·rename_i r h;have:=jg h;have:=qC r;unfold m8 nq;dsimp only;rw[ac rfl];split<;>simp only[dL,aH,aA,aM,ac]<;>omega
 ·split
  ·rename_i r h;have:=jg h;have:=qC r;unfold m8 nq;dsimp only;rw[ab (by simp)];split
   ·rw[ab (by simp)];simp only[dL,aH,aA,aM];omega
   ·simp only[dL,aM];omega
  ·unfold m8 nq;simp[dL,hasW]
theorem XB(ts:List T2):dL (if(jM ts).1=true then[[33]]else[])+iZ (jM ts).2≤iZ ts∧(if(jM ts).1=true then([33,32]:List UInt8)else[]).length+iZ (jM ts).2≤iZ ts:=by
 unfold jM
 split
 ·rename_i r h;have:=jg h;rw[ac rfl,ac rfl];simp only[dL,aA,aM];omega
 ·rw[ab (by simp),ab (by simp)];simp[dL]
def FE(p:fD):List (List UInt8):=(if p.nt=true then[[33]]else[])++(jp p.inp 0 p.cmds++m8 p.beh p.out)
def FD(p:fD):List UInt8:=(if p.nt=true then[33,32]else[])++(jF p.inp 0 p.cmds++nq p.beh p.out)
theorem I9(j:Int)(ts:List T2):dL (FE (cP j ts).1)+iZ (cP j ts).2.2≤iZ ts∧(FD (cP j ts).1).length+iZ (cP j ts).2.2≤iZ ts:=by
 obtain⟨a1,a2⟩:=XB ts
 obtain⟨b1,b2⟩:=uJ (jM ts).2.length (jM ts).2
 have b2:=b2 0
 obtain⟨c1,c2⟩:=Sy (bI (jM ts).2).2
 obtain⟨d1,d2⟩:=wF (cA (bI (jM ts).2).2).2.2.length (cA (bI (jM ts).2).2).2.2
 obtain⟨e1,e2⟩:=T4 (cm (cA (bI (jM ts).2).2).2.2).2
 obtain⟨f1,f2⟩:=Fe (cA (bI (jM ts).2).2).1 1 (cm (cA (bI (jM ts).2).2).2.2).1 (by decide)
 unfold cP FE FD
 dsimp only
 rw[bZ,bZ,aH,aH,jp,jF,bZ,bZ,bZ,aH,aH,aH,f1,f2]
 unfold inR
 simp only[decide_true,Bool.true_and,ab (show¬(0:Nat)<0 by omega),dL,aM]
 unfold cm bI at *
 omega
theorem SF(n:Nat):(BC n).length≤2∧(Du n).length≤4:=by
 match n with
 |0=>decide
 |1=>decide
 |2=>decide
 |3=>decide
 |_+4=>exact⟨aD _,aD _⟩
theorem HQ{ts r:List T2}{j:Int}(h:dU ts=some (j,r)):iZ r+10≤iZ ts:=by
 unfold dU at h
 split at h
 ·rename_i q hq;have:=jg hq;injection h with h;injection h with _ h;subst h;exact this
 ·split at h
  ·rename_i q hq;have:=jg hq;injection h with h;injection h with _ h;subst h;exact this
  ·split at h
   ·rename_i q hq;have:=jg hq;injection h with h;injection h with _ h;subst h;exact this
   ·cases h
theorem aX3(p:fD):dL (Ta p)≤dL (FE p)+3:=by
 have:=(SF p.join.toNat).1
 unfold Ta FE
 rw[bZ]
 split
 ·simp only[dL];omega
 ·simp only[dL];omega
theorem aM8(i:Nat)(p:fD)(r:List fD):(so i (p::r)).length≤(FD p).length+4+(so (i+1) r).length:=by
 have:=(SF p.join.toNat).2
 rw[so]
 unfold FD
 simp only[aH]
 split
 ·omega
 ·simp only[aM];omega
theorem wx:∀(f:Nat) (j:Int) (ts:List T2),dL (qP (fT f j ts).1)+iZ (fT f j ts).2.2≤iZ ts+3∧ ∀i,(so i (fT f j ts).1).length+iZ (fT f j ts).2.2≤iZ ts+4
 |0,_,ts=>⟨by simp[fT,qP,dL],fun i=>by simp[fT,so]⟩
 |f+1,j,ts=>by
  obtain⟨h1,h2⟩:=I9 j ts;have h3:=aX3 (cP j ts).1;rw[fT];split
  ·refine⟨by rw[qP,bZ];simp only[qP,dL];omega,fun i=>?_⟩;have:=aM8 i (cP j ts).1 [];simp only[so,aM]at this⊢;simp only[bH]at this⊢;omega
  ·rename_i j' r hj;have h4:=HQ hj;obtain⟨h5,h6⟩:=wx f j' r;refine⟨by rw[qP,bZ];dsimp only;omega,fun i=>?_⟩;have:=aM8 i (cP j ts).1 (fT f j' r).1;have:=h6 (i+1);dsimp only;omega
def TK(k:Nat)(ts:List T2):Prop:=∀t∈ts,qM t.2≤k
def WK(k:Nat)(w:List Pc):Prop:=qM w≤k
theorem b02{ts:List T2}:TK (iZ ts) ts:=by
 intro t ht
 induction ts with
 |nil=>cases ht
 |cons a r ih=>
  rcases bq.1 ht with rfl|h
  ·simp only[iZ];omega
  ·have:=ih h;simp only[iZ];omega
theorem TK.isS{k:Nat}{s:List UInt8}{ts r:List T2}(h:TK k ts)(e:isS s ts=some r):TK k r:=by
 cases ts with
 |nil=>cases e
 |cons t q=>
  rw[fR]at e;split at e
  ·injection e with e;subst e;exact fun t ht=>h t (bJ _ ht)
  ·cases e
theorem TK.wds{k:Nat}:∀(m:Nat) {ts:List T2},TK k ts→(∀w∈(eT m ts).1,WK k w)∧TK k (eT m ts).2
 |0,ts,h=>⟨fun w hw=>(by cases hw),h⟩
 |_+1,[],h=>⟨fun w hw=>(by cases hw),h⟩
 |m+1,t::r,h=>by
  rw[eT];split
  ·obtain⟨h1,h2⟩:=TK.wds m (ts:=r) fun t ht=>h t (bJ _ ht);refine⟨fun w hw=>?_,h2⟩;rcases bq.1 hw with rfl|hw
   ·exact h t (bX ..)
   ·exact h1 w hw
  ·exact⟨fun w hw=>(by cases hw),h⟩
theorem TK.redir{k:Nat}{ts:List T2}(h:TK k ts):WK k (redir ts).1∧TK k (redir ts).2.2:=by
 cases ts with
 |nil=>exact⟨aD _,h⟩
 |cons t r=>
  unfold Ev.redir;rw[fy];by_cases ht:t.1=[]
  ·rw[ac ht];exact⟨h t (bX ..),fun t ht=>h t (bJ _ ht)⟩
  ·rw[ab ht];exact⟨aD _,h⟩
theorem TK.inp{k:Nat}{ts:List T2}(h:TK k ts):WK k (cA ts).1∧TK k (cA ts).2.2:=by
 unfold cA
 split
 ·rename_i r e;exact(h.isS e).redir
 ·exact⟨aD _,h⟩
theorem TK.out{k:Nat}{ts:List T2}(h:TK k ts):WK k (dm ts).2.1∧TK k (dm ts).2.2.2:=by
 unfold dm
 split
 ·rename_i r e;exact(h.isS e).redir
 ·split
  ·rename_i r e;exact(h.isS e).redir
  ·exact⟨aD _,h⟩
theorem TK.nt{k:Nat}{ts:List T2}(h:TK k ts):TK k (jM ts).2:=by
 unfold jM
 split
 ·rename_i r e;exact h.isS e
 ·exact h
theorem TK.pipe{k:Nat}:∀(f:Nat) {ts:List T2},TK k ts→(∀c∈(fA f ts).1,∀w∈c,WK k w)∧TK k (fA f ts).2
 |0,_,h=>⟨fun c hc=>(by cases hc),h⟩
 |f+1,ts,h=>by
  rw[fA];split
  ·rename_i r e;obtain⟨h1,h2⟩:=TK.wds r.length (h.isS e);obtain⟨h3,h4⟩:=TK.pipe f (ts:=(bI r).2) h2;refine⟨fun c hc=>?_,h4⟩;rcases bq.1 hc with rfl|hc
   ·exact h1
   ·exact h3 c hc
  ·exact⟨fun c hc=>(by cases hc),h⟩
theorem WK.s{k:Nat}{w:List Pc}(h:WK k w)(hk:k≤1000000):(∀q∈w,q.1.length≤1000000)∧w.length≤1000000:=
 ⟨fun q hq=>bm (Yk hq) (bm h hk),bm (Yj w) (bm h hk)⟩
theorem TK.part{k:Nat}{ts:List T2}(j:Int)(h:TK k ts)(hk:k≤1000000):GQ (cP j ts).1∧TK k (cP j ts).2.2:=by
 obtain⟨a1,a2⟩:=TK.wds (jM ts).2.length h.nt
 obtain⟨b1,b2⟩:=TK.inp (ts:=(bI (jM ts).2).2) a2
 obtain⟨c1,c2⟩:=TK.pipe (cA (bI (jM ts).2).2).2.2.length b2
 obtain⟨d1,d2⟩:=TK.out (ts:=(cm (cA (bI (jM ts).2).2).2.2).2) c2
 refine⟨⟨(b1.s hk).1,(d1.s hk).1,fun x hx w hw=>?_,(b1.s hk).2,(d1.s hk).2⟩,d2⟩
 rcases bq.1 hx with rfl|hx
 ·exact(WK.s (a1 w hw) hk).1
 ·exact(WK.s (c1 x hx w hw) hk).1
theorem TK.line{k:Nat}(hk:k≤1000000):∀(f:Nat) (j:Int) {ts:List T2},TK k ts→ ∀p∈(fT f j ts).1,GQ p
 |0,_,_,_,p,hp=>by cases hp
 |f+1,j,ts,h,p,hp=>by
  obtain⟨h1,h2⟩:=h.part j hk;rw[fT]at hp;split at hp
  ·rcases bq.1 hp with rfl|hp
   ·exact h1
   ·cases hp
  ·rename_i j' r hj;rcases bq.1 hp with rfl|hp
   ·exact h1
   ·refine TK.line hk f j' (ts:=r) ?_ p hp;unfold dU at hj;split at hj
    ·rename_i q hq;injection hj with hj;injection hj with _ hj;subst hj;exact h2.isS hq
    ·split at hj
     ·rename_i q hq;injection hj with hj;injection hj with _ hj;subst hj;exact h2.isS hq
     ·split at hj
      ·rename_i q hq;injection hj with hj;injection hj with _ hj;subst hj;exact h2.isS hq
      ·cases hj
theorem DM{s:List UInt8}(h:s.length≤4096):(∀p∈(dv 0 (cD s)).1,GQ p)∧dL (qP (dv 0 (cD s)).1)≤1000000∧(so 0 (dv 0 (cD s)).1).length≤1000000:=by
 have h1:iZ (cD s)≤16*s.length:=yN (s.length+1) s 0
 obtain⟨h2,h3⟩:=wx ((cD s).length+1) 0 (cD s)
 have h3:=h3 0
 unfold dv
 exact⟨TK.line (k:=16*s.length) (by omega) _ 0 (fun t ht=>bm (b02 t ht) h1),by omega,by omega⟩
abbrev bQ3(u:List (Option V))(x0 x3:V):T:=(.n (.n (.n (fm u 15 7 23) (some x3) (fm u 19 11 27)) (uO u 1) (aq u 17 9 25 5 21 13 29)) (some x0) (.n (aq u 16 8 24 4 20 12 28) (uO u 2) (aq u 18 10 26 6 22 14 30)))
def ad4:CC:=(.reg [(qq a4 (.mv xF))])
def ad5:CC:=(.dreg 26 [(0,0,(qq a5 (.mv z0))),(1,1,(qq a6 (.nck z5))),(2,3,(qq a7 (.fa 1 z6))),(3,7,(qq a8 (.ld1 z7))),(4,0,(qq a9 (.mv z0))),(5,16,(qq dJ (.nck z9))),(6,48,(qq ey (.fa 0 eK))),(7,112,(qq eU (.ld1 dE))),(8,240,(qq eC (.ln .slice ei))),(9,511,(qq dR (.bi .lss z8 eb))),(10,1023,(qq dA (.mv fG))),(11,2047,(aE eX (.mv z0) dA)),(12,4095,(aE gC (.nck gM) dA)),(13,8191,(aE fK (.fa 0 gS) dA)),(14,16383,(aE i5 (.ld1 hU) dA)),(15,2047,(aE gh (.mv z0) dA)),(16,34815,(aE fE (.nck k7) dA)),(17,100351,(aE j9 (.fa 1 ju) dA)),(18,231423,(aE gO (.ld1 kL) dA)),(19,524287,(aE jn (.iaS 3 jz k8) dA)),(20,1048575,(aE gP (.fa 1 jA) dA)),(21,2097151,(aE ja (.fa 0 kM) dA)),(22,4194303,(aE gQ (.ld1 lw) dA)),(23,2047,(aE kQ (.mv z1) dA)),(24,16777215,(aE gU (.bi .eql lB mH) dA)),(25,33554431,(qq jv (.pk gf mI xF)))])
def ad6:CC:=(.reg [(qq jC (.mv z0)),(qq lz (.nck ny)),(qq lE (.fa 1 oC)),(qq jx (.ld1 pQ)),(qq iK (.bi .add pR (x6 1))),(qq mK (.nck ny)),(qq ka (.fa 1 pS)),(ez (.st 1 oF pM))])
def ad7:CC:=(.reg [(qq a4 (.mv xT))])
def ad8:CC:=(.cond nv (.seq ad6 (.seq ad7 .ret)) .skip)
def ad9:CC:=(.reg [(qq a4 (.mv xF))])
def RH:CF:= .mk 6 [.t a4] (.seq ad4 (.seq (.seq ad5 ad8) (.seq ad9 .ret)))
theorem e34(v0 v1:V):bz 6 [v0,v1]=(.n (.n nr (some v1) nr) (some v0) nu):=rfl
def B34:=ai @e34 (ai (wu ad4.eq_1) (ai (wu ad5.eq_1) (ai (wu ad6.eq_1) (ai (wu ad7.eq_1) (ai (wu ad8.eq_1) (wu ad9.eq_1))))))
def ae0:CC:=(.reg [(qq a7 (.mv z0)),(ee a8 (.call 36 [z7])),(qq a6 (.mv z8)),(qq a9 (.ex 0 z6)),(qq dJ (.ex 1 z6)),(aa a4 (.al 36 [.l0])),(ez (.st 1 z4 z9)),(qq a5 (.mv eK))])
def ae1:CC:=(.reg [(qq ey (.mv z5)),(qq eU (.un .not dE))])
def ae2:CC:=(.reg [(qq eC (.mv z3)),(qq a2 (.mv eb))])
def ae3:CC:=(.seq ae1 (.cond ei (.seq ae2 .ret) .skip))
def ae4:CC:=(.reg [(qq dR (.mv z3)),(qq dA (.ldn 1 z4)),(aa eX (.bsl 36 1 1 [.l0] [(0,gf)])),(ee gC (.app 36 1 24 fG gM)),(qq a3 (.mv gS))])
def ae5:CC:=(.block 0 (.loop (.block 1 (.seq ae0 (.seq ae3 ae4)))))
def ae6:CC:=(.seq (.reg [(qq a3 (.mv (.c .l0)))]) ae5)
def ae7:CC:=(.seq (.reg [(qq a2 (.mv (.c .l0)))]) ae6)
def c35:CF:= .mk 5 [.t a2] ae7
theorem e35(v0:V):bz 5 [v0]=(.n nr (some v0) nr):=rfl
def B35:=ai @e35 (ai (wu ae0.eq_1) (ai (wu ae1.eq_1) (ai (wu ae2.eq_1) (ai (wu ae3.eq_1) (ai (wu ae4.eq_1) (ai (wu ae5.eq_1) (ai (wu ae6.eq_1) (wu ae7.eq_1))))))))
def ae8:CC:=(.reg [(aa a2 (.al 36 [.l0])),(qq a3 (.mv xF))])
def ae9:CC:=(.dreg 25 [(0,0,(qq a4 (.mv z0))),(1,1,(qq a5 (.nck z4))),(2,3,(qq a6 (.fa 1 z5))),(3,7,(qq a7 (.ld1 z6))),(4,0,(qq a8 (.mv z0))),(5,16,(qq a9 (.nck z8))),(6,48,(qq dJ (.fa 0 z9))),(7,112,(qq ey (.ld1 eK))),(8,240,(qq eU (.ln .slice dE))),(9,511,(qq eC (.bi .lss z7 ei))),(10,1023,(qq dR (.mv eb))),(11,2047,(aE dA (.mv z0) dR)),(12,4095,(aE eX (.nck gf) dR)),(13,8191,(aE gC (.fa 0 gM) dR)),(14,16383,(aE fK (.ld1 gS) dR)),(15,2047,(aE i5 (.mv z0) dR)),(16,34815,(aE gh (.nck jz) dR)),(17,100351,(aE fE (.fa 1 k7) dR)),(18,231423,(aE j9 (.ld1 ju) dR)),(19,524287,(aE gO (.iaS 3 hU kL) dR)),(20,1048575,(aE jn (.fa 1 k8) dR)),(21,2097151,(aE gP (.fa 0 jA) dR)),(22,4194303,(aE ja (.ld1 kM) dR)),(23,8388607,(aE gQ (.bi .eql lw (.c (.s 0 0))) dR)),(24,16777215,(qq kQ (.pk fG lB xF)))])
def af0:CC:=(.reg [(qq gU (.mv z0)),(qq jv (.nck mI)),(qq jC (.fa 1 nv)),(qq lz (.ld1 ny)),(qq lE (.bi .add oC (x6 1))),(qq jx (.nck mI)),(qq iK (.fa 1 pR)),(ez (.st 1 pM pQ))])
def af1:CC:=(.dreg 15 [(0,0,(qq mK (.mv z0))),(1,1,(qq ka (.nck pS))),(2,3,(qq mL (.fa 0 oF))),(3,7,(qq lA (.ld1 qS))),(4,0,(qq nj (.mv z0))),(5,16,(qq jb (.nck rJ))),(6,48,(qq kR (.fa 1 pT))),(7,112,(qq oK (.ld1 rK))),(8,240,(qq lF (.bi .sub rL (x6 1)))),(9,511,(qq oL (.iaS 3 qT qU))),(10,1023,(qq ll (.fa 1 rM))),(11,2047,(qq oM (.fa 1 sO))),(12,4095,(qq kb (.ldn 1 rN))),(13,8191,(ez (.st 1 z2 sq))),(14,16383,(qq a3 (.mv xT)))])
def af2:CC:=(.cond mH (.seq af0 (.seq af1 .ret)) .skip)
def af3:CC:=(.reg [(qq lG (.bld [.l0] [])),(ez (.st 1 z2 uN)),(qq a3 (.mv xF))])
def J6:CF:= .mk 6 [.cn a2 1,.t a3] (.seq ae8 (.seq (.seq ae9 af2) (.seq af3 .ret)))
theorem e36(v0:V):bz 6 [v0]=(.n nu (some v0) nu):=rfl
def B36:=ai @e36 (ai (wu ae8.eq_1) (ai (wu ae9.eq_1) (ai (wu af0.eq_1) (ai (wu af1.eq_1) (ai (wu af2.eq_1) (wu af3.eq_1))))))
def zA(lo cs:Nat)(Ms:Mem)(v:V)(TT:List T2):Prop:=∃es:List (List V),(∀(F:RO) M',Bk lo cs Ms M'→cE F M' cs 3 v es)∧es.length=TT.length∧TT.length≤1000000∧ ∀i (h:i<es.length) (h':i<TT.length),∃z pv,es[i]=[z,sV TT[i].1,pv]∧rP lo cs Ms pv TT[i].2
def vJ(cu:Nat)(v:V)(TT:List T2)(M:Mem)(ts:List T2):Prop:=∃k:Nat,M.get cu=some (ae 80 [v,.i .i64 (k:Int)])∧k≤TT.length∧ts=TT.drop k
theorem zA.len{lo cs:Nat}{Ms:Mem}{v:V}{TT:List T2}(h:zA lo cs Ms v TT):pf v=some (.i .i64 (TT.length:Int)):=by
 obtain⟨es,h1,h2,_⟩:=h
 rw[←h2];exact(h1 [] Ms fun _ _ _=>rfl).len
theorem zA.at{F:RO}{lo cs:Nat}{Ms M:Mem}{v:V}{TT:List T2}(h:zA lo cs Ms v TT)(hB:Bk lo cs Ms M)(k:Nat)(hk:k<TT.length):
 ∃b o pv,b<cs∧eV 3 v (.i .i64 (k:Int))=some (.p b o)∧load1 F M b (o+1)=some (sV TT[k].1)∧loadN F M b (o+2) 1=some [pv]∧rP lo cs Ms pv TT[k].2:=by
 obtain⟨es,h1,h2,h3,h4⟩:=h
 have hk':k<es.length:=by omega
 obtain⟨b,o,a1,a2,a3⟩:=(h1 F M hB).at k hk'
 obtain⟨z,pv,e,hw⟩:=h4 k hk' hk
 rw[e]at a3
 have c0:=a3 1 (by simp)
 have c1:=a3.loadN 2 1 (by simp) (by decide)
 exact⟨b,o,pv,a1,a2 .i64,c0,c1,hw⟩
theorem CV{F:RO}(a b:List UInt8)(M:Mem):biQ .eql (sV a) (sV b) F M=oV (cB .eql (sV a) (sV b)):=by
 refine(fw ?_).trans (congrArg oV (b06 (F:=F) .eql _ _ M .e))
 intro F' M'
 show vB (jk a.length (ce a) b.length (ce b))=oV (vB (jk a.length (ce a) b.length (ce b))).val
 rw[la];rfl
theorem w34(Φ:Nat→Option CF)(h:Φ 34=some RH){F:RO}{lo cs cu c:Nat}{Ms M:Mem}{v:V}{TT ts:List T2}(ok:cR F M c)(hB:Bk lo cs Ms M)(hT:zA lo cs Ms v TT)(hcu:cu<c)(hC:vJ cu v TT M ts)(s:List UInt8)(hs:s≠[]):
 Calls Φ F 34 [.p cu 0,sV s] M c fun r M' c'=>eW (fun x=>x=cu) c M c' M'∧((∃rs,isS s ts=some rs∧r= .b true∧vJ cu v TT M' rs)∨(isS s ts=none∧r= .b false∧vJ cu v TT M' ts)):=by
 obtain⟨P,hP⟩:∃P:V→Mem→Nat→Prop,∀r M' c',P r M' c'↔(eW (fun x=>x=cu) c M c' M'∧((∃rs,isS s ts=some rs∧r= .b true∧vJ cu v TT M' rs)∨(isS s ts=none∧r= .b false∧vJ cu v TT M' ts))):=⟨fun _ _ _=>_,fun _ _ _=>Iff.rfl⟩
 refine lD.mono (P:=P) ?_ fun r M' c' h=>(hP r M' c').1 h
 refine aN h ?_
 have hC0:=hC
 obtain⟨k,mc,hk,hts⟩:=hC
 have l0:load1 F M cu 0=some v:=au mc 0
 have l1:load1 F M cu 1=some (.i .i64 (k:Int)):=au mc 1
 have n1:=hT.len
 have hfr:=ok.free
 have hTl:TT.length≤1000000:=by obtain⟨_,_,_,x,_⟩:=hT;exact x
 by_cases hlt:k<TT.length
 ·have d0:decide ((k:Int)<(TT.length:Int))=true:=ah (by omega);obtain⟨b,o,pv,hb,ia,lt,lp,hw⟩:=hT.at (F:=F) hB k hlt;have qe:=cM TT[k].1 s;have htk:ts=TT[k]::TT.drop (k+1):=by rw[hts];exact bS hlt
  by_cases he:TT[k].1=s
  ·rw[ah he]at qe;have q8:cB .add (.i .i64 (k:Int)) (.i .i64 1)=some (.i .i64 ((k+1:Nat):Int)):=by rw[be _ _ (by omega) (by omega)];simp
   have st:=aC mc 1 [.i .i64 ((k+1:Nat):Int)] (by simp) rfl;have hov:over [v,.i .i64 (k:Int)] 1 [.i .i64 ((k+1:Nat):Int)]=[v,.i .i64 ((k+1:Nat):Int)]:=rfl;rw[hov]at st;have okS:cR F (M.set cu (ae 80 [v,.i .i64 ((k+1:Nat):Int)])) c:=ok.put hcu mc;simp only[WX,B34,gV,ed,nP,l0,l1,n1,d0,ia,lt,CV,qe,q8,st,aB];exact(hP _ _ _).2 ⟨(eW.set (h:=fun x=>x=cu) ok hcu rfl _).trans (eW.of ((Gr.refl okS).up (by omega))),.inl ⟨TT.drop (k+1),by rw[htk,fR,ac ⟨he,hs⟩],rfl,k+1,am _ _ _,hlt,rfl⟩⟩
  ·rw[af he]at qe;simp only[WX,B34,gV,ed,l0,l1,n1,d0,ia,lt,CV,qe,aB];exact(hP _ _ _).2 ⟨eW.of ((Gr.refl ok).up (by omega)),.inr ⟨by rw[htk,fR,ab (fun h=>he h.1)],rfl,hC0⟩⟩
 ·have d0:decide ((k:Int)<(TT.length:Int))=false:=af (by omega);simp only[WX,B34,gV,ed,l0,l1,n1,d0,aB];exact(hP _ _ _).2 ⟨eW.of ((Gr.refl ok).up (by omega)),.inr ⟨by rw[hts,List.drop_eq_nil_of_le (by omega)];rfl,rfl,hC0⟩⟩
theorem w36(Φ:Nat→Option CF)(h:Φ 36=some J6){F:RO}{lo cs cu c:Nat}{Ms M:Mem}{v:V}{TT ts:List T2}(ok:cR F M c)(hcu:cu<c)(hB:Bk lo cs Ms M)(hcs:cs≤cu)(hT:zA lo cs Ms v TT)(hC:vJ cu v TT M ts):
 Calls Φ F 36 [.p cu 0] M c fun r M' c'=>eW (fun x=>x=cu) c M c' M'∧ ∃pv,r= .t [.g [pv],.b (!(redir ts).2.1)]∧bC pv=true∧rP lo cs Ms pv (redir ts).1∧vJ cu v TT M' (redir ts).2.2:=by
 obtain⟨P,hP⟩:∃P:V→Mem→Nat→Prop,∀r M' c',P r M' c'↔(eW (fun x=>x=cu) c M c' M'∧ ∃pv,r= .t [.g [pv],.b (!(redir ts).2.1)]∧bC pv=true∧rP lo cs Ms pv (redir ts).1∧vJ cu v TT M' (redir ts).2.2):=⟨fun _ _ _=>_,fun _ _ _=>Iff.rfl⟩
 refine lD.mono (P:=P) ?_ fun r M' c' h=>(hP r M' c').1 h
 refine aN h ?_
 have gX:=(Gr.refl ok).set c (ae 36 [.l0]) (aj _) (ay _) (aJ _)
 have mx:(M.set c (ae 36 [.l0])).get c=some (ae 36 [.l0]):=am _ _ _
 obtain⟨k,mc,hk,hts⟩:=hC
 have mc:=(gX.old cu hcu).trans mc
 have hBX:Bk lo cs Ms (M.set c (ae 36 [.l0])):=fun x a b=>(gX.old x (by omega)).trans (hB x a b)
 generalize hXe:M.set c (ae 36 [.l0])=X at gX mx mc hBX
 have okX:=gX.ok ok
 have l0:load1 F X cu 0=some v:=au mc 0
 have l1:load1 F X cu 1=some (.i .i64 (k:Int)):=au mc 1
 have n1:=hT.len
 have hfr:=okX.free
 have hTl:TT.length≤1000000:=by obtain⟨_,_,_,x,_⟩:=hT;exact x
 have hG:∀v,flatten (V.g [v])=[v]:=fun _=>rfl
 have stc:=aC mx 0 [V.l0] (by simp) rfl
 have hovc:over [V.l0] 0 [V.l0]=[V.l0]:=rfl
 rw[hovc,←cq mx]at stc
 have lc:loadN F X c 0 1=some [V.l0]:=aP mx 1 rfl
 have C0:vJ cu v TT X ts:=⟨k,mc,hk,hts⟩
 have NONE:vr ts=none→ ∀c',c+1≤c'→P (.t [.g [.l0],.b false]) X c':=by
  intro ho c' hc';have hr:redir ts=([],true,ts):=by unfold redir;rw[ho]
  refine(hP _ _ _).2 ⟨eW.of (gX.up hc'),.l0,by rw[hr];rfl,rfl,?_,?_⟩
  ·rw[hr];exact sM lo cs Ms
  ·rw[hr];exact C0
 by_cases hlt:k<TT.length
 ·have d0:decide ((k:Int)<(TT.length:Int))=true:=ah (by omega);obtain⟨b,o,pv,hb,ia,lt,lp,hw⟩:=hT.at (F:=F) hBX k hlt;have qe:=cM TT[k].1 [];have e0:V.s 0 0=sV []:=rfl;rw[←e0]at qe;have qE:biQ .eql (sV TT[k].1) (.s 0 0) F X=oV (cB .eql (sV TT[k].1) (.s 0 0)):=CV TT[k].1 [] X;have htk:ts=TT[k]::TT.drop (k+1):=by rw[hts];exact bS hlt
  by_cases he:TT[k].1=[]
  ·rw[ah he]at qe;have q8:cB .add (.i .i64 (k:Int)) (.i .i64 1)=some (.i .i64 ((k+1:Nat):Int)):=by rw[be _ _ (by omega) (by omega)];simp
   have q9:cB .sub (.i .i64 ((k+1:Nat):Int)) (.i .i64 1)=some (.i .i64 (k:Int)):=by rw[p7 _ _ (by omega) (by omega)];congr 2;omega
   have st:=aC mc 1 [.i .i64 ((k+1:Nat):Int)] (by simp) rfl;have hov:over [v,.i .i64 (k:Int)] 1 [.i .i64 ((k+1:Nat):Int)]=[v,.i .i64 ((k+1:Nat):Int)]:=rfl;rw[hov]at st;have m2:=am X cu (ae 80 [v,.i .i64 ((k+1:Nat):Int)]);have l02:load1 F (X.set cu (ae 80 [v,.i .i64 ((k+1:Nat):Int)])) cu 0=some v:=au m2 0;have l12:load1 F (X.set cu (ae 80 [v,.i .i64 ((k+1:Nat):Int)])) cu 1=some (.i .i64 ((k+1:Nat):Int)):=au m2 1;have ok2:cR F (X.set cu (ae 80 [v,.i .i64 ((k+1:Nat):Int)])) (c+1):=okX.put (by omega) mc;have hB2:Bk lo cs Ms (X.set cu (ae 80 [v,.i .i64 ((k+1:Nat):Int)])):=fun x a b=>(ak _ _ (by omega)).trans (hBX x a b);obtain⟨b',o',pv',hb',ia',lt',lp',hw'⟩:=hT.at (F:=F) hB2 k hlt;rw[ia]at ia';injection ia' with ia';injection ia' with z1 z2
   subst z1 z2;obtain⟨p1,p2,p3⟩:=(hw' F Ms fun _ _ _=>rfl).one;have hfr2:=ok2.free;have mx2:(X.set cu (ae 80 [v,.i .i64 ((k+1:Nat):Int)])).get c=some (ae 36 [.l0]):=(ak _ _ (by omega)).trans mx;have st2:=aC mx2 0 [pv'] (by simp) p3;have hov2:over [V.l0] 0 [pv']=[pv']:=rfl;rw[hov2]at st2;have qo:cR F ((X.set cu (ae 80 [v,.i .i64 ((k+1:Nat):Int)])).set c (ae 36 [pv'])) (c+1):=ok2.put (ay _) mx2;have hfr3:=qo.free;have lc3:loadN F ((X.set cu (ae 80 [v,.i .i64 ((k+1:Nat):Int)])).set c (ae 36 [pv'])) c 0 1=some [pv']:=aP (am _ _ _) 1 rfl;simp only[WX,Nat.reducePow,Nat.reduceDiv,Nat.reduceMod,Nat.reduceBEq,Nat.reduceAdd,j0,B36,hXe,gV,ed,nP,l0,l1,n1,d0,ia,lt,qE,qe,q8,st,aB,l02,l12,q9,lp',hG,st2,hfr3,lc3];have hr:redir ts=(TT[k].2,false,TT.drop (k+1)):=by unfold redir;rw[htk,fy,ac he]
   refine(hP _ _ _).2 ⟨⟨by omega,fun x a b=>?_,fun x a=>?_⟩,pv',by rw[hr];rfl,p1,by rw[hr];exact hw',?_⟩
   ·rw[ak _ _ (by omega),ak _ _ b];exact gX.old x a
   ·rw[ak _ _ (by omega),ak _ _ (by omega)];exact gX.new x (show c+1≤x by omega)
   ·rw[hr];exact⟨k+1,(ak _ _ (by omega)).trans m2,hlt,rfl⟩
  ·rw[af he]at qe;simp only[WX,Nat.reduceAdd,B36,hXe,gV,ed,l0,l1,n1,d0,ia,lt,qE,qe,aB,hG,stc,lc];exact NONE (by rw[htk,fy,ab he]) _ (by omega)
 ·have d0:decide ((k:Int)<(TT.length:Int))=false:=af (by omega);simp only[WX,Nat.reduceAdd,B36,hXe,gV,ed,l0,l1,n1,d0,aB,hG,stc,lc];exact NONE (by rw[hts,List.drop_eq_nil_of_le (by omega)];rfl) _ (by omega)
theorem Vi(ts:List T2):bI ts=match vr ts with|some (w,r)=>(w::(bI r).1,(bI r).2)|none=>([],ts):=by
 cases ts with
 |nil=>rfl
 |cons t r=>
  unfold bI;rw[aA,eT,fy];split<;>rfl
theorem w35(Φ:Nat→Option CF)(h:Φ 35=some c35)(h36:Φ 36=some J6){F:RO}{lo cs cu c:Nat}{Ms M:Mem}{v:V}{TT ts:List T2}(ok:cR F M c)(hcu:cu<c)(hB:Bk lo cs Ms M)(hcs:cs≤cu)(hT:zA lo cs Ms v TT)(hC:vJ cu v TT M ts)(hl:ts.length≤900000):
 Calls Φ F 35 [.p cu 0] M c fun r M' c'=>eW (fun x=>x=cu) c M c' M'∧v8 lo cs Ms M' c c' r (bI ts).1∧vJ cu v TT M' (bI ts).2:=by
 refine aN h ?_
 simp only[WX,B35]
 obtain⟨I,hI⟩:∃I:Nat→St→Prop,∀n s',I n s'↔(∃(c1 b:Nat) (M1:Mem) (ov:V) (cw:eB) (es:List (List V)) (tr:List T2) (u:List (Option V)),n=tr.length∧s'= .mk ((bQ3 u (.p cu 0) ov)) [] M1 c1∧eW (fun x=>x=cu) c M c1 M1∧aX M1 c c1 b 36 1 ov es∧es.length=cw.length∧cw.length+tr.length≤900000∧(∀i (h:i<es.length) (h':i<cw.length),∃pv,es[i]=[pv]∧rP lo cs Ms pv cw[i])∧vJ cu v TT M1 tr∧bI ts=(cw++(bI tr).1,(bI tr).2)):=⟨fun n s'=>_,fun _ _=>Iff.rfl⟩
 refine bw I ?_ ts.length _ ((hI _ _).2 ⟨c,0,M,.l0,[],[],ts,(G1 (X2 (G1 (br (X8 (X2 (X1 []))))))),rfl,rfl,eW.of (Gr.refl ok),aX.nil,rfl,by simp only[aM];omega,fun i h _=>(by cases h),hC,rfl⟩)
 intro n s' hIs
 obtain⟨c1,b,M1,ov,cw,es,tr,u,rfl,rfl,gx,hA,hel,hk,hes,hC1,hwe⟩:=(hI _ _).1 hIs
 clear hIs
 have hle:=gx.le
 have HX:∀b,b<c→b=cu→ ∃x,M.get b=some x:=fun b _ e=>by obtain⟨k,mk,_⟩:=hC;rw[e];exact⟨_,mk⟩
 have ok1:=gx.ok ok HX
 have hB1:Bk lo cs Ms M1:=fun x a b=>(gx.old x (by omega) (by omega)).trans (hB x a b)
 simp only[WX,B35]
 refine az ((w36 Φ h36 ok1 (by omega) hB1 hcs hT hC1).mono ?_)
 rintro r M2 c2 ⟨g2,pv,rfl,p1,hw,hC2⟩
 have hle2:=g2.le
 have HX1:∀b,b<c1→b=cu→ ∃x,M1.get b=some x:=fun b _ e=>by obtain⟨k,mk,_⟩:=hC1;rw[e];exact⟨_,mk⟩
 have ok2:=g2.ok ok1 HX1
 have hG:∀v,flatten (V.g [v])=[v]:=fun _=>rfl
 have hO:∀v,bC (V.g [v])=false:=fun _=>rfl
 have sn:bR (M2.set c2 (ae 36 [.l0])) c2 0 [pv]=some (M2.set c2 (ae 36 [pv])):=dI rfl (by rw[av,bO,p1];rfl)
 have g3:=(Gr.refl ok2).set c2 (ae 36 [pv]) (aj _) (ay _) (aJ _)
 have l4:loadN F (M2.set c2 (ae 36 [pv])) c2 0 1=some [pv]:=aP (am _ _ _) 1 rfl
 have hC3:vJ cu v TT (M2.set c2 (ae 36 [pv])) (redir tr).2.2:=by obtain⟨k,mk,k1,k2⟩:=hC2;exact⟨k,(ak _ _ (by omega)).trans mk,k1,k2⟩
 have G3:eW (fun x=>x=cu) c M (c2+1) (M2.set c2 (ae 36 [pv])):=gx.trans (g2.trans (eW.of g3))
 have hA2:aX (M2.set c2 (ae 36 [pv])) c (c2+1) b 36 1 ov es:=by
  rcases hA with⟨a0,a|⟨b1,b2,b3,b4⟩⟩
  ·exact⟨a0,.inl a⟩
  ·exact⟨a0,.inr ⟨b1,by omega,b3,(ak _ _ (by omega)).trans ((g2.old b b2 (by omega)).trans b4)⟩⟩
 have qo:=g3.ok ok2
 generalize hY:M2.set c2 (ae 36 [pv])=Y at sn g3 l4 hC3 G3 hA2 qo
 have hone:=Vi tr
 cases ho:vr tr with
 |none=>
  have hr:redir tr=([],true,tr):=by unfold redir;rw[ho]
  rw[hr]at hC3⊢;rw[ho]at hone;simp only[WX,B35,hG,sn];rw[hwe,hone,bH];exact⟨G3,⟨b,es,hA2,hel,by show cw.length≤1000000;omega,hes⟩,hC3⟩
 |some wr=>
  obtain⟨w,q⟩:=wr;have hr:redir tr=(w,false,q):=by unfold redir;rw[ho]
  have hql:q.length<tr.length:=by
   cases tr with
   |nil=>cases ho
   |cons t q'=>
    rw[fy]at ho;split at ho
    ·injection ho with ho;injection ho with _ ho;subst ho;exact ay _
    ·cases ho
  rw[hr]at hC3 hw⊢;rw[ho]at hone;dsimp only at hw hone;have gZ:=(Gr.refl qo).set (c2+1) (cL [V.l0] 36 [pv]) (aj _) (ay _) (aJ _);have hy:cE F (Y.set (c2+1) (cL [V.l0] 36 [pv])) (c2+2) 1 (.l (c2+1) 0 1 1) [[pv]]:=II (d:=[V.l0]) (ty:=36) (by rw[am];rfl) (ay _) (fun e he=>by rw[List.mem_singleton]at he;subst he;rfl) rfl;have gA:Gr c Y (c2+2) (Y.set (c2+1) (cL [V.l0] 36 [pv])):=⟨by omega,fun x hx=>gZ.old x (by omega),gZ.new⟩
  simp only[WX,Nat.reduceAdd,B35,hG,p1,sn,l4];refine az ((fO (bytes:=24) (hA2.gr gZ) gA (by decide) hy (by show aK [pv]=true;rw[av,bO,p1];rfl) (eP (by simp only[aA,aM];omega) (by simp only[aA,aM];omega))).mono ?_);rintro ov' M5 c5 ⟨b',hA5,g5,hle5,hfr5,hb5⟩;simp only[WX];refine⟨q.length,hql,(hI _ _).2 ⟨c5,b',M5,ov',cw++[w],es++[[pv]],q,(G1 (X2 (G1 (br (X8 (X2 (X1 []))))))),rfl,rfl,⟨by omega,fun x a1 a2=>(g5.old x a1).trans (G3.old x a1 a2),g5.new⟩,hA5,by rw[aH,aH,hel];rfl,by rw[aH,List.length_singleton];omega,fun i h1 h2=>?_,?_,by rw[hwe,hone];simp⟩⟩
  ·by_cases hi:i<es.length
   ·obtain⟨pv0,a1,a2⟩:=hes i hi (by omega);exact⟨pv0,by rw[dC hi];exact a1,by rw[dC (by omega)];exact a2⟩
   ·rw[aH]at h1;simp only[aA,aM]at h1;obtain rfl:i=es.length:=by omega
    exact⟨pv,by rw[dB (aj _)];simp,by rw[dB (by omega)];simp only[hel,Nat.sub_self,List.getElem_cons_zero];exact hw⟩
  ·obtain⟨k,mk,k1,k2⟩:=hC3;exact⟨k,(g5.old cu hcu).trans mk,k1,k2⟩
abbrev rD(u:List (Option V))(x0 x2 x4 x6 x7 x8 x9 x10:V):T:=(.n (.n (.n (.n (aq u 63 31 95 15 79 47 111) (some x7) (aq u 71 39 103 23 87 55 119)) (uO u 3) (.n (aq u 67 35 99 19 83 51 115) (uO u 11) (aq u 75 43 107 27 91 59 123))) (uO u 1) (.n (.n (aq u 65 33 97 17 81 49 113) (some x9) (aq u 73 41 105 25 89 57 121)) (uO u 5) (.n (aq u 69 37 101 21 85 53 117) (uO u 13) (aq u 77 45 109 29 93 61 125)))) (some x0) (.n (.n (.n (aq u 64 32 96 16 80 48 112) (some x8) (aq u 72 40 104 24 88 56 120)) (some x4) (.n (aq u 68 36 100 20 84 52 116) (uO u 12) (aq u 76 44 108 28 92 60 124))) (some x2) (.n (.n (aq u 66 34 98 18 82 50 114) (some x10) (aq u 74 42 106 26 90 58 122)) (some x6) (.n (aq u 70 38 102 22 86 54 118) (uO u 14) (aq u 78 46 110 30 94 62 126)))))
def Z0:CC:=(.reg [(aa a2 (.al 25 [.l0])),(qq a3 (.mv (x6 0)))])
def bT2:=wu Z0.eq_1
def Z1:CC:=(.reg [(qq ey (.mv z0)),(qq eU (.ln .str dE)),(qq eC (.bi .gtr ei (x6 4096)))])
def bT3:=wu Z1.eq_1
def Z2:CC:=(.reg [(qq dR (.bld [.l0] [])),(ez (.st 1 z2 fG)),(qq a3 (.mv (x6 3)))])
def bT4:=wu Z2.eq_1
def Z3:CC:=(.seq Z1 (.cond eb (.seq Z2 .ret) .skip))
def bT5:=wu Z3.eq_1
def Z4:CC:=(.reg [(qq eX (.mv z0)),(ee gC (.call 21 [gM])),(qq dA (.mv gS)),(qq fK (.ex 0 gf)),(qq i5 (.ex 1 gf)),(qq a4 (.mv hU)),(qq a5 (.mv jz))])
def bT6:=wu Z4.eq_1
def Z5:CC:=(.reg [(qq gh (.mv z5)),(qq fE (.un .not k7))])
def bT7:=wu Z5.eq_1
def Z6:CC:=(.reg [(qq j9 (.bld [.l0] [])),(ez (.st 1 z2 kL)),(qq a3 (.mv (x6 4)))])
def bT8:=wu Z6.eq_1
def Z7:CC:=(.seq Z5 (.cond ju (.seq Z6 .ret) .skip))
def bT9:=wu Z7.eq_1
def Z8:CC:=(.reg [(qq gO (.mv z4)),(qq jn (.bld [.l0,(.i .i64 0)] [(0,1,k8)])),(aa gP (.bx 80 2 jA)),(qq a6 (.mv kM))])
def bU0:=wu Z8.eq_1
def KH:CC:=(.reg [(aa a7 (.al 25 [.l0]))])
def b72:=wu KH.eq_1
def KI:CC:=(.reg [(qq a8 (.mv (x6 0)))])
def b73:=wu KI.eq_1
def KJ:CC:=(.reg [(qq ja (.mv z8)),(qq gQ (.mv z6)),(ee kQ (.call 34 [lB,(.c (.s 1 33))])),(qq gU (.bld [(.i .i64 0),(.b false),.l0,.l0,(.b false),.l0] [(0,1,lw),(1,1,mH)])),(aa a9 (.al 39 [(.i .i64 0),(.b false),.l0,.l0,(.b false),.l0])),(ez (.st 6 z9 mI))])
def b74:=wu KJ.eq_1
def KK:CC:=(.reg [(qq dJ (.mv xT))])
def Ep:=wu KK.eq_1
def t5:CC:=(.dreg 9 [(0,0,(qq jv (.fa 5 z9))),(1,1,(qq jC (.ld1 nv))),(2,0,(qq lz (.mv z6))),(3,4,(ee lE (.call 35 [oC]))),(4,12,(qq jx (.bld [.l0] [(0,1,pQ)]))),(5,28,(aa iK (.bsl 42 1 1 [.l0] [(0,pR)]))),(6,63,(ee mK (.app 42 1 24 ny pM))),(7,127,(qq ka (.fa 5 z9))),(8,255,(ez (.st 1 oF pS)))])
def b75:=wu t5.eq_1
def xD:CC:=(.reg [(qq mL (.fa 5 z9)),(qq lA (.ld1 qS)),(qq nj (.ln .slice qT)),(qq jb (.bi .eql rJ (x6 1))),(qq kR (.mv pT)),(aE oK (.mv z6) kR),(p5 lF (.call 34 [rL,(.c (.s 1 60))]) kR),(qq oL (.pk rK qU xF))])
def Uk:=wu xD.eq_1
def KL:CC:=(.reg [(qq oM (.mv z6)),(ee kb (.call 36 [rN])),(qq ll (.mv sq)),(qq lG (.ex 0 sO)),(qq qZ (.ex 1 sO)),(qq r0 (.fa 2 z9)),(ez (.st 1 uP uN)),(qq dJ (.mv uZ))])
def Ul:=wu KL.eq_1
def KM:CC:=(.reg [(qq mM (.mv eK)),(qq sv (.un .not v7))])
def Er:=wu KM.eq_1
def KN:CC:=(.reg [(qq uS (.bld [.l0] [])),(ez (.st 1 z2 wW)),(qq a3 (.mv (x6 4)))])
def Um:=wu KN.eq_1
def KO:CC:=(.cond vD (.seq KN .ret) .skip)
def Es:=wu KO.eq_1
def xE:CC:=(.cond rM (.seq KL (.seq KM KO)) .skip)
def Et:=wu xE.eq_1
def KP:CC:=(.reg [(qq pO (.mv z6)),(ee sZ (.call 34 [za,(.c (.s 1 124))])),(qq vN (.un .not vE))])
def b76:=wu KP.eq_1
def t8:CC:=(.seq KP (.cond BH (.exit 2) .skip))
def b77:=wu t8.eq_1
def nS:CC:=(.loop (.block 3 (.seq t5 (.seq (.seq xD xE) t8))))
def Un:=wu nS.eq_1
def xG:CC:=(.reg [(qq vO (.mv z6)),(ee sw (.call 34 [Bg,(.c (.s 2 15934))])),(qq vP (.fa 4 z9)),(ez (.st 1 Bi Bh))])
def b78:=wu xG.eq_1
def tc:CC:=(.reg [(qq sy (.fa 4 z9)),(qq vQ (.ld1 BI)),(qq nA (.mv Bj)),(aw vR (.mv z6) nA),(jJ ve (.call 34 [BJ,(.c (.s 1 62))]) nA),(qq oN (.pk zk xT zb))])
def Eu:=wu tc.eq_1
def Ch:CC:=(.reg [(qq vf (.mv z6)),(ee uT (.call 36 [zd])),(qq rS (.mv ze)),(qq uU (.ex 0 vF)),(qq oD (.ex 1 vF)),(qq uV (.fa 3 z9)),(ez (.st 1 zn zm)),(qq dJ (.mv zf))])
def b79:=wu Ch.eq_1
def Ci:CC:=(.reg [(qq fF (.mv eK)),(qq pP (.un .not ss))])
def b80:=wu Ci.eq_1
def KQ:CC:=(.reg [(qq vg (.bld [.l0] [])),(ez (.st 1 z2 zq)),(qq a3 (.mv (x6 4)))])
def b81:=wu KQ.eq_1
def Cj:CC:=(.cond zo (.seq KQ .ret) .skip)
def b82:=wu Cj.eq_1
def td:CC:=(.cond zl (.seq Ch (.seq Ci Cj)) .skip)
def yQ:=wu td.eq_1
def tf:CC:=(.reg [(qq r4 (.fa 0 z7)),(qq vT (.ld1 zr)),(qq vU (.ldn 6 z9)),(aa vV (.bsl 39 1 6 [(.i .i64 0),(.b false),.l0,.l0,(.b false),.l0] [(0,Bn)])),(ee uW (.app 39 6 96 Bm Bo)),(qq xe (.fa 0 z7)),(ez (.st 1 BL BK))])
def b83:=wu tf.eq_1
def tg:CC:=(.reg [(qq oO (.mv z6)),(ee t0 (.call 34 [BM,(.c (.s 1 59))]))])
def b84:=wu tg.eq_1
def KR:CC:=(.reg [(qq a8 (.mv (x6 1)))])
def b85:=wu KR.eq_1
def KS:CC:=(.reg [(qq zB (.mv z6)),(ee vW (.call 34 [BO,(.c (.s 2 9766))]))])
def b86:=wu KS.eq_1
def KT:CC:=(.reg [(qq a8 (.mv (x6 2)))])
def b87:=wu KT.eq_1
def KU:CC:=(.reg [(qq Bv (.mv z6)),(ee Bw (.call 34 [GH,(.c (.s 2 31868))]))])
def b88:=wu KU.eq_1
def KV:CC:=(.reg [(qq a8 (.mv (x6 3)))])
def b89:=wu KV.eq_1
def KW:CC:=(.cond ET KV (.exit 0))
def b90:=wu KW.eq_1
def KZ:CC:=(.cond ES KT (.seq KU KW))
def b91:=wu KZ.eq_1
def th:CC:=(.cond BN KR (.seq KS KZ))
def b92:=wu th.eq_1
def Ck:CC:=(.seq (.seq tc td) (.seq tf (.seq tg th)))
def b93:=wu Ck.eq_1
def L0:CC:=(.seq KJ (.seq KK (.seq (.block 2 nS) (.seq xG Ck))))
def b94:=wu L0.eq_1
def ti:CC:=(.reg [(qq rT (.mv z6)),(qq Bx (.nck EU)),(qq BU (.fa 1 EV)),(qq BV (.ld1 GI)),(qq BW (.mv z4)),(qq BX (.ln .slice GJ)),(qq BZ (.bi .lss EW GK)),(qq Bz (.mv GL)),(aw xf (.ldn 1 z7) Bz),(jJ H5 (.call 18 [Jb]) Bz),(aw H6 (.bi .neq Jc (x6 0)) Bz),(qq H7 (.pk Ja xT Jd))])
def Uo:=wu ti.eq_1
def L4:CC:=(.reg [(qq oJ (.bld [.l0] [])),(ez (.st 1 z2 qR)),(qq a3 (.mv (x6 4)))])
def b95:=wu L4.eq_1
def tj:CC:=(.cond Je (.seq L4 .ret) .skip)
def b96:=wu tj.eq_1
def tn:CC:=(.reg [(qq ie (.ldn 1 z7)),(ez (.st 1 z2 yZ)),(qq a3 (.mv (x6 0)))])
def b97:=wu tn.eq_1
def L5:CC:=(.seq (.block 0 (.loop (.block 1 L0))) (.seq (.seq ti tj) (.seq tn .ret)))
def b98:=wu L5.eq_1
def L6:CC:=(.seq Z7 (.seq Z8 (.seq KH (.seq KI L5))))
def b99:=wu L6.eq_1
def c11:CF:= .mk 7 [.cn a2 1,.t a3] (.seq Z0 (.seq Z3 (.seq Z4 L6)))
theorem e11(v0:V):bz 7 [v0]=(.n uY (some v0) uY):=rfl
def su:=ai @e11 (ai @bT2 (ai @bT3 (ai @bT4 (ai @bT5 (ai @bT6 (ai @bT7 (ai @bT8 (ai @bT9 (ai @bU0 (ai @b72 (ai @b73 (ai @b74 (ai @Ep (ai @b75 (ai @Uk (ai @Ul (ai @Er (ai @Um (ai @Es (ai @Et (ai @b76 (ai @b77 (ai @Un (ai @b78 (ai @Eu (ai @b79 (ai @b80 (ai @b81 (ai @b82 (ai @yQ (ai @b83 (ai @b84 (ai @b85 (ai @b86 (ai @b87 (ai @b88 (ai @b89 (ai @b90 (ai @b91 (ai @b92 (ai @b93 (ai @b94 (ai @Uo (ai @b95 (ai @b96 (ai @b97 (ai @b98 (@b99))))))))))))))))))))))))))))))))))))))))))))))))
structure RR(F:RO)(lo cs:Nat)(Ms:Mem)(v:V)(TT:List T2)(M1:Mem)(c1:Nat)(M2:Mem)(c2:Nat)(ts:List T2):Prop where
 g:eW (fun x=>x=cs) c1 M1 c2 M2
 ok:cR F M2 c2
 cu:vJ cs v TT M2 ts
 bk:Bk lo cs Ms M2
theorem vJ.has{cu:Nat}{v:V}{TT ts:List T2}{M:Mem}(h:vJ cu v TT M ts):∃x,M.get cu=some x:=by obtain⟨k,mk,_⟩:=h;exact⟨_,mk⟩
theorem vJ.get{cu:Nat}{v:V}{TT ts:List T2}{M M2:Mem}(h:vJ cu v TT M ts)(e:M2.get cu=M.get cu):vJ cu v TT M2 ts:=by obtain⟨k,mk,k1,k2⟩:=h;exact⟨k,e.trans mk,k1,k2⟩
theorem RR.grx{F:RO}{lo cs c1 c2 c3:Nat}{Ms M1 M2 M3:Mem}{v:V}{TT ts ts':List T2}(h:RR F lo cs Ms v TT M1 c1 M2 c2 ts)(h3:cs<c1)(g:eW (fun x=>x=cs) c2 M2 c3 M3)(hc:vJ cs v TT M3 ts'):RR F lo cs Ms v TT M1 c1 M3 c3 ts':=by
 have hle:=h.g.le
 refine⟨h.g.trans g,g.ok h.ok fun b _ e=>by rw[e];exact h.cu.has,hc,fun x a b=>(g.old x (by omega) (by omega)).trans (h.bk x a b)⟩
theorem RR.fr{F:RO}{lo cs c1 c2 c3:Nat}{Ms M1 M2 M3:Mem}{v:V}{TT ts:List T2}(h:RR F lo cs Ms v TT M1 c1 M2 c2 ts)(h3:cs<c1)(g:eW (fun x=>c1≤x) c2 M2 c3 M3)(ok:cR F M3 c3):RR F lo cs Ms v TT M1 c1 M3 c3 ts:=by
 have hle:=h.g.le
 have hle2:=g.le
 exact⟨⟨by omega,fun x a b=>(g.old x (by omega) (by omega)).trans (h.g.old x a b),g.new⟩,ok,h.cu.get (g.old cs (by omega) (by omega)),fun x a b=>(g.old x (by omega) (by omega)).trans (h.bk x a b)⟩
theorem RR.grow{F:RO}{lo cs c1 c2 c3:Nat}{Ms M1 M2 M3:Mem}{v:V}{TT ts:List T2}(h:RR F lo cs Ms v TT M1 c1 M2 c2 ts)(h3:cs<c1)(g:Gr c2 M2 c3 M3):RR F lo cs Ms v TT M1 c1 M3 c3 ts:=h.fr h3 (eW.of g) (g.ok h.ok)
theorem RR.put{F:RO}{lo cs c1 c2:Nat}{Ms M1 M2:Mem}{v:V}{TT ts:List T2}(h:RR F lo cs Ms v TT M1 c1 M2 c2 ts)(h3:cs<c1){x:Nat}{y z:bK}(hx:c1≤x)(hx2:x<c2)(hm:M2.get x=some y):RR F lo cs Ms v TT M1 c1 (M2.set x z) c2 ts:=
 h.fr h3 (eW.set (h:=fun x=>c1≤x) h.ok hx2 hx z) (h.ok.put hx2 hm)
theorem Y9(Φ:Nat→Option CF)(h34:Φ 34=some RH){F:RO}{lo cs c1 c2:Nat}{Ms M1 M2:Mem}{v:V}{TT ts:List T2}(hT:zA lo cs Ms v TT)(h:RR F lo cs Ms v TT M1 c1 M2 c2 ts)(h3:cs<c1)(z:List UInt8)(hz:z≠[]):
 Calls Φ F 34 [.p cs 0,sV z] M2 c2 fun r M' c'=>c2≤c'∧(∀x,x<c2→x≠cs→M'.get x=M2.get x)∧((∃rs,isS z ts=some rs∧r= .b true∧RR F lo cs Ms v TT M1 c1 M' c' rs)∨(isS z ts=none∧r= .b false∧RR F lo cs Ms v TT M1 c1 M' c' ts)):=by
 have hle:=h.g.le
 refine(w34 Φ h34 h.ok h.bk hT (by omega) h.cu z hz).mono ?_
 rintro r M' c' ⟨g,⟨rs,e1,rfl,e2⟩|⟨e1,rfl,e2⟩⟩
 ·exact⟨g.le,fun x a b=>g.old x a b,.inl ⟨rs,e1,rfl,h.grx h3 g e2⟩⟩
 ·exact⟨g.le,fun x a b=>g.old x a b,.inr ⟨e1,rfl,h.grx h3 g e2⟩⟩
theorem bZ8(Φ:Nat→Option CF)(h36:Φ 36=some J6){F:RO}{lo cs c1 c2:Nat}{Ms M1 M2:Mem}{v:V}{TT ts:List T2}(hT:zA lo cs Ms v TT)(h:RR F lo cs Ms v TT M1 c1 M2 c2 ts)(h3:cs<c1):
 Calls Φ F 36 [.p cs 0] M2 c2 fun r M' c'=>∃pv,r= .t [.g [pv],.b (!(redir ts).2.1)]∧bC pv=true∧rP lo cs Ms pv (redir ts).1∧RR F lo cs Ms v TT M1 c1 M' c' (redir ts).2.2∧(∀x,x<c2→x≠cs→M'.get x=M2.get x)∧c2≤c':=by
 have hle:=h.g.le
 refine(w36 Φ h36 h.ok (by omega) h.bk (aj _) hT h.cu).mono ?_
 rintro r M' c' ⟨g,pv,rfl,p1,hw,hc⟩
 exact⟨pv,rfl,p1,hw,h.grx h3 g hc,fun x a b=>g.old x a b,g.le⟩
def zx(F:RO)(lo cs:Nat)(Ms M:Mem)(a c:Nat)(vc:V)(cl:List eB):Prop:=∃b es,aX M a c b 42 1 vc es∧es.length=cl.length∧cl.length≤1000000∧ ∀i (h:i<es.length) (h':i<cl.length),∃wv l h2,es[i]=[wv]∧a≤l∧l≤h2∧h2≤c∧(b<l∨h2≤b)∧rO lo cs Ms M l h2 fun M'=>W4 F l M' h2 wv cl[i]
theorem zx.keep{F:RO}{lo cs:Nat}{Ms M M2:Mem}{a c c2:Nat}{vc:V}{cl:List eB}(h:zx F lo cs Ms M a c vc cl)(hc:c≤c2)(hM:∀x,a≤x→x<c→M2.get x=M.get x):zx F lo cs Ms M2 a c2 vc cl:=by
 obtain⟨b,es,hA,h1,h2,h3⟩:=h
 refine⟨b,es,?_,h1,h2,fun i hi hi'=>?_⟩
 ·rcases hA with⟨a0,x|⟨a1,a2,a3,a4⟩⟩
  ·exact⟨a0,.inl x⟩
  ·exact⟨a0,.inr ⟨a1,by omega,a3,(hM b a1 a2).trans a4⟩⟩
 ·obtain⟨wv,l,h2,e1,e2,e3,e4,e5,e6⟩:=h3 i hi hi';exact⟨wv,l,h2,e1,e2,e3,by omega,e5,e6.up fun x a1 a2=>hM x (by omega) (by omega)⟩
theorem zx.own{F:RO}{lo cs:Nat}{Ms M:Mem}{a c:Nat}{vc:V}{cl:List eB}(h:zx F lo cs Ms M a c vc cl):rO lo cs Ms M a c fun M'=>VK F a M' c vc cl:=by
 intro M' hB hM
 obtain⟨b,es,hA,h1,h2,h3⟩:=h
 have hA':aX M' a c b 42 1 vc es:=by
  rcases hA with⟨a0,x|⟨a1,a2,a3,a4⟩⟩
  ·exact⟨a0,.inl x⟩
  ·exact⟨a0,.inr ⟨a1,a2,a3,(hM b a1 a2).trans a4⟩⟩
 refine⟨⟨es,hA'.sl,h1,bm h2 (by decide),fun i hi hi'=>?_⟩,by rw[←h1];exact xq hA'⟩
 obtain⟨wv,l,h2,e1,e2,e3,e4,e5,e6⟩:=h3 i hi hi'
 exact⟨wv,e1,(e6 M' hB fun x a1 a2=>hM x (by omega) (by omega)).up e2 e4⟩
theorem zx.one{F:RO}{lo cs:Nat}{Ms M:Mem}{a c:Nat}{vc:V}{cl:List eB}(h:zx F lo cs Ms M a c vc cl):bC vc=true∧flatten vc=[vc]∧aK [vc]=true:=by
 obtain⟨b,es,hA,_⟩:=h;exact jj (hA.sl (F:=[]))
theorem zx.len{F:RO}{lo cs:Nat}{Ms M:Mem}{a c:Nat}{vc:V}{cl:List eB}(h:zx F lo cs Ms M a c vc cl):pf vc=some (.i .i64 (cl.length:Int)):=by
 obtain⟨b,es,hA,h1,_⟩:=h;rw[←h1];exact(hA.sl (F:=[])).len
theorem bK4(Φ:Nat→Option CF)(h35:Φ 35=some c35)(h36:Φ 36=some J6){F:RO}{lo cs c c1 c2:Nat}{Ms M1 M2:Mem}{v:V}{TT ts:List T2}{s:List UInt8}{j:Int}{nt:Bool}{vi vc:V}{cl:List eB}(hT:zA lo cs Ms v TT)(h:RR F lo cs Ms v TT M1 c1 M2 c2 ts)(hlo:lo≤cs)(h3:cs+2≤c1)(hc:c1<c2)(hml:ts.length≤500000)(mp:M2.get c1=some (ae 39 [.i .i64 j,.b nt,vi,.l0,.b false,vc]))(hca:zx F lo cs Ms M2 (c1+1) c2 vc cl)(hcl:cl.length≤900000)(b10:V)(u:List (Option V))(Q:Ex→St→Prop)
 (hQ:∀(u:List (Option V)) M' c' vc',RR F lo cs Ms v TT M1 c1 M' c' (bI ts).2→zx F lo cs Ms M' (c1+1) c' vc' (cl++[(bI ts).1])→M'.get c1=some (ae 39 [.i .i64 j,.b nt,vi,.l0,.b false,vc'])→c2≤c'→Q .nrm (.mk ((rD u (sV s) (.p c 0) v (.p cs 0) (.p (cs+1) 0) (.i .i64 j) (.p c1 0) b10)) [] M' c')):
 Wp t5 (K Φ none 11 F) (.mk ((rD u (sV s) (.p c 0) v (.p cs 0) (.p (cs+1) 0) (.i .i64 j) (.p c1 0) b10)) [] M2 c2) Q:=by
 have l5:load1 F M2 c1 5=some vc:=au mp 5
 have hfr:=h.ok.free
 simp only[WX,su,l5]
 have g5:Gr c2 M2 (c2+9) M2:=(Gr.refl h.ok).up (by omega)
 have hR5:=h.grow (by omega) g5
 refine Vg (hx:=fun x=>x=cs) _ _ _ _ _ _ _ _ _ _ _ hR5.ok (by intro e he;simp only[bq,List.not_mem_nil,or_false]at he;subst he;show¬_=cs;dsimp only;omega) (fun b hb hx=>by rw[hx];exact hR5.cu.has) ?_
 intro F1 N1 okn hlk hkp
 have hkp2:∀x,x≤cs→N1.get x=M2.get x:=fun x hx=>hkp x (by intro e he;simp only[bq,List.not_mem_nil,or_false]at he;subst he;dsimp only;omega)
 refine(show lD (dt (j5 Φ) F1 35 [.p cs 0] N1 (c2+9) (Φ 35)) _ from(w35 Φ h35 h36 okn (by omega) (fun x a b=>(hkp2 x (by omega)).trans (hR5.bk x a b)) (aj _) hT (hR5.cu.get (hkp2 cs (aj _))) (by omega)).mono ?_)
 rintro wv N2 c5 ⟨gN,hW,hC2⟩
 refine⟨gN,fun M6 g6 hM6=>?_⟩
 have hle6:=g6.le
 have hR6:RR F lo cs Ms v TT M1 c1 M6 c5 (bI ts).2:=hR5.grx (by omega) g6 (hC2.get (hM6 cs (.inr rfl)))
 have hW6:v8 lo cs Ms M6 (c2+9) c5 wv (bI ts).1:=by
  obtain⟨b,es,hA,a2,a3,a4⟩:=hW;refine⟨b,es,?_,a2,a3,a4⟩;rcases hA with⟨a0,a|⟨b1,b2,b3,b4⟩⟩
  ·exact⟨a0,.inl a⟩
  ·exact⟨a0,.inr ⟨b1,b2,b3,by rw[hM6 b (.inl b1)];exact b4⟩⟩
 obtain⟨w1,w2,w3⟩:=hW6.one
 have mp6:=(g6.old c1 (by omega) (by omega)).trans mp
 have lk:(look F M6 (c2+5)).isNone=true:=by rw[cF (g6.old _ (by omega) (by omega)),h.ok.look (by omega)];rfl
 have rf:bY (c2+5) [(1,c1)]=true:=by rw[bo _ _ _ _ (by omega),cK]
 have hG:∀v,flatten (V.g [v])=[v]:=fun _=>rfl
 simp only[WX,Nat.reducePow,Nat.reduceDiv,Nat.reduceMod,Nat.reduceBEq,Nat.reduceLeDiff,lk,rf,uH,mh,rI,hG,w1,w2,Dc]
 obtain⟨b,es,hA,q1,q2,q3⟩:=hca
 have hM4:∀x,c1≤x→x<c2→(M6.set (c2+5) (cL [V.l0] 42 [wv])).get x=M2.get x:=fun x a1 a2=>by rw[ak _ _ (by omega)];exact g6.old x (by omega) (by omega)
 have hRZ:RR F lo cs Ms v TT M1 c1 (M6.set (c2+5) (cL [V.l0] 42 [wv])) c5 (bI ts).2:=by
  refine⟨⟨by have:=hR6.g.le;omega,fun x a1 a2=>(ak _ _ (by omega)).trans (hR6.g.old x a1 a2),fun x a1=>(ak _ _ (by omega)).trans (hR6.g.new x a1)⟩,?_,hR6.cu.get (ak _ _ (by omega)),fun x a1 a2=>(ak _ _ (by omega)).trans (hR6.bk x a1 a2)⟩;exact(show eW (fun x=>x=cs) c2 M2 c5 (M6.set (c2+5) (cL [V.l0] 42 [wv]))from⟨by omega,fun x a1 a2=>(ak _ _ (by omega)).trans (g6.old x (by omega) a2),fun x a1=>(ak _ _ (by omega)).trans (hR6.g.new x a1)⟩).ok h.ok fun b _ e=>by rw[e];exact h.cu.has
 obtain⟨b1,hA1,hb1⟩:∃b1,aX (M6.set (c2+5) (cL [V.l0] 42 [wv])) (c1+1) c5 b1 42 1 vc es∧((b1=b∧c1+1≤b∧b<c2∧(M6.set (c2+5) (cL [V.l0] 42 [wv])).get b=some (pC 42 es.flatten))∨(es=[]∧c5≤b1)):=by
  rcases hA with⟨a0,⟨a1,a2⟩|⟨a1,a2,a3,a4⟩⟩
  ·exact⟨c5,⟨a0,.inl ⟨a1,a2⟩⟩,.inr ⟨a1,aj _⟩⟩
  ·have:=(hM4 b (by omega) a2).trans a4;exact⟨b,⟨a0,.inr ⟨a1,by omega,a3,this⟩⟩,.inl ⟨rfl,a1,a2,this⟩⟩
 have hys:cE F (M6.set (c2+5) (cL [V.l0] 42 [wv])) c5 1 (.l (c2+5) 0 1 1) [[wv]]:=II (d:=[V.l0]) (ty:=42) (by rw[am];rfl) (by omega) (fun e he=>by rw[List.mem_singleton]at he;subst he;rfl) rfl
 have gA:Gr (c1+1) (M6.set (c2+5) (cL [V.l0] 42 [wv])) c5 (M6.set (c2+5) (cL [V.l0] 42 [wv])):=⟨by omega,fun _ _=>rfl,hRZ.ok.hiM⟩
 refine eH ((fO (bytes:=24) hA1 gA (by decide) hys (by show aK [wv]=true;exact w3) (eP (by simp only[aA,aM];omega) (by simp only[aA,aM];omega))).mono ?_)
 rintro v' M7 c7 ⟨b',hA7,g7,hle7,hf7,hb7⟩
 have gx7:eW (fun x=>x=b1) c5 (M6.set (c2+5) (cL [V.l0] 42 [wv])) c7 M7:=⟨hle7,fun x a b=>hf7 x a b,g7.new⟩
 have ok7:cR F M7 c7:=gx7.ok hRZ.ok fun x a e=>by
  rcases hb1 with⟨rfl,_,_,hm⟩|⟨_,a2⟩
  ·rw[e];exact⟨_,hm⟩
  ·omega
 have hb1c:c1+1≤b1:=by rcases hb1 with⟨rfl,a1,_⟩|⟨_,a2⟩<;>omega
 have hR7:=hRZ.fr (by omega) (gx7.wk fun x _ e=>by rw[e];omega) ok7
 have mp7:M7.get c1=some (ae 39 [.i .i64 j,.b nt,vi,.l0,.b false,vc]):=(hf7 c1 (by omega) (by omega)).trans ((hM4 c1 (aj _) (by omega)).trans mp)
 obtain⟨k1,k2,k3⟩:=jj (hA7.sl (F:=F))
 have st:=aC mp7 5 [v'] (by simp) k3
 have ho:over [.i .i64 j,.b nt,vi,.l0,.b false,vc] 5 [v']=[.i .i64 j,.b nt,vi,.l0,.b false,v']:=rfl
 rw[ho]at st
 have hR8:=hR7.put (by omega) (aj _) (z:=ae 39 [.i .i64 j,.b nt,vi,.l0,.b false,v']) (by omega) mp7
 have f8:=hR8.ok.free
 refine⟨ok7.free,?_⟩
 simp only[WX,Nat.reducePow,Nat.reduceDiv,Nat.reduceMod,Nat.reduceBEq,j0,k2,st,f8]
 refine hQ (G1 (X1 (G1 (X1 (G1 (X1 (G4 (G1 (bf (bA (br (X4 [])))))))))))) _ _ v' hR8 ?_ (am _ _ _) (by omega)
 have FR:∀x,c1<x→x<c5→x≠b1→x≠c2+5→(M7.set c1 (ae 39 [.i .i64 j,.b nt,vi,.l0,.b false,v'])).get x=M6.get x:=fun x a1 a2 a3 a4=>by
  rw[ak _ _ (by omega),hf7 x a2 a3,ak _ _ a4]
 refine⟨b',es++[[wv]],?_,by rw[aH,aH,q1];rfl,by rw[aH,List.length_singleton];omega,fun i hi hi'=>?_⟩
 ·rcases hA7 with⟨a0,x|⟨a1,a2,a3,a4⟩⟩
  ·exact⟨a0,.inl x⟩
  ·exact⟨a0,.inr ⟨a1,a2,a3,(ak _ _ (by omega)).trans a4⟩⟩
 ·by_cases hie:i<es.length
  ·obtain⟨wv',l,h2,e1,e2,e3,e4,e5,e6⟩:=q3 i hie (by omega);have hbl:b1<l∨h2≤b1:=by rcases hb1 with⟨rfl,_,_⟩|⟨_,a2⟩<;>omega
   refine⟨wv',l,h2,by rw[dC hie];exact e1,e2,e3,by omega,by omega,?_⟩;have:=e6.up (M2:=M7.set c1 (ae 39 [.i .i64 j,.b nt,vi,.l0,.b false,v'])) fun x a1 a2=>(FR x (by omega) (by omega) (by omega) (by omega)).trans (g6.old x (by omega) (by omega));rw[dC (by omega)];exact this
  ·rw[aH]at hi;simp only[aA,aM]at hi;obtain rfl:i=es.length:=by omega
   have hbl:b1<c2∨c5≤b1:=by rcases hb1 with⟨rfl,_,a,_⟩|⟨_,a2⟩<;>omega
   refine⟨wv,c2+9,c5,by rw[dB (aj _)];simp,by omega,by omega,by omega,by omega,?_⟩;have:=(hW6.own (F:=F) (by omega)).up (M2:=M7.set c1 (ae 39 [.i .i64 j,.b nt,vi,.l0,.b false,v'])) fun x a1 a2=>FR x (by omega) (by omega) (by omega) (by omega);rw[dB (by omega)];simp only[q1,Nat.sub_self,List.getElem_cons_zero];exact this
end
end Go.Proofs.YtmbpllipombieaaDoor.Ev
