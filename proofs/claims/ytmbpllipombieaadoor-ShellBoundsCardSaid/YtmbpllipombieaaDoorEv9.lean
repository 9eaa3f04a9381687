/- What is proved here: pieces of the evaluator's soundness: if the evaluator comes to a value, the model's run comes to it, for every world and tape; no conditions beyond the hypotheses of each theorem. -/
import Derived.Test.YtmbpllipombieaaDoorEv8
set_option linter.unusedSimpArgs false
set_option linter.unusedVariables false
set_option linter.defProp false
set_option maxRecDepth 10000
set_option maxHeartbeats 16000000
namespace Go.Proofs.YtmbpllipombieaaDoor.Ev
open Go
noncomputable section
abbrev Yt(u:List (Option V))(x0 x1 x4:V):T:=(.n (.n (aJ u 15 7 23 3 19 11 27) (some x1) (aJ u 17 9 25 5 21 13 29)) (some x0) (.n (.n (ek u 16 8 24) (some x4) (ek u 20 12 28)) (uO u 2) (aJ u 18 10 26 6 22 14 30)))
def Tj:CC:=(.reg [(aa a4 (.bx 59 2 z1)),(qq a5 (.mv xF))])
def Tl:CC:=(.reg [(qq a6 (.ld1 z2)),(qq a7 (.ldn 2 z4)),(aa a8 (.bsl 59 1 2 [(.s 0 0),.l0] [(0,z7)])),(ee a9 (.app 59 2 40 z6 z8)),(ez (.st 1 z2 z9))])
def Tm:CC:=(.reg [(qq a5 (.mv xT))])
def c29:CF:= .mk 4 [.t a5] (.seq Tj (.seq Tl (.seq Tm .ret)))
theorem e29(v0 v1 v2:V):bA 4 [v0,v1,v2]=(.n (.n nI (some v1) nI) (some v0) (.n nI (some v2) nI)):=rfl
def B29:=ai @e29 (ai (wu Tj.eq_1) (ai (wu Tl.eq_1) (wu Tm.eq_1)))
def Tp:CC:=(.reg [(qq a3 (.mv xF))])
def Tq:CC:=(.reg [(qq a4 (.ld1 z1)),(qq a5 (.ln .slice z4)),(qq a6 (.bi .eql z5 (x6 0))),(qq a7 (.mv z6)),(aH a8 (.ld1 z1) a7),(aH a9 (.iaS 2 z8 (x6 0)) a7),(aH dV (.fa 0 z9) a7),(aH fo (.ld1 fT) a7),(aH fF (.mv z0) a7),(aH eO (.bi .neq ec eP) a7),(qq gp (.pk z7 xT ej)),(qq eC (.mv i9)),(aH i7 (.mv z0) eC),(aH fY (.bi .eql j3 (.c (.s 0 0))) eC),(qq gG (.pk i5 xT gy))])
def Ts:CC:=(.reg [(qq a3 (.mv xF))])
def Tt:CC:=(.seq Tq (.cond ju (.seq Ts .ret) .skip))
def Tu:CC:=(.reg [(qq kG (.ld1 z1)),(qq jI (.slL 2 mA (some (x6 1)) none none)),(ez (.st 1 z1 mB))])
def Tv:CC:=(.reg [(qq a3 (.mv xT))])
def OU:CF:= .mk 5 [.t a3] (.seq Tp (.seq Tt (.seq Tu (.seq Tv .ret))))
theorem e30(v0 v1:V):bA 5 [v0,v1]=(.n (.n ir (some v1) ir) (some v0) j1):=rfl
def B30:=ai @e30 (ai (wu Tp.eq_1) (ai (wu Tq.eq_1) (ai (wu Ts.eq_1) (ai (wu Tt.eq_1) (ai (wu Tu.eq_1) (wu Tv.eq_1))))))
def Tw:CC:=(.reg [(qq a5 (.ld1 z1)),(qq a6 (.ln .slice z5)),(qq a7 (.bi .gtr z6 (x6 0))),(qq a8 (.mv z7)),(aR a9 (.ld1 z1) a8),(aR dV (.iaS 2 z9 (x6 0)) a8),(aR fo (.fa 0 fT) a8),(aR fF (.ld1 ec) a8),(aR eO (.bi .eql eP (.c (.s 0 0))) a8),(qq gp (.pk z8 ej xF)),(qq eC (.mv i9)),(aR i7 (.mv z4) eC),(aR fY (.ln .slice j3) eC),(aR gG (.mv z0) eC),(aR kG (.bi .lss gy ju) eC),(qq jI (.pk i5 mA xF))])
def Dd:=wu Tw.eq_1
def Tx:CC:=(.seq Tw (.cond mB .skip (.exit 0)))
def De:=wu Tx.eq_1
def Tz:CC:=(.reg [(qq i4 (.mv z4)),(qq lw (.ld1 z1)),(qq kH (.iaS 2 nL (x6 0))),(qq jJ (.fa 1 mC)),(qq mq (.ldn 1 oJ)),(aa lL (.bsl 36 1 1 [.l0] [(0,qh)])),(ee iH (.app 36 1 24 nK pL)),(qq a4 (.mv nE))])
def b46:=wu Tz.eq_1
def TA:CC:=(.reg [(qq nO (.ld1 z1)),(qq kI (.slL 2 qi (some (x6 1)) none none)),(ez (.st 1 z1 qj))])
def b47:=wu TA.eq_1
def TB:CC:=(.block 0 (.loop (.seq Tx (.block 1 (.seq Tz TA)))))
def b48:=wu TB.eq_1
def HS:CC:=(.reg [(qq lM (.mv z4)),(qq a3 (.mv rZ))])
def b49:=wu HS.eq_1
def TC:CC:=(.seq (.reg [(qq a4 (.mv (.c .l0)))]) (.seq TB (.seq HS .ret)))
def b50:=wu TC.eq_1
def TD:CC:=(.seq (.reg [(qq a3 (.mv (.c .l0)))]) TC)
def b51:=wu TD.eq_1
def Eb:CF:= .mk 5 [.t a3] TD
theorem e31(v0 v1:V):bA 5 [v0,v1]=(.n (.n ir (some v1) ir) (some v0) j1):=rfl
def B31:=ai @e31 (ai @Dd (ai @De (ai @b46 (ai @b47 (ai @b48 (ai @b49 (ai @b50 (@b51))))))))
def TE:CC:=(.reg [(qq a5 (.ld1 z0)),(ee a6 (.cv z5 [(x6 1)])),(qq a7 (.ln .slice z6)),(qq a8 (.mv (x6 0)))])
def TF:CC:=(.reg [(qq a9 (.bi .lss z8 z7))])
def TG:CC:=(.reg [(qq dV (.iaS 1 z6 z8)),(qq fo (.ldn 1 fT)),(aa a4 (.al 36 [.l0])),(ez (.st 1 z4 ec))])
def TH:CC:=(.reg [(qq fF (.ldn 1 z4)),(ez (.st 1 z2 eP))])
def TI:CC:=(.reg [(qq eO (.bi .add z8 (x6 1))),(qq a8 (.mv ej))])
def TJ:CC:=(.seq (.cond z9 .skip (.exit 0)) (.seq (.block 1 (.seq TG (.seq TH .ret))) TI))
def TL:CC:=(.reg [(ez (.st 1 z1 xT))])
def TM:CC:=(.reg [(qq gp (.bld [.l0] [])),(ez (.st 1 z2 i9))])
def TN:CC:=(.seq (.seq TE (.block 0 (.loop (.seq TF TJ)))) (.seq TL (.seq TM .ret)))
def HT:CC:=(.seq (.reg [(aa a2 (.al 36 [.l0]))]) TN)
def PR:CF:= .mk 4 [.cn a2 1] HT
theorem e32(v0 v1:V):bA 4 [v0,v1]=(.n (.n nI (some v1) nI) (some v0) ir):=rfl
def B32:=ai @e32 (ai (wu TE.eq_1) (ai (wu TF.eq_1) (ai (wu TG.eq_1) (ai (wu TH.eq_1) (ai (wu TI.eq_1) (ai (wu TJ.eq_1) (ai (wu TL.eq_1) (ai (wu TM.eq_1) (ai (wu TN.eq_1) (wu HT.eq_1))))))))))
abbrev T2:=List UInt8×List Pc
def Bk(lo cs:Nat)(Ms M':Mem):Prop:=∀x,lo≤x→x<cs→M'.get x=Ms.get x
def Dp(lo cs:Nat)(Ms:Mem)(v:V)(w:List Pc):Prop:=∀(F:RO) M',Bk lo cs Ms M'→dt F M' cs v w
def ug(lo cs:Nat)(Ms:Mem)(v:V)(ts:List T2):Prop:=∃es:List (List V),(∀(F:RO) M',Bk lo cs Ms M'→cB F M' cs 2 v es)∧es.length=ts.length∧ts.length≤1000000∧ ∀i (h:i<es.length) (h':i<ts.length),∃pv,es[i]=[sV ts[i].1,pv]∧Dp lo cs Ms pv ts[i].2
theorem cB.upc{F:RO}{M:Mem}{c c' sz:Nat}{v:V}{es:List (List V)}(h:cB F M c sz v es)(hc:c≤c'):cB F M c' sz v es:=by
 rcases h with⟨a,b|⟨b,o,hv,hb,hcs⟩⟩
 ·exact⟨a,.inl b⟩
 ·exact⟨a,.inr ⟨b,o,hv,by omega,hcs⟩⟩
theorem dt.upc{F:RO}{M:Mem}{c c':Nat}{v:V}{w:List Pc}(h:dt F M c v w)(hc:c≤c'):dt F M c' v w:=⟨h.1.upc hc,h.2⟩
theorem ug.len{lo cs:Nat}{Ms:Mem}{v:V}{ts:List T2}(h:ug lo cs Ms v ts):tD v=some (.i .i64 (ts.length:Int)):=by
 obtain⟨es,h1,h2,_⟩:=h
 rw[←h2];exact(h1 [] Ms fun _ _ _=>rfl).len
theorem ug.head{F:RO}{lo cs:Nat}{Ms M:Mem}{v:V}{t:T2}{r:List T2}(h:ug lo cs Ms v (t::r))(hB:Bk lo cs Ms M):
 ∃b o pv,b<cs∧iN 2 v (.i .i64 0)=some (.p b o)∧load1 F M b o=some (sV t.1)∧loadN F M b (o+1) 1=some [pv]∧Dp lo cs Ms pv t.2:=by
 obtain⟨es,h1,h2,h3,h4⟩:=h
 have h0:0<es.length:=by rw[h2];simp
 obtain⟨b,o,a1,a2,a3⟩:=(h1 F M hB).at 0 h0
 obtain⟨pv,e,hw⟩:=h4 0 h0 (by simp)
 rw[e]at a3
 have c0:=a3 0 (by simp)
 have c1:=a3.loadN 1 1 (by simp) (by decide)
 exact⟨b,o,pv,a1,a2 .i64,c0,c1,hw⟩
theorem ug.tail{lo cs:Nat}{Ms:Mem}{v:V}{t:T2}{r:List T2}(h:ug lo cs Ms v (t::r)):∃v',sJ 2 v (some (.i .i64 1)) none none=some v'∧ug lo cs Ms v' r∧bD v'=true∧flatten v'=[v']∧aE [v']=true:=by
 obtain⟨es,h1,h2,h3,h4⟩:=h
 have hne:es≠[]:=by intro e;rw[e]at h2;cases h2
 obtain⟨v',e1,e2⟩:=D3 (h1 [] Ms fun _ _ _=>rfl) hne
 refine⟨v',e1,⟨es.tail,fun F M' hM'=>?_,by rw[List.length_tail,h2];rfl,by rw[aw]at h3;omega,fun i hi hi'=>?_⟩,pW e2⟩
 ·obtain⟨v2,e3,e4⟩:=D3 (h1 F M' hM') hne;rw[e1]at e3;obtain rfl:=ae e3;exact e4
 ·have:=h4 (i+1) (by rw[List.length_tail]at hi;omega) (by simpa using hi');simp only[List.getElem_cons_succ]at this;rw[List.getElem_tail];exact this
def isS(s:List UInt8):List T2→Option (List T2)
 |t::r=>if t.1=s∧s≠[]then some r else none
 |[]=>none
theorem gL(s:List UInt8)(t:T2)(r:List T2):isS s (t::r)=if t.1=s∧s≠[]then some r else none:=rfl
theorem w30(Φ:Nat→Option CF)(h:Φ 30=some OU){F:RO}{lo cs bl c:Nat}{Ms M:Mem}{v:V}{ts:List T2}(hB:Bk lo cs Ms M)(mb:M.get bl=some (af 71 [v]))(hT:ug lo cs Ms v ts)(s:List UInt8):
 Calls Φ F 30 [sV s,.p bl 0] M c fun r M' c'=>c'=c∧((∃rs v',isS s ts=some rs∧r= .b true∧M'=M.set bl (af 71 [v'])∧ug lo cs Ms v' rs)∨(isS s ts=none∧r= .b false∧M'=M)):=by
 refine aM h ?_
 have l0:load1 F M bl 0=some v:=aq mb 0
 have n1:=hT.len
 cases ts with
 |nil=>
  have d0:decide (((0:Nat):Int)=0)=true:=rfl;simp only[WX,B30,l0,n1,d0];exact .inr rfl
 |cons t r=>
  have d0:decide (((r.length+1:Nat):Int)=0)=false:=ak (by omega);have n1:tD v=some (.i .i64 ((r.length+1:Nat):Int)):=n1;obtain⟨b,o,pv,hb,ia,lt,lp,hw⟩:=hT.head (F:=F) hB;have qn:=qD t.1 s;have qe:=uE s [];have e0:V.s 0 0=sV []:=rfl;rw[←e0]at qe;by_cases h1:t.1=s
  ·rw[aj h1]at qn;by_cases h2:s=[]
   ·rw[aj h2]at qe;simp only[WX,B30,l0,n1,d0,ia,lt,qn,qe,aW];exact .inr (by rw[gL,ab (fun h=>h.2 h2)])
   ·rw[ak h2]at qe;obtain⟨v',e1,e2,w1,w2,w3⟩:=hT.tail;have st:=aK mb 0 [v'] (by simp) w3;simp only[WX,B30,l0,n1,d0,ia,lt,qn,qe,e1,w2,st,aW];exact .inl ⟨r,v',by rw[gL,ac ⟨h1,h2⟩],rfl,e2⟩
  ·rw[ak h1]at qn;simp only[WX,B30,l0,n1,d0,ia,lt,qn,aW];exact .inr (by rw[gL,ab (fun h=>h1 h.1)])
def ei:Nat→List T2→hU×List T2
 |0,ts=>([],ts)
 |_+1,[]=>([],[])
 |m+1,t::r=>if t.1=[]then(t.2::(ei m r).1,(ei m r).2)else([],t::r)
def we(lo cs:Nat)(Ms M:Mem)(c0 c:Nat)(v:V)(l:hU):Prop:=∃b es,bm M c0 c b 36 1 v es∧es.length=l.length∧l.length≤1000000∧ ∀i (h:i<es.length) (h':i<l.length),∃pv,es[i]=[pv]∧Dp lo cs Ms pv l[i]
theorem w31(Φ:Nat→Option CF)(h:Φ 31=some Eb){F:RO}{lo cs bl c:Nat}{Ms M:Mem}{v:V}{ts:List T2}(ok:cU F M c)(hcs:cs≤c)(hbl:bl<lo)(hlc:lo≤cs)(hB:Bk lo cs Ms M)(mb:M.get bl=some (af 71 [v]))(hT:ug lo cs Ms v ts)(m:Nat)(hm:m≤1000000):
 Calls Φ F 31 [.i .i64 (m:Int),.p bl 0] M c fun r M' c'=>iF (fun x=>x=bl) c M c' M'∧we lo cs Ms M' c c' r (ei m ts).1∧ ∃v',M'.get bl=some (af 71 [v'])∧ug lo cs Ms v' (ei m ts).2:=by
 refine aM h ?_
 simp only[WX,B31]
 obtain⟨I,hI⟩:∃I:Nat→St→Prop,∀n s',I n s'↔(∃(c1 k b:Nat) (M1:Mem) (ov v1:V) (cu:hU) (es:List (List V)) (tr:List T2) (u:List (Option V)),n=tr.length∧s'= .mk ((Yt u (.i .i64 (m:Int)) (.p bl 0) ov)) [] M1 c1∧iF (fun x=>x=bl) c M c1 M1∧bm M1 c c1 b 36 1 ov es∧es.length=cu.length∧cu.length+k=m∧(∀i (h:i<es.length) (h':i<cu.length),∃pv,es[i]=[pv]∧Dp lo cs Ms pv cu[i])∧M1.get bl=some (af 71 [v1])∧ug lo cs Ms v1 tr∧ei m ts=(cu++(ei k tr).1,(ei k tr).2)):=⟨fun n s'=>_,fun _ _=>Iff.rfl⟩
 refine bS I ?_ ts.length _ ((hI _ _).2 ⟨c,m,0,M,.l0,v,[],[],ts,(G2 (X2 (G1 (ce (X8 (X2 [])))))),rfl,rfl,iF.of (Gr.refl ok),bm.nil,rfl,by simp,fun i h _=>(by cases h),mb,hT,rfl⟩)
 intro n s' hIs
 obtain⟨c1,k,b,M1,ov,v1,cu,es,tr,u,rfl,rfl,gx,hA,hel,hk,hes,mb1,hT1,hwe⟩:=(hI _ _).1 hIs
 clear hIs
 have hB1:Bk lo cs Ms M1:=fun x h1 h2=>(gx.old x (by omega) (by omega)).trans (hB x h1 h2)
 have l0:load1 F M1 bl 0=some v1:=aq mb1 0
 have n1:=hT1.len
 have hlA:=(hA.sl (F:=F)).len
 have FIN:∀u:List (Option V),ei k tr=([],tr)→Wp HS (K Φ none 31 F) (.mk ((Yt u (.i .i64 (m:Int)) (.p bl 0) ov)) [] M1 c1) (pI .ret (K Φ none 31 F) (nW F [.t (.l (.l .h))] fun r M' c'=>iF (fun x=>x=bl) c M c' M'∧we lo cs Ms M' c c' r (ei m ts).1∧ ∃v',M'.get bl=some (af 71 [v'])∧ug lo cs Ms v' (ei m ts).2)):=by
  intro u he;rw[he,bP]at hwe;simp only[WX,B31];rw[hwe];exact⟨gx,⟨b,es,hA,hel,by show cu.length≤_;omega,hes⟩,v1,mb1,hT1⟩
 cases tr with
 |nil=>
  have d0:decide ((0:Int)<((0:Nat):Int))=false:=rfl;simp only[WX,Dd,De,l0,n1,d0];exact FIN (G2 (X2 (G1 (ce (X8 (X2 [])))))) (by cases k<;>rfl)
 |cons t r=>
  have d0:decide ((0:Int)<((r.length+1:Nat):Int))=true:=aj (by omega);have n1:tD v1=some (.i .i64 ((r.length+1:Nat):Int)):=n1;obtain⟨tb,o,pv,htb,ia,lt,lp,hw⟩:=hT1.head (F:=F) hB1;have qe:=uE t.1 [];have e0:V.s 0 0=sV []:=rfl;rw[←e0]at qe;by_cases h1:t.1=[]
  ·rw[aj h1]at qe;cases k with
   |zero=>
    have d1:decide ((es.length:Int)<(m:Int))=false:=ak (by omega);simp only[WX,Dd,De,l0,n1,d0,ia,lt,qe,hlA,d1,aW];exact FIN (G2 (X2 (G1 (ce (X8 (X2 [])))))) rfl
   |succ k=>
    have d1:decide ((es.length:Int)<(m:Int))=true:=aj (by omega);obtain⟨v',e1,e2,w1,w2,w3⟩:=hT1.tail;obtain⟨p1,p2,p3⟩:=(hw F M1 hB1).one;have hG:∀v,flatten (V.g [v])=[v]:=fun _=>rfl;have ok1:cU F M1 c1:=gx.ok ok (fun b hb hx=>by rw[hx];exact⟨_,mb⟩);have hle:=gx.le;have gZ:=(Gr.refl ok1).set c1 (bK [V.l0] 36 [pv]) (ah _) (aA _) (aG _);have hy:cB F (M1.set c1 (bK [V.l0] 36 [pv])) (c1+1) 1 (.l c1 0 1 1) [[pv]]:=Nl (d:=[V.l0]) (ty:=36) (by rw[am];rfl) (aA _) (fun e he=>by rw[List.mem_singleton]at he;subst he;rfl) rfl;have gA:Gr c M1 (c1+1) (M1.set c1 (bK [V.l0] 36 [pv])):=⟨by omega,fun x hx=>gZ.old x (by omega),gZ.new⟩
    simp only[WX,B31,l0,n1,d0,ia,lt,qe,hlA,d1,lp,hG,p1,aW];refine av ((j5 (bytes:=24) (hA.gr gZ) gA (by decide) hy (by show aE [pv]=true;exact p3) (gk (by simp only[aw,aL];omega) (by simp only[aw,aL];omega))).mono ?_);rintro ov' M2 c2 ⟨b',hA2,g2,hle2,hfr2,hb2⟩;have mb2:M2.get bl=some (af 71 [v1]):=(g2.old bl (by omega)).trans mb1;have l2:load1 F M2 bl 0=some v1:=aq mb2 0;have st:=aK mb2 0 [v'] (by simp) w3;simp only[WX,B31,l2,e1,w2,st];have hA3:bm (M2.set bl (af 71 [v'])) c c2 b' 36 1 ov' (es++[[pv]]):=jQ hA2 (by omega);refine⟨r.length,aA _,(hI _ _).2 ⟨c2,k,b',_,ov',v',cu++[t.2],es++[[pv]],r,(G2 (X2 (G1 (ce (X8 (X2 [])))))),rfl,rfl,?_,hA3,by rw[aO,aO,hel];rfl,by rw[aO];simp only[aw,aL];omega,?_,am _ _ _,e2,?_⟩⟩
    ·refine⟨by omega,fun x hx hn=>?_,fun x hx=>?_⟩
     ·rw[ag _ _ hn,g2.old x hx];exact gx.old x hx hn
     ·rw[ag _ _ (by omega)];exact g2.new x hx
    ·intro i h1 h2;by_cases hi:i<es.length
     ·obtain⟨pv0,a1,a2⟩:=hes i hi (by omega);exact⟨pv0,by rw[eT hi];exact a1,by rw[eT (by omega)];exact a2⟩
     ·rw[aO]at h1;simp only[aw,aL]at h1;obtain rfl:i=es.length:=by omega
      exact⟨pv,by rw[eS (ah _)];simp,by rw[eS (by omega)];simp only[hel,Nat.sub_self,List.getElem_cons_zero];exact hw⟩
    ·rw[hwe,ei,ac h1];simp
  ·rw[ak h1]at qe;simp only[WX,Dd,De,l0,n1,d0,ia,lt,qe,aW];exact FIN (G2 (X2 (G1 (ce (X8 (X2 [])))))) (by cases k with|zero=>rfl|succ k=>rw[ei,ab h1])
def As:List T2→Option (List Pc×List T2)
 |t::r=>if t.1=[]then some (t.2,r)else none
 |[]=>none
theorem kV(t:T2)(r:List T2):As (t::r)=if t.1=[]then some (t.2,r)else none:=rfl
theorem Ok(ts:List T2):ei 1 ts=match As ts with|some (w,r)=>([w],r)|none=>([],ts):=by
 cases ts with
 |nil=>rfl
 |cons t r=>
  rw[ei,kV];split<;>rfl
theorem w32(Φ:Nat→Option CF)(h:Φ 32=some PR)(h31:Φ 31=some Eb){F:RO}{lo cs bl b6 b7 c:Nat}{Ms M:Mem}{v:V}{y:Bool}{ts:List T2}(ok:cU F M c)(hcs:cs≤c)(hbl:bl<lo)(hlc:lo≤cs)(hb6:b6<c)(hb7:b7<c)(h67:cs≤b6)(h66:b6≠b7)(hB:Bk lo cs Ms M)(mb:M.get bl=some (af 71 [v]))(m6:M.get b6=some (af 4 [.b y]))(m7:M.get b7=some (af 74 [.f 31 [] [.p bl 0]]))(hT:ug lo cs Ms v ts):
 Calls Φ F 32 [.p b7 0,.p b6 0] M c fun r M' c'=>iF (fun x=>x=bl∨x=b6) c M c' M'∧((∃w rs v' pv,As ts=some (w,rs)∧r= .g [pv]∧bD pv=true∧Dp lo cs Ms pv w∧M'.get bl=some (af 71 [v'])∧ug lo cs Ms v' rs∧M'.get b6=some (af 4 [.b y]))∨(As ts=none∧r= .g [.l0]∧(∃v',M'.get bl=some (af 71 [v'])∧ug lo cs Ms v' ts)∧M'.get b6=some (af 4 [.b true]))):=by
 refine aM h ?_
 have gX:=(Gr.refl ok).set c (af 36 [.l0]) (ah _) (aA _) (aG _)
 have mc:(M.set c (af 36 [.l0])).get c=some (af 36 [.l0]):=am _ _ _
 have l7:load1 F (M.set c (af 36 [.l0])) b7 0=some (.f 31 [] [.p bl 0]):=aq ((gX.old b7 hb7).trans m7) 0
 simp only[WX,B32,l7]
 generalize M.set c (af 36 [.l0])=X at gX mc⊢
 have okX:=gX.ok ok
 refine av ((w31 Φ h31 okX (by omega) hbl hlc (fun x a b=>(gX.old x (by omega)).trans (hB x a b)) ((gX.old bl (by omega)).trans mb) hT 1 (by decide)).mono ?_)
 rintro r M2 c2 ⟨g2,hW,v',mb2,hT2⟩
 have m62:M2.get b6=some (af 4 [.b y]):=(g2.old b6 (by omega) (by omega)).trans ((gX.old b6 hb6).trans m6)
 have mc2:M2.get c=some (af 36 [.l0]):=(g2.old c (by omega) (by omega)).trans mc
 have hle2:=g2.le
 have ok2:cU F M2 c2:=g2.ok okX (fun b hb hx=>by rw[hx];exact⟨_,(gX.old bl (by omega)).trans mb⟩)
 have GX:iF (fun x=>x=bl∨x=b6) c M c2 M2:=(iF.of gX).trans (g2.wk fun b _ hx=> .inl hx)
 rw[Ok]at hW hT2
 have hG:∀v,flatten (V.g [v])=[v]:=fun _=>rfl
 obtain⟨ob,es,hA,hel,_,hes⟩:=hW
 have hS:=hA.sl (F:=F)
 have n2:=hS.len
 have BOX:∀(M':Mem) (w:V) (z:bw),M'=(M2.set c2 z).set c (af 36 [w])→M'.get bl=M2.get bl∧M'.get b6=M2.get b6∧iF (fun x=>x=bl∨x=b6) c M (c2+1) M':=by
  intro M' w z e;subst e;refine⟨by rw[ag _ _ (by omega),ag _ _ (by omega)],by rw[ag _ _ (by omega),ag _ _ (by omega)],by omega,fun x hx hn=>?_,fun x hx=>?_⟩
  ·rw[ag _ _ (by omega),ag _ _ (by omega)];exact GX.old x hx hn
  ·rw[ag _ _ (by omega),ag _ _ (by omega)];exact GX.new x (by omega)
 cases ho:As ts with
 |some wr=>
  obtain⟨w,rs⟩:=wr;rw[ho]at hel hes hT2;dsimp only at hel hes hT2;have hel:es.length=1:=hel;obtain⟨pv,e1,hw⟩:=hes 0 (by omega) (by simp);have hw:Dp lo cs Ms pv w:=hw;obtain⟨p1,p2,p3⟩:=(hw F Ms fun _ _ _=>rfl).one;obtain⟨b,o,hb,ia,cl⟩:=hS.at 0 (by omega);rw[e1]at cl;have ia:iN 1 r (.i .i64 0)=some (.p b o):=ia .i64;have lp:loadN F M2 b o 1=some [pv]:=by have:=cl.load (by simp);exact this
  rw[hel]at n2;have d1:decide ((0:Int)<((1:Nat):Int))=true:=rfl;have sn:bN (M2.set c2 (af 36 [.l0])) c2 0 [pv]=some (M2.set c2 (af 36 [pv])):=fh rfl p3;have l4:loadN F (M2.set c2 (af 36 [pv])) c2 0 1=some [pv]:=bj (am _ _ _) 1 rfl;have mcx:(M2.set c2 (af 36 [pv])).get c=some (af 36 [.l0]):=(ag _ _ (by omega)).trans mc2;have sc:bN (M2.set c2 (af 36 [pv])) c 0 [pv]=some ((M2.set c2 (af 36 [pv])).set c (af 36 [pv])):=aK mcx 0 [pv] (by simp) p3;have lr:loadN F ((M2.set c2 (af 36 [pv])).set c (af 36 [pv])) c 0 1=some [pv]:=bj (am _ _ _) 1 rfl;obtain⟨B1,B2,B3⟩:=BOX _ pv _ rfl;simp only[WX,reduceCtorEq,n2];rw[iv];simp only[WX,B32,d1,ia,lp,hG,sn,l4,sc,lr];exact⟨B3,w,rs,v',pv,rfl,rfl,p1,hw,B1.trans mb2,hT2,B2.trans m62⟩
 |none=>
  rw[ho]at hel hT2;dsimp only at hel hT2;have hel:es.length=0:=hel;rw[hel]at n2;have d1:decide ((0:Int)<((0:Nat):Int))=false:=rfl;have s6:bN M2 b6 0 [.b true]=some (M2.set b6 (af 4 [.b true])):=aK m62 0 [.b true] (by simp) rfl;have mc3:(M2.set b6 (af 4 [.b true])).get c=some (af 36 [.l0]):=(ag _ _ (by omega)).trans mc2;have sc:bN (M2.set b6 (af 4 [.b true])) c 0 [.l0]=some ((M2.set b6 (af 4 [.b true])).set c (af 36 [.l0])):=aK mc3 0 [.l0] (by simp) rfl;have lr:loadN F ((M2.set b6 (af 4 [.b true])).set c (af 36 [.l0])) c 0 1=some [.l0]:=bj (am _ _ _) 1 rfl;simp only[WX,reduceCtorEq,n2];rw[iv];simp only[WX,B32,d1,s6,sc,lr,hG];refine⟨⟨by omega,fun x hx hn=>?_,fun x hx=>?_⟩,.inr ⟨⟨v',?_,hT2⟩,?_⟩⟩
  ·rw[ag _ _ (by omega),ag _ _ (fun e=>hn (.inr e))];exact GX.old x hx hn
  ·rw[ag _ _ (by omega),ag _ _ (by omega)];exact GX.new x (by omega)
  ·rw[ag _ _ (by omega),ag _ _ (by omega),mb2]
  ·rw[ag _ _ (by omega)];exact am _ _ _
def Do(F:RO)(tl:List T2)(c:Nat)(M:Mem)(bl:Nat)(k:Nat)(M1:Mem)(c1:Nat):Prop:=cU F M1 c1∧iF (fun x=>x=bl) c M c1 M1∧ ∃(v:V) (b:Nat) (es:List (List V)),M1.get bl=some (af 71 [v])∧bm M1 c c1 b 59 2 v es∧es.length=k∧ ∀i (h:i<es.length),∃(h':i<tl.length) (pv:V) (lo hi:Nat),es[i]=[sV tl[i].1,pv]∧bD pv=true∧c≤lo∧hi≤c1∧(b<lo∨hi≤b)∧(∀F:RO,jP F M1 lo hi 2 pv (kW tl[i].2))∧tl[i].2.length≤Ml
theorem Do.start{F:RO}{tl:List T2}{c bl:Nat}{M:Mem}(ok:cU F M c)(mb:M.get bl=some (af 71 [.l0])):Do F tl c M bl 0 M c:=
 ⟨ok,iF.of (Gr.refl ok),.l0,0,[],mb,bm.nil,rfl,fun i h=>(by cases h)⟩
theorem Do.grow{F:RO}{tl:List T2}{c bl k c1 c2:Nat}{M M1 M2:Mem}(hbl:bl<c)(h:Do F tl c M bl k M1 c1)(g:Gr c1 M1 c2 M2):Do F tl c M bl k M2 c2:=by
 obtain⟨ok,gx,v,b,es,mb,hA,hl,he⟩:=h
 have hle:=gx.le
 have hle2:=g.le
 obtain⟨b',hA',hb'⟩:∃b',bm M2 c c2 b' 59 2 v es∧(b'=b∨es=[]):=by
  rcases hA with⟨a0,⟨a1,a2⟩|⟨a1,a2,a3,a4⟩⟩
  ·exact⟨b,⟨a0,.inl ⟨a1,a2⟩⟩,.inl rfl⟩
  ·exact⟨b,bm.gr ⟨a0,.inr ⟨a1,a2,a3,a4⟩⟩ g,.inl rfl⟩
 refine⟨g.ok ok,gx.trans (iF.of g),v,b',es,(g.old bl (by omega)).trans mb,hA',hl,fun i hi=>?_⟩
 obtain⟨h',pv,lo,hi2,e1,e2,e3,e4,e5,e6,e7⟩:=he i hi
 have hbb:b'=b:=hb'.resolve_right (by intro e;rw[e]at hi;cases hi)
 exact⟨h',pv,lo,hi2,e1,e2,e3,by omega,by rw[hbb];exact e5,fun F=>(e6 F).up (ah _) (ah _) (fun x _ hx=>g.old x (by omega)),e7⟩
theorem w29(Φ:Nat→Option CF)(h:Φ 29=some c29){F:RO}{tl:List T2}{c bl k c1 b0 at_:Nat}{M M1:Mem}{pv:V}(hbl:bl<c)(hI:Do F tl c M bl k M1 c1)(hk:k<tl.length)(hkl:k≤400000)(hp1:bD pv=true)(hpl:tl[k].2.length≤Ml)(hA:bm M1 c c1 b0 64 2 pv (kW tl[k].2)):
 Calls Φ F 29 [.i .i64 (at_:Int),.g [sV tl[k].1,pv],.p bl 0] M1 c1 fun r M' c'=>r= .b true∧Do F tl c M bl (k+1) M' c':=by
 refine aM h ?_
 have hI0:=hI
 obtain⟨ok,gx,v,b,es,mb,hA1,hl,he⟩:=hI
 have hle:=gx.le
 have hF:∀w,flatten (sV w)=[sV w]:=fun _=>rfl
 have hO:∀w,bD (sV w)=true:=fun _=>rfl
 have hG2:flatten (V.g [sV tl[k].1,pv])=[sV tl[k].1,pv]:=rfl
 have hAll:aE [sV tl[k].1,pv]=true:=by rw[aD,aD,cg,hp1];rfl
 have g1:=(Gr.refl ok).set c1 (af 59 [sV tl[k].1,pv]) (ah _) (aA _) (aG _)
 have m1:(M1.set c1 (af 59 [sV tl[k].1,pv])).get c1=some (af 59 [sV tl[k].1,pv]):=am _ _ _
 have l1:loadN F (M1.set c1 (af 59 [sV tl[k].1,pv])) c1 0 2=some [sV tl[k].1,pv]:=bj m1 2 rfl
 have lb:load1 F (M1.set c1 (af 59 [sV tl[k].1,pv])) bl 0=some v:=aq ((g1.old bl (by omega)).trans mb) 0
 generalize hX:M1.set c1 (af 59 [sV tl[k].1,pv])=X at g1 m1 l1 lb
 have okX:=g1.ok ok
 have gZ:=(Gr.refl okX).set (c1+1) (bK [V.s 0 0,V.l0] 59 [sV tl[k].1,pv]) (ah _) (aA _) (aG _)
 have hy:cB F (X.set (c1+1) (bK [V.s 0 0,V.l0] 59 [sV tl[k].1,pv])) (c1+2) 2 (.l (c1+1) 0 1 1) [[sV tl[k].1,pv]]:=Nl (d:=[V.s 0 0,V.l0]) (ty:=59) (by rw[am];rfl) (aA _) (fun e he=>by rw[List.mem_singleton]at he;subst he;rfl) rfl
 have GZ:Gr c1 M1 (c1+2) (X.set (c1+1) (bK [V.s 0 0,V.l0] 59 [sV tl[k].1,pv])):=g1.trans gZ
 have gA:Gr c M1 (c1+2) (X.set (c1+1) (bK [V.s 0 0,V.l0] 59 [sV tl[k].1,pv])):=⟨by omega,fun x hx=>GZ.old x (by omega),GZ.new⟩
 obtain⟨b1,hA2,hb1⟩:∃b1,bm (X.set (c1+1) (bK [V.s 0 0,V.l0] 59 [sV tl[k].1,pv])) c (c1+2) b1 59 2 v es∧((b1=b∧b<c1∧M1.get b=some (pH 59 es.flatten))∨(es=[]∧c1≤b1)):=by
  rcases hA1 with⟨a0,⟨a1,a2⟩|⟨a1,a2,a3,a4⟩⟩
  ·exact⟨c1,⟨a0,.inl ⟨a1,a2⟩⟩,.inr ⟨a1,ah _⟩⟩
  ·exact⟨b,bm.gr ⟨a0,.inr ⟨a1,a2,a3,a4⟩⟩ GZ,.inl ⟨rfl,a2,a4⟩⟩
 simp only[WX,Nat.reduceAdd,B29,hG2,hAll,hX,l1,lb]
 refine av ((j5 (bytes:=40) hA2 gA (by decide) hy (by show aE [sV tl[k].1,pv]=true;exact hAll) (gk (by simp only[aw,aL];omega) (by simp only[aw,aL];omega))).mono ?_)
 rintro v' M2 c2 ⟨b',hA3,g3,hle3,hfr,hb'⟩
 have w3:bD v'=true∧flatten v'=[v']∧aE [v']=true:=by
  rcases hA3 with⟨_,⟨_,rfl⟩|⟨_,_,rfl,_⟩⟩<;>exact⟨rfl,rfl,rfl⟩
 obtain⟨w1,w2,w3⟩:=w3
 have mb2:M2.get bl=some (af 71 [v]):=(g3.old bl (by omega)).trans mb
 have st:=aK mb2 0 [v'] (by simp) w3
 simp only[WX,B29,w2,st]
 have OLD:∀x,x<c1→x≠bl→x≠b1→(M2.set bl (af 71 [v'])).get x=M1.get x:=fun x h1 h2 h3=>by
  rw[ag _ _ h2,hfr x (by omega) h3];exact GZ.old x h1
 have gF:iF (fun x=>x=bl∨x=b1) c1 M1 c2 (M2.set bl (af 71 [v'])):=⟨by omega,fun x h1 h2=>OLD x h1 (fun e=>h2 (.inl e)) (fun e=>h2 (.inr e)),fun x hx=>by rw[ag _ _ (by omega)];exact g3.new x hx⟩
 have okF:=gF.ok ok fun x hx hh=>by
  rcases hh with rfl|rfl
  ·exact⟨_,mb⟩
  ·rcases hb1 with⟨rfl,_,hm⟩|⟨_,hc⟩
   ·exact⟨_,hm⟩
   ·omega
 refine⟨okF,⟨by omega,fun x hx hn=>?_,gF.new⟩,v',b',es++[[sV tl[k].1,pv]],am _ _ _,jQ hA3 (by omega),by rw[aO,hl];rfl,fun i hi=>?_⟩
 ·rw[ag _ _ hn];exact(g3.old x hx).trans (gx.old x hx hn)
 ·by_cases hie:i<es.length
  ·obtain⟨h',pv',lo,hi2,e1,e2,e3,e4,e5,e6,e7⟩:=he i hie;have hb1':b1<lo∨hi2≤b1:=by
    rcases hb1 with⟨rfl,_,_⟩|⟨_,hc⟩
    ·exact e5
    ·omega
   exact⟨h',pv',lo,hi2,by rw[eT hie];exact e1,e2,e3,by omega,by omega,fun F=>(e6 F).up (ah _) (ah _) (fun x h1 h2=>OLD x (by omega) (by omega) (by omega)),e7⟩
  ·rw[aO]at hi;simp only[aw,aL]at hi;obtain rfl:i=es.length:=by omega
   subst hl;have ge:(es++[[sV tl[es.length].1,pv]])[es.length]'(by simp)=[sV tl[es.length].1,pv]:=by rw[eS (ah _)];simp
   rcases hA with⟨a0,⟨a1,a2⟩|⟨a1,a2,a3,a4⟩⟩
   ·refine⟨hk,pv,c,c,ge,hp1,ah _,by omega,by omega,?_,hpl⟩;rw[a2,a1];exact fun F=>bm.own (c0:=c) (b:=0) (ty:=64) bm.nil
   ·have hne:b0≠b1:=by
     rcases hb1 with⟨rfl,_,hm⟩|⟨_,hc⟩
     ·intro e;subst e;rw[a4]at hm;have:=ae hm;unfold pH at this;injection this with this
      exact absurd this (by decide)
     ·omega
    have hO1:∀F:RO,jP F M1 b0 (b0+1) 2 pv (kW tl[es.length].2):=fun F=>bm.own (c0:=b0) (b:=b0) (ty:=64) ⟨a0,.inr ⟨ah _,aA _,a3,a4⟩⟩;exact⟨hk,pv,b0,b0+1,ge,hp1,a1,by omega,by omega,fun F=>(hO1 F).up (ah _) (ah _) (fun x h1 h2=>OLD x (by omega) (by omega) (by omega)),hpl⟩
theorem Do.done{F:RO}{tl:List T2}{c bl c1:Nat}{M M1:Mem}(hbl:bl<c)(h:Do F tl c M bl tl.length M1 c1)(hl:tl.length≤1000000):∃v,M1.get bl=some (af 71 [v])∧ug c c1 M1 v tl:=by
 obtain⟨ok,gx,v,b,es,mb,hA,hel,he⟩:=h
 refine⟨v,mb,es,fun F M' hM'=>(hA.own (F:=F)) M' hM',hel,hl,fun i hi hi'=>?_⟩
 obtain⟨h',pv,lo,hi2,e1,e2,e3,e4,e5,e6,e7⟩:=he i hi
 exact⟨pv,e1,fun F M' hM'=>⟨(e6 F M' fun x h1 h2=>hM' x (by omega) (by omega)).upc e4,e7⟩⟩
theorem eE{s:List UInt8}{ts r:List T2}(h:isS s ts=some r):r.length+1=ts.length:=by
 cases ts with
 |nil=>cases h
 |cons t q=>
  rw[gL]at h;split at h
  ·injection h with h;rw[h];rfl
  ·cases h
theorem nC:∀(m:Nat) (ts:List T2),(ei m ts).1.length+(ei m ts).2.length=ts.length
 |0,ts=>by simp[ei]
 |_+1,[]=>rfl
 |m+1,t::r=>by
  rw[ei];split
  ·have:=nC m r;simp only[aw];omega
  ·simp
theorem rW:∀(m:Nat) (ts:List T2),ts.length≤m→ei m ts=ei ts.length ts
 |0,ts,h=>by rw[show ts.length=0 by omega]
 |_+1,[],_=>rfl
 |m+1,t::r,h=>by
  rw[aw,ei,ei,rW m r (by simpa using h)]
def cm(ts:List T2):hU×List T2:=ei ts.length ts
def eK:Nat→List T2→List hU×List T2
 |0,ts=>([],ts)
 |f+1,ts=>match isS [124] ts with
  |some r=>((cm r).1::(eK f (cm r).2).1,(eK f (cm r).2).2)
  |none=>([],ts)
def cW(ts:List T2):List hU×List T2:=eK ts.length ts
theorem rk:∀(f g:Nat) (ts:List T2),ts.length≤f→ts.length≤g→eK f ts=eK g ts
 |0,g,ts,h,_=>by
  have:ts=[]:=List.length_eq_zero_iff.1 (by omega);subst this;cases g<;>rfl
 |f+1,0,ts,_,h=>by
  have:ts=[]:=List.length_eq_zero_iff.1 (by omega);subst this;rfl
 |f+1,g+1,ts,h1,h2=>by
  unfold eK;cases hs:isS [124] ts with
  |none=>rfl
  |some r=>
   have hl:=eE hs;have hw:=nC r.length r;have:(cm r).2.length≤r.length:=by unfold cm;omega
   dsimp only;rw[rk f g _ (by omega) (by omega)]
theorem Ax{ts r:List T2}(h:isS [124] ts=some r):cW ts=((cm r).1::(cW (cm r).2).1,(cW (cm r).2).2):=by
 have hl:=eE h
 have hw:=nC r.length r
 have h2:(cm r).2.length≤r.length:=by unfold cm;omega
 unfold cW
 rw[←hl,eK,h]
 dsimp only
 rw[rk r.length (cm r).2.length _ h2 (ah _)]
theorem rj{ts:List T2}(h:isS [124] ts=none):cW ts=([],ts):=by
 unfold cW
 cases hl:ts.length with
 |zero=>rfl
 |succ n=>rw[eK,h]
def redir(ts:List T2):List Pc×Bool×List T2:=match As ts with
 |some (w,r)=>(w,false,r)
 |none=>([],true,ts)
def cY(ts:List T2):List Pc×Bool×List T2:=match isS [60] ts with
 |some r=>redir r
 |none=>([],false,ts)
def ed(ts:List T2):Bool×List Pc×Bool×List T2:=match isS [62,62] ts with
 |some r=>(true,redir r)
 |none=>match isS [62] ts with
  |some r=>(false,redir r)
  |none=>(false,[],false,ts)
def jD(ts:List T2):Bool×List T2:=match isS [33] ts with
 |some r=>(true,r)
 |none=>(false,ts)
def cT(j:Int)(ts:List T2):fm×Bool×List T2:=
 (⟨j,(jD ts).1,(cY (cm (jD ts).2).2).1,(ed (cW (cY (cm (jD ts).2).2).2.2).2).2.1,(ed (cW (cY (cm (jD ts).2).2).2.2).2).1,(cm (jD ts).2).1::(cW (cY (cm (jD ts).2).2).2.2).1⟩,
   (cY (cm (jD ts).2).2).2.1||(ed (cW (cY (cm (jD ts).2).2).2.2).2).2.2.1,(ed (cW (cY (cm (jD ts).2).2).2.2).2).2.2.2)
def fO(ts:List T2):Option (Int×List T2):=match isS [59] ts with
 |some r=>some (1,r)
 |none=>match isS [38,38] ts with
  |some r=>some (2,r)
  |none=>match isS [124,124] ts with
   |some r=>some (3,r)
   |none=>none
theorem o6{ts r:List T2}{j:Int}(h:fO ts=some (j,r)):r.length<ts.length:=by
 unfold fO at h
 split at h
 ·rename_i q hq;have:=eE hq;injection h with h;injection h with _ h;subst h;omega
 ·split at h
  ·rename_i q hq;have:=eE hq;injection h with h;injection h with _ h;subst h;omega
  ·split at h
   ·rename_i q hq;have:=eE hq;injection h with h;injection h with _ h;subst h;omega
   ·cases h
theorem ou(ts:List T2):(redir ts).2.2.length≤ts.length:=by
 unfold redir
 cases ts with
 |nil=>exact ah _
 |cons t r=>
  rw[kV];split
  ·rename_i w q h;split at h
   ·injection h with h;injection h with _ h;subst h;simp
   ·cases h
  ·exact ah _
theorem wS(ts:List T2):(cY ts).2.2.length≤ts.length:=by
 unfold cY
 split
 ·rename_i r h;have:=eE h;have:=ou r;omega
 ·exact ah _
theorem Mx(ts:List T2):(ed ts).2.2.2.length≤ts.length:=by
 unfold ed
 split
 ·rename_i r h;have:=eE h;have:=ou r;dsimp only;omega
 ·split
  ·rename_i r h;have:=eE h;have:=ou r;dsimp only;omega
  ·exact ah _
theorem QS(ts:List T2):(jD ts).2.length≤ts.length:=by
 unfold jD
 split
 ·rename_i r h;have:=eE h;dsimp only;omega
 ·exact ah _
theorem iZ(ts:List T2):(cm ts).2.length≤ts.length:=by
 have:=nC ts.length ts;unfold cm;omega
theorem tJ:∀(f:Nat) (ts:List T2),(eK f ts).2.length≤ts.length
 |0,_=>ah _
 |f+1,ts=>by
  rw[eK];split
  ·rename_i r h;have:=eE h;have:=iZ r;have:=tJ f (cm r).2;dsimp only;omega
  ·exact ah _
theorem oe(j:Int)(ts:List T2):(cT j ts).2.2.length≤ts.length:=by
 have h1:=QS ts
 have h2:=iZ (jD ts).2
 have h3:=wS (cm (jD ts).2).2
 have h4:(cW (cY (cm (jD ts).2).2).2.2).2.length≤_:=tJ _ _
 have h5:=Mx (cW (cY (cm (jD ts).2).2).2.2).2
 show(ed (cW (cY (cm (jD ts).2).2).2.2).2).2.2.2.length≤_
 omega
def eY:Nat→Int→List T2→List fm×Bool×List T2
 |0,_,ts=>([],true,ts)
 |f+1,j,ts=>match fO (cT j ts).2.2 with
  |none=>([(cT j ts).1],(cT j ts).2.1,(cT j ts).2.2)
  |some (j',r)=>((cT j ts).1::(eY f j' r).1,(cT j ts).2.1||(eY f j' r).2.1,(eY f j' r).2.2)
theorem r7:∀(f g:Nat) (j:Int) (ts:List T2),ts.length<f→ts.length<g→eY f j ts=eY g j ts
 |0,_,_,_,h,_=>by omega
 |_,0,_,_,_,h=>by omega
 |f+1,g+1,j,ts,h1,h2=>by
  unfold eY;cases hj:fO (cT j ts).2.2 with
  |none=>rfl
  |some x=>
   obtain⟨j',r⟩:=x;have:=o6 hj;have:=oe j ts;dsimp only;rw[r7 f g j' r (by omega) (by omega)]
def dA(j:Int)(ts:List T2):List fm×Bool×List T2:=eY (ts.length+1) j ts
theorem Ak{j:Int}{ts:List T2}(h:fO (cT j ts).2.2=none):dA j ts=([(cT j ts).1],(cT j ts).2.1,(cT j ts).2.2):=by
 unfold dA;rw[eY,h]
theorem Al{j j':Int}{ts r:List T2}(h:fO (cT j ts).2.2=some (j',r)):dA j ts=((cT j ts).1::(dA j' r).1,(cT j ts).2.1||(dA j' r).2.1,(dA j' r).2.2):=by
 have:=o6 h
 have:=oe j ts
 unfold dA;rw[eY,h]
 dsimp only
 rw[r7 ts.length (r.length+1) j' r (by omega) (by omega)]
def dh(s:List UInt8):List T2:=(tk s 0).map (·.2)
def kZ(s:List UInt8):List fm×Int:=
 if 4096<s.length then([],3)
 else if rS s=false then([],4)
 else if((dA 0 (dh s)).2.1||(decide (0<(dA 0 (dh s)).2.2.length)|| !pN (dA 0 (dh s)).1))=true then([],4)
 else((dA 0 (dh s)).1,0)
def Pi(M:Mem)(lo c ty sz:Nat)(v:V)(n:Nat):Prop:=(n=0∧v= .l0)∨ ∃b,lo≤b∧b<c∧(v= .l b 0 n n∨v= .u b 0 n 0 n)∧ ∃ex d t,M.get b=some (.cells ty (n*sz) ex 0 false d t)
def CmT(F:RO)(lo:Nat)(M:Mem)(c:Nat)(v:V)(l:hU):Prop:=eM F M c v l∧Pi M lo c 36 1 v l.length
def Sl(F:RO)(lo:Nat)(M:Mem)(c:Nat)(e:List V)(l:hU):Prop:=∃x,e=[x]∧CmT F lo M c x l
def Zn(F:RO)(lo:Nat)(M:Mem)(c:Nat)(v:V)(l:List hU):Prop:=cA F (Sl F lo) 1 M c v l∧Pi M lo c 42 1 v l.length
def Gk(F:RO)(lo:Nat)(M:Mem)(c:Nat)(e:List V)(p:fm):Prop:=∃vi vo vc,e=[.i .i64 p.join,.b p.nt,vi,vo,.b p.beh,vc]∧dt F M c vi p.inp∧dt F M c vo p.out∧Zn F lo M c vc p.cmds
def Zr(F:RO)(lo:Nat)(M:Mem)(c:Nat)(v:V)(l:List fm):Prop:=cA F (Gk F lo) 6 M c v l∧Pi M lo c 39 6 v l.length
theorem cA.imp{α:Type}{F:RO}{R R':Mem→Nat→List V→α→Prop}{sz:Nat}{M:Mem}{c c':Nat}{v:V}{l:List α}(h:cA F R sz M c v l)(hc:c≤c')(hR:∀e x,R M c e x→R' M c' e x):cA F R' sz M c' v l:=by
 obtain⟨es,h1,h2,h3,h4⟩:=h
 exact⟨es,h1.upc hc,h2,h3,fun i h h'=>hR _ _ (h4 i h h')⟩
theorem Sl.c1{F:RO}{lo:Nat}{M:Mem}{c:Nat}(e:List V)(l:hU)(h:Sl F lo M c e l):C1 F M c e l:=by obtain⟨x,h1,h2⟩:=h;exact⟨x,h1,h2.1⟩
theorem Zn.cs{F:RO}{lo:Nat}{M:Mem}{c:Nat}{v:V}{l:List hU}(h:Zn F lo M c v l):iw F M c v l:=cA.imp h.1 (ah _) Sl.c1
theorem Gk.p1{F:RO}{lo:Nat}{M:Mem}{c:Nat}(e:List V)(p:fm)(h:Gk F lo M c e p):P1 F M c e p:=by
 obtain⟨vi,vo,vc,h1,h2,h3,h4⟩:=h;exact⟨vi,vo,vc,h1,h2,h3,h4.cs⟩
theorem Zr.ln{F:RO}{lo:Nat}{M:Mem}{c:Nat}{v:V}{l:List fm}(h:Zr F lo M c v l):iG F M c v l:=cA.imp h.1 (ah _) Gk.p1
theorem Pi.up{M:Mem}{lo lo' c c' ty sz n:Nat}{v:V}(h:Pi M lo c ty sz v n)(hl:lo'≤lo)(hc:c≤c'):Pi M lo' c' ty sz v n:=by
 rcases h with h|⟨b,h1,h2,h3⟩
 ·exact .inl h
 ·exact .inr ⟨b,by omega,by omega,h3⟩
theorem W1.upc{F:RO}{M:Mem}{c c':Nat}(hc:c≤c')(e:List V)(w:List Pc)(h:W1 F M c e w):W1 F M c' e w:=by obtain⟨x,h1,h2⟩:=h;exact⟨x,h1,h2.upc hc⟩
theorem CmT.up{F:RO}{lo lo':Nat}{M:Mem}{c c':Nat}{v:V}{l:hU}(h:CmT F lo M c v l)(hl:lo'≤lo)(hc:c≤c'):CmT F lo' M c' v l:=⟨cA.imp h.1 hc (W1.upc hc),h.2.up hl hc⟩
theorem Sl.up{F:RO}{lo lo':Nat}{M:Mem}{c c':Nat}(hl:lo'≤lo)(hc:c≤c')(e:List V)(l:hU)(h:Sl F lo M c e l):Sl F lo' M c' e l:=by obtain⟨x,h1,h2⟩:=h;exact⟨x,h1,h2.up hl hc⟩
theorem Zn.up{F:RO}{lo lo':Nat}{M:Mem}{c c':Nat}{v:V}{l:List hU}(h:Zn F lo M c v l)(hl:lo'≤lo)(hc:c≤c'):Zn F lo' M c' v l:=⟨cA.imp h.1 hc (Sl.up hl hc),h.2.up hl hc⟩
theorem Gk.up{F:RO}{lo lo':Nat}{M:Mem}{c c':Nat}(hl:lo'≤lo)(hc:c≤c')(e:List V)(p:fm)(h:Gk F lo M c e p):Gk F lo' M c' e p:=by
 obtain⟨vi,vo,vc,h1,h2,h3,h4⟩:=h;exact⟨vi,vo,vc,h1,h2.upc hc,h3.upc hc,h4.up hl hc⟩
theorem yY{M:Mem}{c0 c b ty sz:Nat}{v:V}{es:List (List V)}(h:bm M c0 c b ty sz v es):Pi M c0 c ty sz v es.length:=by
 have hl:=ey h.1
 rcases h with⟨h0,⟨rfl,rfl⟩|⟨h1,h2,rfl,h3⟩⟩
 ·exact .inl ⟨rfl,rfl⟩
 ·refine .inr ⟨b,h1,h2,.inr rfl,?_⟩;unfold pH at h3;rw[hl]at h3;exact⟨_,_,_,h3⟩
def ub(lo cs:Nat)(Ms M:Mem)(a b:Nat)(P:Mem→Prop):Prop:=∀M',Bk lo cs Ms M'→(∀x,a≤x→x<b→M'.get x=M.get x)→P M'
theorem ub.up{lo cs:Nat}{Ms M M2:Mem}{a b:Nat}{P:Mem→Prop}(h:ub lo cs Ms M a b P)(hM:∀x,a≤x→x<b→M2.get x=M.get x):ub lo cs Ms M2 a b P:=fun M' h1 h2=>h M' h1 fun x h3 h4=>(h2 x h3 h4).trans (hM x h3 h4)
theorem we.own{F:RO}{lo cs:Nat}{Ms M:Mem}{c0 c:Nat}{v:V}{l:hU}(h:we lo cs Ms M c0 c v l)(hc:cs≤c):ub lo cs Ms M c0 c fun M'=>CmT F c0 M' c v l:=by
 intro M' h1 h2
 obtain⟨b,es,hA,hl,hb,he⟩:=h
 have hA':bm M' c0 c b 36 1 v es:=by
  rcases hA with⟨a0,a|⟨a1,a2,a3,a4⟩⟩
  ·exact⟨a0,.inl a⟩
  ·exact⟨a0,.inr ⟨a1,a2,a3,by rw[h2 b a1 a2];exact a4⟩⟩
 refine⟨⟨es,hA'.sl,hl,aY hb (by decide),fun i h h'=>?_⟩,by rw[←hl];exact yY hA'⟩
 obtain⟨pv,e,hw⟩:=he i h h'
 exact⟨pv,e,(hw F M' h1).upc hc⟩
theorem we.one{lo cs:Nat}{Ms M:Mem}{c0 c:Nat}{v:V}{l:hU}(h:we lo cs Ms M c0 c v l):bD v=true∧flatten v=[v]∧aE [v]=true:=by
 obtain⟨b,es,hA,_⟩:=h
 exact pW (hA.sl (F:=[]))
def Dm(M:Mem)(a c:Nat)(vc:V)(b:Nat)(es:List (List V)):Prop:=(∀e∈es,e.length=1)∧a≤b∧b<c∧((es.length=1∧vc= .l b 0 1 1∧M.get b=some (bK [V.l0] 42 es.flatten))∨(vc= .u b 0 es.length 0 es.length∧M.get b=some (pH 42 es.flatten)))
theorem Dm.one{M:Mem}{a c:Nat}{vc:V}{b:Nat}{es:List (List V)}(h:Dm M a c vc b es):bD vc=true∧flatten vc=[vc]∧aE [vc]=true:=by
 obtain⟨_,_,_,⟨_,rfl,_⟩|⟨rfl,_⟩⟩:=h<;>exact⟨rfl,rfl,rfl⟩
theorem Dm.up{M M2:Mem}{a c c2:Nat}{vc:V}{b:Nat}{es:List (List V)}(h:Dm M a c vc b es)(hc:c≤c2)(hM:M2.get b=M.get b):Dm M2 a c2 vc b es:=by
 obtain⟨h0,h1,h2,h3⟩:=h
 refine⟨h0,h1,by omega,?_⟩
 rw[hM];exact h3
theorem Dm.sl{F:RO}{M:Mem}{a c:Nat}{vc:V}{b:Nat}{es:List (List V)}(h:Dm M a c vc b es):cB F M c 1 vc es:=by
 obtain⟨h0,h1,h2,⟨h3,rfl,h4⟩|⟨rfl,h4⟩⟩:=h
 ·exact Nl (d:=[V.l0]) (ty:=42) h4 h2 h0 h3
 ·exact bm.sl (c0:=a) (b:=b) (ty:=42) ⟨h0,.inr ⟨h1,h2,rfl,h4⟩⟩
theorem Dm.sh{M:Mem}{a c:Nat}{vc:V}{b:Nat}{es:List (List V)}(h:Dm M a c vc b es):Pi M a c 42 1 vc es.length:=by
 obtain⟨h0,h1,h2,⟨h3,rfl,h4⟩|⟨rfl,h4⟩⟩:=h
 ·refine .inr ⟨b,h1,h2,.inl (by rw[h3]),?_⟩;have hl:=ey h0;unfold bK at h4;rw[hl]at h4;exact⟨_,_,_,h4⟩
 ·exact yY ⟨h0,.inr ⟨h1,h2,rfl,h4⟩⟩
theorem Q9{F:RO}{M1:Mem}{a c y b:Nat}{vc wv:V}{es:List (List V)}(h:Dm M1 a c vc b es)(ok1:cU F M1 c)(hw:bD wv=true)(hy:y<c)(hby:b≠y)(hyM:M1.get y=some (bK [V.l0] 42 [wv]))(hn:es.length≤1000000):
 nF (qC F M1 c 42 1 24 vc (.l y 0 1 1)) fun v' M' c'=>∃b',Dm M' a c' v' b' (es++[[wv]])∧c≤c'∧(b'=b∨c≤b')∧(∀x,x<c→x≠b→M'.get x=M1.get x)∧(∀x,c'≤x→M'.get x=none):=by
 have hys:cB F M1 c 1 (.l y 0 1 1) [[wv]]:=Nl (d:=[V.l0]) (ty:=42) hyM hy (fun e he=>by rw[List.mem_singleton]at he;subst he;rfl) rfl
 have hw1:aE [[wv]].flatten=true:=by show aE [wv]=true;rw[aD,cg,hw];rfl
 have hall:∀e∈es++[[wv]],e.length=1:=by
  intro e he;rcases List.mem_append.1 he with he|he
  ·exact h.1 e he
  ·rw[List.mem_singleton]at he;subst he;rfl
 have hr:kr (es.length+[[wv]].length) 24=true:=gk (by simp only[aw,aL];omega) (by simp only[aw,aL];omega)
 have hsl:=h.sl (F:=F)
 obtain⟨h0,h1,h2,⟨h3,rfl,h4⟩|⟨rfl,h4⟩⟩:=h
 ·refine(PL (bytes:=24) hsl h3 (by decide) hys (by simp) hw1 hr).mono ?_;rintro v' M' c' ⟨rfl,rfl,rfl⟩;refine⟨c,⟨hall,by omega,aA _,.inr ⟨rfl,am _ _ _⟩⟩,aG _,.inr (ah _),fun x hx _=>ag _ _ (by omega),fun x hx=>by rw[ag _ _ (by omega)];exact ok1.hiM x (by omega)⟩
 ·have hA:bm M1 a c b 42 1 (.u b 0 es.length 0 es.length) es:=⟨h0,.inr ⟨h1,h2,rfl,h4⟩⟩
  have hg:Gr a M1 c M1:=⟨by omega,fun _ _=>rfl,ok1.hiM⟩
  refine(j5 (bytes:=24) hA hg (by decide) hys hw1 hr).mono ?_;rintro v' M' c' ⟨b',hA2,g2,hle,hf,hb'⟩;refine⟨b',?_,hle,hb',hf,g2.new⟩;rcases hA2 with⟨a0,⟨a1,a2⟩|⟨a1,a2,a3,a4⟩⟩
  ·exact absurd a1 (by simp)
  ·exact⟨hall,a1,a2,.inr ⟨a3,a4⟩⟩
abbrev gV(u:List (Option V))(x0 x2 x4 x5 x6 x7 x8 x9 x10 x11:V):T:=(.n (.n (.n (.n (aJ u 63 31 95 15 79 47 111) (some x7) (aJ u 71 39 103 23 87 55 119)) (uO u 3) (.n (aJ u 67 35 99 19 83 51 115) (some x11) (aJ u 75 43 107 27 91 59 123))) (uO u 1) (.n (.n (aJ u 65 33 97 17 81 49 113) (some x9) (aJ u 73 41 105 25 89 57 121)) (some x5) (.n (aJ u 69 37 101 21 85 53 117) (uO u 13) (aJ u 77 45 109 29 93 61 125)))) (some x0) (.n (.n (.n (aJ u 64 32 96 16 80 48 112) (some x8) (aJ u 72 40 104 24 88 56 120)) (some x4) (.n (aJ u 68 36 100 20 84 52 116) (uO u 12) (aJ u 76 44 108 28 92 60 124))) (some x2) (.n (.n (aJ u 66 34 98 18 82 50 114) (some x10) (aJ u 74 42 106 26 90 58 122)) (some x6) (.n (aJ u 70 38 102 22 86 54 118) (uO u 14) (aJ u 78 46 110 30 94 62 126)))))
def Sr:CC:=(.reg [(aa a2 (.al 25 [.l0])),(qq a3 (.mv (x6 0)))])
def b36:=wu Sr.eq_1
def Ss:CC:=(.reg [(qq gp (.mv z0)),(qq eC (.ln .str i9)),(qq i7 (.bi .gtr i5 (x6 4096)))])
def b37:=wu Ss.eq_1
def Su:CC:=(.reg [(qq fY (.bld [.l0] [])),(ez (.st 1 z2 gy)),(qq a3 (.mv (x6 3)))])
def b38:=wu Su.eq_1
def Sv:CC:=(.seq Ss (.cond j3 (.seq Su .ret) .skip))
def b39:=wu Sv.eq_1
def Sw:CC:=(.reg [(qq gG (.mv z0)),(qq kG (.mkf 29 [] [z4])),(ee jI (.call 28 [ju,mA])),(qq i4 (.un .not mB))])
def b40:=wu Sw.eq_1
def Sx:CC:=(.reg [(qq lw (.bld [.l0] [])),(ez (.st 1 z2 nL)),(qq a3 (.mv (x6 4)))])
def b41:=wu Sx.eq_1
def Sy:CC:=(.seq Sw (.cond nK (.seq Sx .ret) .skip))
def b42:=wu Sy.eq_1
def SA:CC:=(.reg [(qq kH (.mkf 30 [] [z4])),(qq a5 (.mv mC))])
def b43:=wu SA.eq_1
def SB:CC:=(.reg [(aa a6 (.al 4 [(.b false)])),(ez (.st 1 z6 xF))])
def b44:=wu SB.eq_1
def GG:CC:=(.reg [(qq jJ (.mkf 31 [] [z4])),(aa a7 (.al 74 [.f0])),(ez (.st 1 z7 oJ))])
def ak3:=wu GG.eq_1
def GH:CC:=(.reg [(qq mq (.mkf 32 [] [z7,z6])),(qq a8 (.mv qh))])
def ak4:=wu GH.eq_1
def GI:CC:=(.reg [(aa a9 (.al 25 [.l0]))])
def ak5:=wu GI.eq_1
def GJ:CC:=(.reg [(qq dV (.mv (x6 0)))])
def ak6:=wu GJ.eq_1
def GK:CC:=(.reg [(qq lL (.mv fT)),(qq iH (.mv z5)),(ee nO (.cv nE [(.c (.s 1 33))])),(qq kI (.bld [(.i .i64 0),(.b false),.l0,.l0,(.b false),.l0] [(0,1,pL),(1,1,qi)])),(aa fo (.al 39 [(.i .i64 0),(.b false),.l0,.l0,(.b false),.l0])),(ez (.st 6 ec qj))])
def ak7:=wu GK.eq_1
def ut:CC:=(.reg [(qq lM (.ld1 z7)),(qq mr (.mv z0)),(qq sf (.ln .str sk)),(ee sg (.cv rZ [vN])),(qq pM (.bld [.l0] [(0,1,yo)])),(aa lm (.bsl 42 1 1 [.l0] [(0,vO)])),(qq sP (.fa 5 ec)),(ez (.st 1 yp vP))])
def ak8:=wu ut.eq_1
def GL:CC:=(.reg [(qq po (.mv z5)),(ee mt (.cv ua [(.c (.s 1 60))]))])
def ak9:=wu GL.eq_1
def GM:CC:=(.reg [(qq nP (.mv z8)),(ee sQ (.cv w7 [])),(qq sw (.fa 2 ec)),(ez (.st 1 vQ yq))])
def al0:=wu GM.eq_1
def uu:CC:=(.seq GL (.cond w6 GM .skip))
def al1:=wu uu.eq_1
def GN:CC:=(.reg [(qq sR (.mv z5)),(ee sS (.cv yr [(.c (.s 1 124))]))])
def al2:=wu GN.eq_1
def zc:CC:=(.seq GN (.cond yt .skip (.exit 2)))
def al3:=wu zc.eq_1
def zd:CC:=(.dreg 11 [(0,0,(qq qy (.fa 5 ec))),(1,1,(qq ui (.ld1 w8))),(2,0,(qq nQ (.ld1 z7))),(3,0,(qq uj (.mv z0))),(4,8,(qq vR (.ln .str yJ))),(5,28,(ee wh (.cv FH [BA]))),(6,60,(qq wj (.bld [.l0] [(0,1,FI)]))),(7,124,(aa wl (.bsl 42 1 1 [.l0] [(0,FJ)]))),(8,255,(ee sy (.app 42 1 24 yI Dj))),(9,511,(qq yQ (.fa 5 ec))),(10,1023,(ez (.st 1 G5 Dk)))])
def al4:=wu zd.eq_1
def ze:CC:=(.reg [(qq BG (.mv z5)),(ee BH (.cv G6 [(.c (.s 2 15934))])),(qq yR (.fa 4 ec)),(ez (.st 1 FK Ow))])
def al5:=wu ze.eq_1
def GO:CC:=(.reg [(qq BI (.fa 4 ec)),(qq BJ (.ld1 Ox)),(qq vT (.mv Oy)),(aH BK (.mv z5) vT),(gK vU (.cv OA [(.c (.s 1 62))]) vT),(qq BL (.pk Oz xT P4))])
def Bg:=wu GO.eq_1
def zf:CC:=(.reg [(qq vV (.mv z8)),(ee BM (.cv FL [])),(qq yS (.fa 3 ec)),(ez (.st 1 FM P5))])
def al6:=wu zf.eq_1
def zg:CC:=(.seq GO (.cond OB zf .skip))
def Bh:=wu zg.eq_1
def zh:CC:=(.reg [(qq qz (.fa 0 z9)),(qq uk (.ld1 G7)),(qq yT (.ldn 6 ec)),(aa yU (.bsl 39 1 6 [(.i .i64 0),(.b false),.l0,.l0,(.b false),.l0] [(0,FN)])),(ee yV (.app 39 6 96 G9 Ga)),(qq yz (.fa 0 z9)),(ez (.st 1 Gb OC))])
def al7:=wu zh.eq_1
def GP:CC:=(.reg [(ee yW (.call 33 [])),(qq fG (.mv (x6 0)))])
def al8:=wu GP.eq_1
def GQ:CC:=(.reg [(qq yA (.bi .lss w9 (x6 4)))])
def al9:=wu GQ.eq_1
def GR:CC:=(.cond Gc .skip (.exit 4))
def am0:=wu GR.eq_1
def GS:CC:=(.reg [(qq BN (.mv w9)),(qq BO (.ixA1 4 1 OD w9)),(qq fF (.mv OE)),(qq eO (.mv OG))])
def am1:=wu GS.eq_1
def GT:CC:=(.reg [(qq BP (.mv z5)),(qq BQ (.mv ej)),(ee BR (.cv OH [OI]))])
def am2:=wu GT.eq_1
def GU:CC:=(.reg [(qq DK (.mv eP)),(qq dV (.mv P6))])
def am3:=wu GU.eq_1
def GV:CC:=(.cond Gd (.seq GU (.exit 1)) .skip)
def am4:=wu GV.eq_1
def GW:CC:=(.reg [(qq DL (.bi .add w9 (x6 1))),(qq fG (.mv P7))])
def am5:=wu GW.eq_1
def GY:CC:=(.seq GR (.seq (.block 5 (.seq GS (.seq GT GV))) GW))
def am6:=wu GY.eq_1
def zi:CC:=(.seq (.seq GP (.block 4 (.loop (.seq GQ GY)))) (.exit 0))
def am7:=wu zi.eq_1
def zj:CC:=(.seq (.block 2 (.loop (.seq zc (.block 3 zd)))) (.seq (.seq ze zg) (.seq zh zi)))
def NP:=wu zj.eq_1
def H0:CC:=(.loop (.block 1 (.seq GK (.seq ut (.seq uu zj)))))
def am8:=wu H0.eq_1
def uv:CC:=(.reg [(qq qA (.ld1 z6)),(qq ul (.mv P8)),(aH DM (.ld1 z4) ul),(aH DN (.ln .slice Pa) ul),(aH DO (.bi .gtr OJ (x6 0)) ul),(qq DP (.pk P9 xT Sc)),(qq um (.mv Pb)),(aH DQ (.ldn 1 z9) um),(gK FS (.call 17 [Pe]) um),(aH FT (.bi .neq Sd (x6 0)) um),(qq FU (.pk Pd xT Se))])
def NQ:=wu uv.eq_1
def H1:CC:=(.reg [(qq FV (.bld [.l0] [])),(ez (.st 1 z2 Sg)),(qq a3 (.mv (x6 4)))])
def am9:=wu H1.eq_1
def uw:CC:=(.cond Sf (.seq H1 .ret) .skip)
def an0:=wu uw.eq_1
def ux:CC:=(.reg [(qq FW (.ldn 1 z9)),(ez (.st 1 z2 Si)),(qq a3 (.mv (x6 0)))])
def an1:=wu ux.eq_1
def H2:CC:=(.seq (.block 0 H0) (.seq (.seq uv uw) (.seq ux .ret)))
def an2:=wu H2.eq_1
def H3:CC:=(.seq GH (.seq GI (.seq GJ (.seq .skip H2))))
def an3:=wu H3.eq_1
def H4:CC:=(.seq (.reg [(aa a4 (.al 71 [.l0]))]) (.seq Sy (.seq SA (.seq SB (.seq GG H3)))))
def an4:=wu H4.eq_1
def H5:CC:=(.reg [(qq lL (.mv fT)),(qq iH (.mv z5)),(ee nO (.cv nE [(.c (.s 1 33))])),(qq kI (.bld [(.i .i64 0),(.b false),.l0,.l0,(.b false),.l0] [(0,1,pL),(1,1,qi)])),(aa fo (.al 39 [(.i .i64 0),(.b false),.l0,.l0,(.b false),.l0])),(ez (.st 6 ec qj))])
def an5:=wu H5.eq_1
def H6:CC:=(.reg [(qq lM (.ld1 z7)),(qq mr (.mv z0)),(qq sf (.ln .str sk)),(ee sg (.cv rZ [vN])),(qq pM (.bld [.l0] [(0,1,yo)])),(aa lm (.bsl 42 1 1 [.l0] [(0,vO)])),(qq sP (.fa 5 ec)),(ez (.st 1 yp vP))])
def an6:=wu H6.eq_1
def H7:CC:=(.reg [(qq po (.mv z5)),(ee mt (.cv ua [(.c (.s 1 60))]))])
def an7:=wu H7.eq_1
def H8:CC:=(.reg [(qq nP (.mv z8)),(ee sQ (.cv w7 [])),(qq sw (.fa 2 ec)),(ez (.st 1 vQ yq))])
def an8:=wu H8.eq_1
def H9:CC:=(.seq H7 (.cond w6 H8 .skip))
def an9:=wu H9.eq_1
def Ha:CC:=(.reg [(qq sR (.mv z5)),(ee sS (.cv yr [(.c (.s 1 124))]))])
def ao0:=wu Ha.eq_1
def Hb:CC:=(.seq Ha (.cond yt .skip (.exit 2)))
def ao1:=wu Hb.eq_1
def Hc:CC:=(.dreg 11 [(0,0,(qq qy (.fa 5 ec))),(1,1,(qq ui (.ld1 w8))),(2,0,(qq nQ (.ld1 z7))),(3,0,(qq uj (.mv z0))),(4,8,(qq vR (.ln .str yJ))),(5,28,(ee wh (.cv FH [BA]))),(6,60,(qq wj (.bld [.l0] [(0,1,FI)]))),(7,124,(aa wl (.bsl 42 1 1 [.l0] [(0,FJ)]))),(8,255,(ee sy (.app 42 1 24 yI Dj))),(9,511,(qq yQ (.fa 5 ec))),(10,1023,(ez (.st 1 G5 Dk)))])
def ao2:=wu Hc.eq_1
def Hd:CC:=(.reg [(qq BG (.mv z5)),(ee BH (.cv G6 [(.c (.s 2 15934))])),(qq yR (.fa 4 ec)),(ez (.st 1 FK Ow))])
def ao3:=wu Hd.eq_1
def He:CC:=(.reg [(qq BI (.fa 4 ec)),(qq BJ (.ld1 Ox)),(qq vT (.mv Oy)),(aH BK (.mv z5) vT),(gK vU (.cv OA [(.c (.s 1 62))]) vT),(qq BL (.pk Oz xT P4))])
def ao4:=wu He.eq_1
def Hf:CC:=(.reg [(qq vV (.mv z8)),(ee BM (.cv FL [])),(qq yS (.fa 3 ec)),(ez (.st 1 FM P5))])
def ao5:=wu Hf.eq_1
def Hg:CC:=(.seq He (.cond OB Hf .skip))
def ao6:=wu Hg.eq_1
def Hh:CC:=(.reg [(qq qz (.fa 0 z9)),(qq uk (.ld1 G7)),(qq yT (.ldn 6 ec)),(aa yU (.bsl 39 1 6 [(.i .i64 0),(.b false),.l0,.l0,(.b false),.l0] [(0,FN)])),(ee yV (.app 39 6 96 G9 Ga)),(qq yz (.fa 0 z9)),(ez (.st 1 Gb OC))])
def ao7:=wu Hh.eq_1
def Hi:CC:=(.reg [(ee yW (.call 33 [])),(qq fG (.mv (x6 0)))])
def ao8:=wu Hi.eq_1
def Hj:CC:=(.reg [(qq yA (.bi .lss w9 (x6 4)))])
def ao9:=wu Hj.eq_1
def Hk:CC:=(.cond Gc .skip (.exit 4))
def ap0:=wu Hk.eq_1
def Hl:CC:=(.reg [(qq BN (.mv w9)),(qq BO (.ixA1 4 1 OD w9)),(qq fF (.mv OE)),(qq eO (.mv OG))])
def ap1:=wu Hl.eq_1
def Hm:CC:=(.reg [(qq BP (.mv z5)),(qq BQ (.mv ej)),(ee BR (.cv OH [OI]))])
def ap2:=wu Hm.eq_1
def Hn:CC:=(.reg [(qq DK (.mv eP)),(qq dV (.mv P6))])
def ap3:=wu Hn.eq_1
def Ho:CC:=(.cond Gd (.seq Hn (.exit 1)) .skip)
def ap4:=wu Ho.eq_1
def Hp:CC:=(.reg [(qq DL (.bi .add w9 (x6 1))),(qq fG (.mv P7))])
def ap5:=wu Hp.eq_1
def Hq:CC:=(.seq Hk (.seq (.block 5 (.seq Hl (.seq Hm Ho))) Hp))
def ap6:=wu Hq.eq_1
def Hr:CC:=(.seq (.seq Hi (.block 4 (.loop (.seq Hj Hq)))) (.exit 0))
def ap7:=wu Hr.eq_1
def Hs:CC:=(.seq (.block 2 (.loop (.seq Hb (.block 3 Hc)))) (.seq (.seq Hd Hg) (.seq Hh Hr)))
def ap8:=wu Hs.eq_1
def Ht:CC:=(.loop (.block 1 (.seq H5 (.seq H6 (.seq H9 Hs)))))
def ap9:=wu Ht.eq_1
def Hu:CC:=(.reg [(qq qA (.ld1 z6)),(qq ul (.mv P8)),(aH DM (.ld1 z4) ul),(aH DN (.ln .slice Pa) ul),(aH DO (.bi .gtr OJ (x6 0)) ul),(qq DP (.pk P9 xT Sc)),(qq um (.mv Pb)),(aH DQ (.ldn 1 z9) um),(gK FS (.call 17 [Pe]) um),(aH FT (.bi .neq Sd (x6 0)) um),(qq FU (.pk Pd xT Se))])
def aq0:=wu Hu.eq_1
def Hv:CC:=(.reg [(qq FV (.bld [.l0] [])),(ez (.st 1 z2 Sg)),(qq a3 (.mv (x6 4)))])
def aq1:=wu Hv.eq_1
def Hw:CC:=(.cond Sf (.seq Hv .ret) .skip)
def aq2:=wu Hw.eq_1
def Hx:CC:=(.reg [(qq FW (.ldn 1 z9)),(ez (.st 1 z2 Si)),(qq a3 (.mv (x6 0)))])
def aq3:=wu Hx.eq_1
def Hy:CC:=(.seq (.block 0 Ht) (.seq (.seq Hu Hw) (.seq Hx .ret)))
def aq4:=wu Hy.eq_1
def Hz:CC:=(.scope (.seq Sv H4) (.tab 0 (.seq .skip Hy) .skip))
def aq5:=wu Hz.eq_1
def d7:CF:= .mk 7 [.cn a2 1,.t a3] (.seq Sr Hz)
theorem e10(v0:V):bA 7 [v0]=(.n Nk (some v0) Nk):=rfl
def ll:=ai @e10 (ai @b36 (ai @b37 (ai @b38 (ai @b39 (ai @b40 (ai @b41 (ai @b42 (ai @b43 (ai @b44 (ai @ak3 (ai @ak4 (ai @ak5 (ai @ak6 (ai @ak7 (ai @ak8 (ai @ak9 (ai @al0 (ai @al1 (ai @al2 (ai @al3 (ai @al4 (ai @al5 (ai @Bg (ai @al6 (ai @Bh (ai @al7 (ai @al8 (ai @al9 (ai @am0 (ai @am1 (ai @am2 (ai @am3 (ai @am4 (ai @am5 (ai @am6 (ai @am7 (ai @NP (ai @am8 (ai @NQ (ai @am9 (ai @an0 (ai @an1 (ai @an2 (ai @an3 (ai @an4 (ai @an5 (ai @an6 (ai @an7 (ai @an8 (ai @an9 (ai @ao0 (ai @ao1 (ai @ao2 (ai @ao3 (ai @ao4 (ai @ao5 (ai @ao6 (ai @ao7 (ai @ao8 (ai @ao9 (ai @ap0 (ai @ap1 (ai @ap2 (ai @ap3 (ai @ap4 (ai @ap5 (ai @ap6 (ai @ap7 (ai @ap8 (ai @ap9 (ai @aq0 (ai @aq1 (ai @aq2 (ai @aq3 (ai @aq4 (@aq5))))))))))))))))))))))))))))))))))))))))))))))))))))))))))))))))))))))))))))
structure FQ(lo cs bl c1:Nat)(M1:Mem):Prop where
 h1:bl<lo
 h2:lo≤cs
 h3:cs+3≤c1
 m7:M1.get (cs+1)=some (af 74 [.f 31 [] [.p bl 0]])
structure RS(F:RO)(lo cs:Nat)(Ms:Mem)(bl:Nat)(M1:Mem)(c1:Nat)(M2:Mem)(c2:Nat)(bad:Bool)(ts:List T2):Prop where
 g:iF (fun x=>x=bl∨x=cs) c1 M1 c2 M2
 ok:cU F M2 c2
 tk:∃v,M2.get bl=some (af 71 [v])∧ug lo cs Ms v ts
 m6:M2.get cs=some (af 4 [.b bad])
 bk:Bk lo cs Ms M2
theorem RS.grx{F:RO}{lo cs bl c1 c2 c3:Nat}{Ms M1 M2 M3:Mem}{bad bad':Bool}{ts ts':List T2}(h:RS F lo cs Ms bl M1 c1 M2 c2 bad ts)(h1:bl<lo)(h2:lo≤cs)(h3:cs<c1)(g:iF (fun x=>x=bl∨x=cs) c2 M2 c3 M3)(htk:∃v,M3.get bl=some (af 71 [v])∧ug lo cs Ms v ts')(m6:M3.get cs=some (af 4 [.b bad'])):RS F lo cs Ms bl M1 c1 M3 c3 bad' ts':=by
 have hle:=h.g.le
 refine⟨h.g.trans g,g.ok h.ok fun b hb hx=>?_,htk,m6,fun x a b=>(g.old x (by omega) (by omega)).trans (h.bk x a b)⟩
 rcases hx with rfl|rfl
 ·obtain⟨v,hv,_⟩:=h.tk;exact⟨_,hv⟩
 ·exact⟨_,h.m6⟩
theorem RS.grow{F:RO}{lo cs bl c1 c2 c3:Nat}{Ms M1 M2 M3:Mem}{bad:Bool}{ts:List T2}(h:RS F lo cs Ms bl M1 c1 M2 c2 bad ts)(h1:bl<lo)(h2:lo≤cs)(h3:cs<c1)(g:Gr c2 M2 c3 M3):RS F lo cs Ms bl M1 c1 M3 c3 bad ts:=by
 have hle:=h.g.le
 obtain⟨v,hv,ht⟩:=h.tk
 exact h.grx h1 h2 h3 (iF.of g) ⟨v,(g.old _ (by omega)).trans hv,ht⟩ ((g.old _ (by omega)).trans h.m6)
theorem RS.put{F:RO}{lo cs bl c1 c2:Nat}{Ms M1 M2:Mem}{bad:Bool}{ts:List T2}(h:RS F lo cs Ms bl M1 c1 M2 c2 bad ts)(h1:bl<lo)(h2:lo≤cs)(h3:cs<c1){x:Nat}{y z:bw}(hx:c1≤x)(hx2:x<c2)(hm:M2.get x=some y):RS F lo cs Ms bl M1 c1 (M2.set x z) c2 bad ts:=by
 have hle:=h.g.le
 obtain⟨v,hv,ht⟩:=h.tk
 refine⟨⟨hle,fun b hb hn=>by rw[ag _ _ (by omega)];exact h.g.old b hb hn,fun b hb=>by rw[ag _ _ (by omega)];exact h.g.new b hb⟩,h.ok.put hx2 hm,⟨v,by rw[ag _ _ (by omega)];exact hv,ht⟩,by rw[ag _ _ (by omega)];exact h.m6,fun b h4 h5=>by rw[ag _ _ (by omega)];exact h.bk b h4 h5⟩
theorem RS.fr{F:RO}{lo cs bl c1 c2 c3:Nat}{Ms M1 M2 M3:Mem}{bad:Bool}{ts:List T2}(h:RS F lo cs Ms bl M1 c1 M2 c2 bad ts)(h1:bl<lo)(h2:lo≤cs)(h3:cs<c1)(g:iF (fun x=>c1≤x) c2 M2 c3 M3)(ok:cU F M3 c3):RS F lo cs Ms bl M1 c1 M3 c3 bad ts:=by
 have hle:=h.g.le
 have hle2:=g.le
 obtain⟨v,hv,ht⟩:=h.tk
 refine⟨⟨by omega,fun x a b=>(g.old x (by omega) (by omega)).trans (h.g.old x a b),g.new⟩,ok,⟨v,(g.old bl (by omega) (by omega)).trans hv,ht⟩,(g.old cs (by omega) (by omega)).trans h.m6,fun x a b=>(g.old x (by omega) (by omega)).trans (h.bk x a b)⟩
theorem QG(Φ:Nat→Option CF)(h30:Φ 30=some OU){F:RO}{lo cs bl c1 c2:Nat}{Ms M1 M2:Mem}{bad:Bool}{ts:List T2}(h:RS F lo cs Ms bl M1 c1 M2 c2 bad ts)(h1:bl<lo)(h2:lo≤cs)(h3:cs<c1)(s:List UInt8):
 Calls Φ F 30 [sV s,.p bl 0] M2 c2 fun r M' c'=>c'=c2∧(∀x,x≠bl→M'.get x=M2.get x)∧((∃rs,isS s ts=some rs∧r= .b true∧RS F lo cs Ms bl M1 c1 M' c2 bad rs)∨(isS s ts=none∧r= .b false∧RS F lo cs Ms bl M1 c1 M' c2 bad ts)):=by
 obtain⟨v,hv,ht⟩:=h.tk
 have hle:=h.g.le
 refine(w30 Φ h30 h.bk hv ht s).mono ?_
 rintro r M' c' ⟨rfl,⟨rs,v',e1,rfl,rfl,e2⟩|⟨e1,rfl,rfl⟩⟩
 ·exact⟨rfl,fun x hx=>ag _ _ hx,.inl ⟨rs,e1,rfl,h.grx h1 h2 h3 (iF.set h.ok (by omega) (.inl rfl) _) ⟨v',am _ _ _,e2⟩ (by rw[ag _ _ (by omega)];exact h.m6)⟩⟩
 ·exact⟨rfl,fun _ _=>rfl,.inr ⟨e1,rfl,h⟩⟩
theorem aX1(Φ:Nat→Option CF)(h32:Φ 32=some PR)(h31:Φ 31=some Eb){F:RO}{lo cs bl c1 c2:Nat}{Ms M1 M2:Mem}{bad:Bool}{ts:List T2}(cx:FQ lo cs bl c1 M1)(h:RS F lo cs Ms bl M1 c1 M2 c2 bad ts):
 Calls Φ F 32 [.p (cs+1) 0,.p cs 0] M2 c2 fun r M' c'=>∃pv,r= .g [pv]∧bD pv=true∧Dp lo cs Ms pv (redir ts).1∧RS F lo cs Ms bl M1 c1 M' c' (bad||(redir ts).2.1) (redir ts).2.2∧(∀x,x<c2→x≠bl→x≠cs→M'.get x=M2.get x)∧c2≤c':=by
 obtain⟨h1,h2,h3,m7⟩:=cx
 obtain⟨v,hv,ht⟩:=h.tk
 have hle:=h.g.le
 refine(w32 Φ h32 h31 h.ok (by omega) h1 h2 (by omega) (by omega) (ah _) (by omega) h.bk hv h.m6 ((h.g.old (cs+1) (by omega) (by omega)).trans m7) ht).mono ?_
 rintro r M' c' ⟨g,⟨w,rs,v',pv,e1,rfl,e2,e3,e4,e5,e6⟩|⟨e1,rfl,e2,e3⟩⟩
 ·have hr:redir ts=(w,false,rs):=by unfold redir;rw[e1]
  rw[hr];exact⟨pv,rfl,e2,e3,h.grx h1 h2 (by omega) g ⟨v',e4,e5⟩ (by rw[e6];cases bad<;>rfl),fun x a b d=>g.old x a (by omega),g.le⟩
 ·have hr:redir ts=([],true,ts):=by unfold redir;rw[e1]
  rw[hr];exact⟨.l0,rfl,rfl,fun F M' _=>⟨⟨fun e he=>(by cases he),.inl ⟨rfl,.inl rfl⟩⟩,az _⟩,h.grx h1 h2 (by omega) g e2 (by rw[e3];cases bad<;>rfl),fun x a b d=>g.old x a (by omega),g.le⟩
theorem wdR(Φ:Nat→Option CF)(h31:Φ 31=some Eb){F:RO}{lo cs bl c1 c2 m:Nat}{Ms M1 M2:Mem}{bad:Bool}{ts:List T2}(cx:FQ lo cs bl c1 M1)(h:RS F lo cs Ms bl M1 c1 M2 c2 bad ts)(hm:ts.length≤m)(hm2:m≤1000000):
 Calls Φ F 31 [.i .i64 (m:Int),.p bl 0] M2 c2 fun r M' c'=>RS F lo cs Ms bl M1 c1 M' c' bad (cm ts).2∧we lo cs Ms M' c2 c' r (cm ts).1∧(∀x,x<c2→x≠bl→M'.get x=M2.get x)∧c2≤c':=by
 obtain⟨h1,h2,h3,m7⟩:=cx
 obtain⟨v,hv,ht⟩:=h.tk
 have hle:=h.g.le
 refine(w31 Φ h31 h.ok (by omega) h1 h2 h.bk hv ht m hm2).mono ?_
 rintro r M' c' ⟨g,hW,htk⟩
 rw[rW m ts hm]at hW htk
 exact⟨h.grx h1 h2 (by omega) (g.wk fun _ _ e=> .inl e) htk ((g.old cs (by omega) (by omega)).trans h.m6),hW,fun x a b=>g.old x a b,g.le⟩
theorem n18(Φ:Nat→Option CF)(h30:Φ 30=some OU)(h31:Φ 31=some Eb)(h32:Φ 32=some PR){F:RO}{lo cs bl c c1 c2:Nat}{Ms M1 M2:Mem}{bad:Bool}{ts:List T2}{s:List UInt8}{j:Int}{nt:Bool}{vc:V}(cx:FQ lo cs bl c1 M1)(h:RS F lo cs Ms bl M1 c1 M2 c2 bad ts)(hc:c1<c2)(mp:M2.get c1=some (af 39 [.i .i64 j,.b nt,.l0,.l0,.b false,vc]))(u:List (Option V))(Q:Ex→St→Prop)
 (hQ:∀(u:List (Option V)) M' c' vi,RS F lo cs Ms bl M1 c1 M' c' (bad||(cY ts).2.1) (cY ts).2.2→bD vi=true→Dp lo cs Ms vi (cY ts).1→M'.get c1=some (af 39 [.i .i64 j,.b nt,vi,.l0,.b false,vc])→c2≤c'→(∀x,c1<x→x<c2→M'.get x=M2.get x)→Q .nrm (.mk ((gV u (sV s) (.p c 0) (.p bl 0) (.f 30 [] [.p bl 0]) (.p cs 0) (.p (cs+1) 0) (.f 32 [] [.p (cs+1) 0,.p cs 0]) (.p (cs+2) 0) (.i .i64 j) (.p c1 0))) [] M' c')):
 Wp uu (K Φ none 10 F) (.mk ((gV u (sV s) (.p c 0) (.p bl 0) (.f 30 [] [.p bl 0]) (.p cs 0) (.p (cs+1) 0) (.f 32 [] [.p (cs+1) 0,.p cs 0]) (.p (cs+2) 0) (.i .i64 j) (.p c1 0))) [] M2 c2) Q:=by
 have OX:V.s 1 60=sV [60]:=rfl
 have hx:=cx.h1;have hx2:=cx.h2;have hx3:=cx.h3
 simp only[WX,ll]
 rw[OX]
 refine av ((QG Φ h30 h cx.h1 cx.h2 (by omega) [60]).mono ?_)
 rintro r M3 c3 ⟨rfl,hf,⟨rs,e1,rfl,hR⟩|⟨e1,rfl,hR⟩⟩
 ·have hi:cY ts=redir rs:=by unfold cY;rw[e1]
  rw[hi]at hQ;simp only[WX,ll];refine av ((aX1 Φ h32 h31 cx hR).mono ?_);rintro r M4 c4 ⟨pv,rfl,p1,p2,hR4,hf4,hlt⟩;have hle:=hR4.g.le;have m4:M4.get c1=some (af 39 [.i .i64 j,.b nt,.l0,.l0,.b false,vc]):=(hf4 c1 hc (by omega) (by omega)).trans ((hf c1 (by omega)).trans mp);have hG:flatten (V.g [pv])=[pv]:=rfl;have st:=aK m4 2 [pv] (by simp) (by rw[aD,cg,p1];rfl);simp only[WX,Nat.reduceAdd,hG,st];exact hQ (G1 (X1 (G1 (X1 (G8 (cF (cH (ce (X2 (X1 [])))))))))) _ _ pv (hR4.put cx.h1 cx.h2 (by omega) (ah _) (by omega) m4) p1 p2 (am _ _ _) hlt (fun x a b=>by rw[ag _ _ (by omega),hf4 x b (by omega) (by omega)];exact hf x (by omega))
 ·have hi:cY ts=([],false,ts):=by unfold cY;rw[e1]
  rw[hi,Bool.or_false]at hQ;simp only[WX];exact hQ (G1 (X1 (G1 (X1 (G8 (cF (cH (ce (X2 (X1 [])))))))))) _ _ .l0 hR rfl (fun F M' _=>⟨⟨fun e he=>(by cases he),.inl ⟨rfl,.inl rfl⟩⟩,az _⟩) ((hf c1 (by omega)).trans mp) (ah _) (fun x a b=>hf x (by omega))
def yx(F:RO)(lo cs:Nat)(Ms M:Mem)(a c:Nat)(vc:V)(cl:List hU):Prop:=∃b es,Dm M a c vc b es∧es.length=cl.length∧cl.length≤1000000∧ ∀i (h:i<es.length) (h':i<cl.length),∃wv l h2,es[i]=[wv]∧a≤l∧l≤h2∧h2≤c∧(b<l∨h2≤b)∧ub lo cs Ms M l h2 fun M'=>CmT F l M' h2 wv cl[i]
theorem yx.keep{F:RO}{lo cs:Nat}{Ms M M2:Mem}{a c c2:Nat}{vc:V}{cl:List hU}(h:yx F lo cs Ms M a c vc cl)(hc:c≤c2)(hM:∀x,a≤x→x<c→M2.get x=M.get x):yx F lo cs Ms M2 a c2 vc cl:=by
 obtain⟨b,es,hv,h1,h2,h3⟩:=h
 refine⟨b,es,hv.up hc (hM b hv.2.1 hv.2.2.1),h1,h2,fun i hi hi'=>?_⟩
 obtain⟨wv,l,h2,e1,e2,e3,e4,e5,e6⟩:=h3 i hi hi'
 exact⟨wv,l,h2,e1,e2,e3,by omega,e5,e6.up fun x a1 a2=>hM x (by omega) (by omega)⟩
theorem yx.own{F:RO}{lo cs:Nat}{Ms M:Mem}{a c:Nat}{vc:V}{cl:List hU}(h:yx F lo cs Ms M a c vc cl):ub lo cs Ms M a c fun M'=>Zn F a M' c vc cl:=by
 intro M' hB hM
 obtain⟨b,es,hv,h1,h2,h3⟩:=h
 have hv':Dm M' a c vc b es:=hv.up (ah _) (hM b hv.2.1 hv.2.2.1)
 refine⟨⟨es,hv'.sl,h1,aY h2 (by decide),fun i hi hi'=>?_⟩,by rw[←h1];exact hv'.sh⟩
 obtain⟨wv,l,h2,e1,e2,e3,e4,e5,e6⟩:=h3 i hi hi'
 exact⟨wv,e1,(e6 M' hB fun x a1 a2=>hM x (by omega) (by omega)).up e2 e4⟩
theorem yx.one{F:RO}{lo cs:Nat}{Ms M:Mem}{a c:Nat}{vc:V}{cl:List hU}(h:yx F lo cs Ms M a c vc cl):bD vc=true∧flatten vc=[vc]∧aE [vc]=true:=by
 obtain⟨b,es,hv,_⟩:=h;exact hv.one
theorem yx.len{F:RO}{lo cs:Nat}{Ms M:Mem}{a c:Nat}{vc:V}{cl:List hU}(h:yx F lo cs Ms M a c vc cl):cl.length≤1000000:=by
 obtain⟨b,es,hv,_,h2,_⟩:=h;exact h2
theorem xN{j:Int}{nt beh:Bool}{vi vo vc:V}(h1:bD vi=true)(h2:bD vo=true)(h3:bD vc=true):aE [.i .i64 j,.b nt,vi,vo,.b beh,vc]=true:=by
 rw[aD,aD,aD,aD,aD,aD,cg,h1,h2,h3];rfl
theorem n15(Φ:Nat→Option CF)(h31:Φ 31=some Eb){F:RO}{lo cs bl c c1 c2:Nat}{Ms M1 M2:Mem}{bad:Bool}{ts:List T2}{s:List UInt8}{j:Int}{nt:Bool}(cx:FQ lo cs bl c1 M1)(h:RS F lo cs Ms bl M1 c1 M2 c2 bad ts)(hc:c1<c2)(hm:ts.length≤s.length)(hs:s.length≤400000)(mp:M2.get c1=some (af 39 [.i .i64 j,.b nt,.l0,.l0,.b false,.l0]))(u:List (Option V))(Q:Ex→St→Prop)
 (hQ:∀(u:List (Option V)) M' c' vc,RS F lo cs Ms bl M1 c1 M' c' bad (cm ts).2→yx F lo cs Ms M' (c1+1) c' vc [(cm ts).1]→M'.get c1=some (af 39 [.i .i64 j,.b nt,.l0,.l0,.b false,vc])→c2≤c'→Q .nrm (.mk ((gV u (sV s) (.p c 0) (.p bl 0) (.f 30 [] [.p bl 0]) (.p cs 0) (.p (cs+1) 0) (.f 32 [] [.p (cs+1) 0,.p cs 0]) (.p (cs+2) 0) (.i .i64 j) (.p c1 0))) [] M' c')):
 Wp ut (K Φ none 10 F) (.mk ((gV u (sV s) (.p c 0) (.p bl 0) (.f 30 [] [.p bl 0]) (.p cs 0) (.p (cs+1) 0) (.f 32 [] [.p (cs+1) 0,.p cs 0]) (.p (cs+2) 0) (.i .i64 j) (.p c1 0))) [] M2 c2) Q:=by
 have hx:=cx.h1;have hx2:=cx.h2;have hx3:=cx.h3
 have l7:load1 F M2 (cs+1) 0=some (.f 31 [] [.p bl 0]):=aq ((h.g.old (cs+1) (by omega) (by omega)).trans cx.m7) 0
 simp only[WX,ll,l7]
 refine av ((wdR Φ h31 cx h hm (by omega)).mono ?_)
 rintro r M3 c3 ⟨hR,hW,hf,hle⟩
 obtain⟨w1,w2,w3⟩:=hW.one
 have hG:∀v,flatten (V.g [v])=[v]:=fun _=>rfl
 have gZ:=(Gr.refl hR.ok).set c3 (bK [V.l0] 42 [r]) (ah _) (aA _) (aG _)
 have m3:(M3.set c3 (bK [V.l0] 42 [r])).get c1=some (af 39 [.i .i64 j,.b nt,.l0,.l0,.b false,.l0]):=(ag _ _ (by omega)).trans ((hf c1 hc (by omega)).trans mp)
 have st:=aK m3 5 [.l c3 0 1 1] (by simp) rfl
 simp only[WX,Nat.reduceAdd,Nat.reduceLeDiff,hG,w1,w2,st]
 have hR3:=(hR.grow cx.h1 cx.h2 (by omega) gZ).put cx.h1 cx.h2 (by omega) (ah _) (z:=af 39 (over [.i .i64 j,.b nt,.l0,.l0,.b false,.l0] 5 [.l c3 0 1 1])) (by omega) m3
 refine hQ (G1 (X1 (G1 (X1 (G8 (cF (cH (ce (X2 (X1 [])))))))))) _ _ (.l c3 0 1 1) hR3 ?_ (am _ _ _) (by omega)
 refine⟨c3,[[r]],⟨fun e he=>by rw[List.mem_singleton]at he;subst he;rfl,by omega,aA _,.inl ⟨rfl,rfl,by rw[ag _ _ (by omega)];exact am _ _ _⟩⟩,rfl,by show 1≤1000000;omega,fun i hi hi'=>?_⟩
 have hi0:i=0:=by simp only[aw,aL]at hi;omega
 subst hi0
 refine⟨r,c2,c3,rfl,by omega,by omega,by omega,by omega,?_⟩
 have:=(hW.own (F:=F) (by omega)).up (M2:=(M3.set c3 (bK [V.l0] 42 [r])).set c1 (af 39 (over [.i .i64 j,.b nt,.l0,.l0,.b false,.l0] 5 [.l c3 0 1 1]))) fun x a1 a2=>by rw[ag _ _ (by omega),ag _ _ (by omega)]
 exact this
theorem n21(Φ:Nat→Option CF)(h30:Φ 30=some OU)(h31:Φ 31=some Eb){F:RO}{lo cs bl c c1 c2:Nat}{Ms M1 M2:Mem}{bad:Bool}{ts:List T2}{s:List UInt8}{j:Int}{nt:Bool}{vi vc:V}{cl:List hU}(cx:FQ lo cs bl c1 M1)(h:RS F lo cs Ms bl M1 c1 M2 c2 bad ts)(hc:c1<c2)(hm:ts.length≤s.length)(hs:s.length≤400000)(hvi:bD vi=true)(mp:M2.get c1=some (af 39 [.i .i64 j,.b nt,vi,.l0,.b false,vc]))(hca:yx F lo cs Ms M2 (c1+1) c2 vc cl)(hcl:cl.length+ts.length≤900000)(u:List (Option V))(Q:Ex→St→Prop)
 (hQ:∀(u:List (Option V)) M' c' vc,RS F lo cs Ms bl M1 c1 M' c' bad (cW ts).2→yx F lo cs Ms M' (c1+1) c' vc (cl++(cW ts).1)→M'.get c1=some (af 39 [.i .i64 j,.b nt,vi,.l0,.b false,vc])→c2≤c'→Q (.ext 2) (.mk ((gV u (sV s) (.p c 0) (.p bl 0) (.f 30 [] [.p bl 0]) (.p cs 0) (.p (cs+1) 0) (.f 32 [] [.p (cs+1) 0,.p cs 0]) (.p (cs+2) 0) (.i .i64 j) (.p c1 0))) [] M' c')):
 Wp (.loop (.seq zc (.block 3 zd))) (K Φ none 10 F) (.mk ((gV u (sV s) (.p c 0) (.p bl 0) (.f 30 [] [.p bl 0]) (.p cs 0) (.p (cs+1) 0) (.f 32 [] [.p (cs+1) 0,.p cs 0]) (.p (cs+2) 0) (.i .i64 j) (.p c1 0))) [] M2 c2) Q:=by
 have hx:=cx.h1;have hx2:=cx.h2;have hx3:=cx.h3
 have c124:V.s 1 124=sV [124]:=rfl
 obtain⟨I,hI⟩:∃I:Nat→St→Prop,∀n s',I n s'↔(∃(c3:Nat) (M3:Mem) (tr:List T2) (vc':V) (cu:List hU) (u:List (Option V)),n=tr.length∧s'= .mk ((gV u (sV s) (.p c 0) (.p bl 0) (.f 30 [] [.p bl 0]) (.p cs 0) (.p (cs+1) 0) (.f 32 [] [.p (cs+1) 0,.p cs 0]) (.p (cs+2) 0) (.i .i64 j) (.p c1 0))) [] M3 c3∧RS F lo cs Ms bl M1 c1 M3 c3 bad tr∧c2≤c3∧tr.length≤s.length∧cu.length+tr.length≤900000∧M3.get c1=some (af 39 [.i .i64 j,.b nt,vi,.l0,.b false,vc'])∧yx F lo cs Ms M3 (c1+1) c3 vc' cu∧cl++(cW ts).1=cu++(cW tr).1∧(cW ts).2=(cW tr).2):=⟨fun n s'=>_,fun _ _=>Iff.rfl⟩
 refine bS I ?_ ts.length _ ((hI _ _).2 ⟨_,_,_,_,_,(G1 (X1 (G1 (X1 (G8 (cF (cH (ce (X2 (X1 [])))))))))),rfl,rfl,h,ah _,hm,hcl,mp,hca,rfl,rfl⟩)
 intro n s' hIs
 obtain⟨c3,M3,tr,vc',cu,u,rfl,rfl,hR,hle,hml,hcu,mp3,hca3,he1,he2⟩:=(hI _ _).1 hIs
 clear hIs
 simp only[WX,ll]
 rw[c124]
 refine av ((QG Φ h30 hR cx.h1 cx.h2 (by omega) [124]).mono ?_)
 rintro r M4 c4 ⟨rfl,hf,⟨rs,e1,rfl,hR4⟩|⟨e1,rfl,hR4⟩⟩
 ·have hrl:=eE e1;have hp:=Ax e1;have mp4:=(hf c1 (by omega)).trans mp3;have l5:load1 F M4 c1 5=some vc':=aq mp4 5;have l7:load1 F M4 (cs+1) 0=some (.f 31 [] [.p bl 0]):=aq ((hR4.g.old (cs+1) (by omega) (by omega)).trans cx.m7) 0;have hca4:yx F lo cs Ms M4 (c1+1) c4 vc' cu:=hca3.keep (ah _) fun x a1 a2=>hf x (by omega);have hfr:=hR4.ok.free;simp only[WX,ll,l5,l7];have g5:Gr c4 M4 (c4+11) M4:=(Gr.refl hR4.ok).up (by omega);have hR5:=hR4.grow cx.h1 cx.h2 (by omega) g5;obtain⟨v,hv,ht⟩:=hR5.tk;refine ax0 (hx:=fun x=>x=bl) _ _ _ _ _ _ _ _ _ _ _ hR5.ok (by intro e he;simp only[be,List.not_mem_nil,or_false]at he;rcases he with rfl|rfl<;>show¬_=bl<;>dsimp only<;>omega) (fun b hb hx=>by rw[hx];exact⟨_,hv⟩) ?_;intro F1 N1 okn hlk hkp;have hkp2:∀x,x<cs→N1.get x=M4.get x:=fun x hx=>hkp x (by intro e he;simp only[be,List.not_mem_nil,or_false]at he;rcases he with rfl|rfl<;>dsimp only<;>omega);refine(show nF (da (iL Φ) F1 31 [.i .i64 (s.length:Int),.p bl 0] N1 (c4+11) (Φ 31)) _ from(w31 Φ h31 okn (by omega) hx hx2 (fun x a b=>(hkp2 x b).trans (hR5.bk x a b)) ((hkp2 bl (by omega)).trans hv) ht s.length (by omega)).mono ?_);rintro wv N2 c5 ⟨gN,hW,v2,hv2,ht2⟩;rw[rW s.length rs (by omega)]at hW ht2;refine⟨gN,fun M6 g6 hM6=>?_⟩;have hle6:=g6.le;have hR6:RS F lo cs Ms bl M1 c1 M6 c5 bad (cm rs).2:=hR5.grx cx.h1 cx.h2 (by omega) (g6.wk fun _ _ e=> .inl e) ⟨v2,(hM6 bl (.inr rfl)).trans hv2,ht2⟩ ((g6.old cs (by omega) (by omega)).trans hR5.m6);have hW6:we lo cs Ms M6 (c4+11) c5 wv (cm rs).1:=by
   obtain⟨b,es,hA,a2,a3,a4⟩:=hW;refine⟨b,es,?_,a2,a3,a4⟩;rcases hA with⟨a0,a|⟨b1,b2,b3,b4⟩⟩
   ·exact⟨a0,.inl a⟩
   ·exact⟨a0,.inr ⟨b1,b2,b3,by rw[hM6 b (.inl b1)];exact b4⟩⟩
  obtain⟨w1,w2,w3⟩:=hW6.one;have mp6:=(g6.old c1 (by omega) (by omega)).trans mp4;have hca6:yx F lo cs Ms M6 (c1+1) c4 vc' cu:=hca4.keep (ah _) fun x a1 a2=>g6.old x (by omega) (by omega);have lk:(look F M6 (c4+7)).isNone=true:=by rw[cz (g6.old _ (by omega) (by omega)),hR4.ok.look (by omega)];rfl
  have rf:bQ (c4+7) [(2,cs+1),(1,c1)]=true:=by rw[bv _ _ _ _ (by omega),bv _ _ _ _ (by omega),cI]
  have hG:∀v,flatten (V.g [v])=[v]:=fun _=>rfl;simp only[WX,Nat.reducePow,Nat.reduceDiv,Nat.reduceMod,Nat.reduceBEq,Nat.reduceLeDiff,lk,rf,vF,ng,rV,hG,w1,w2,Lk];obtain⟨b,es,hvA,q1,q2,q3⟩:=hca4;have hb1:=hvA.2.1;have hb2:=hvA.2.2.1;have gZ4:iF (fun x=>x=bl∨x=cs) c4 M4 c5 (M6.set (c4+7) (bK [V.l0] 42 [wv])):=⟨by omega,fun x a b=>by rw[ag _ _ (by omega)];exact g6.old x (by omega) (fun e=>b (.inl e)),fun x a=>by rw[ag _ _ (by omega)];exact g6.new x a⟩
  have hRZ:=hR4.grx (bad':=bad) (ts':=(cm rs).2) cx.h1 cx.h2 (by omega) gZ4 ⟨v2,(ag _ _ (by omega)).trans ((hM6 bl (.inr rfl)).trans hv2),ht2⟩ ((ag _ _ (by omega)).trans ((g6.old cs (by omega) (by omega)).trans hR4.m6));have hM4:∀x,c1≤x→x<c4→(M6.set (c4+7) (bK [V.l0] 42 [wv])).get x=M4.get x:=fun x a1 a2=>by rw[ag _ _ (by omega)];exact g6.old x (by omega) (by omega)
  have hvZ:=hvA.up (M2:=M6.set (c4+7) (bK [V.l0] 42 [wv])) (c2:=c5) (by omega) (hM4 b (by omega) hb2);refine fe ((Q9 hvZ hRZ.ok w1 (show c4+7<c5 by omega) (by omega) (am _ _ _) (by omega)).mono ?_);rintro v' M7 c7 ⟨b',hv7,hle7,hb7,hf7,hn7⟩;have gx7:iF (fun x=>x=b) c5 (M6.set (c4+7) (bK [V.l0] 42 [wv])) c7 M7:=⟨hle7,fun x a b=>hf7 x a b,hn7⟩
  have ok7:cU F M7 c7:=gx7.ok hRZ.ok fun x a e=>by
   rw[e];obtain⟨_,_,_,⟨_,_,hm⟩|⟨_,hm⟩⟩:=hvZ
   ·exact⟨_,hm⟩
   ·exact⟨_,hm⟩
  have hR7:=hRZ.fr cx.h1 cx.h2 (by omega) (gx7.wk fun x _ e=>by rw[e];omega) ok7;have mp7:M7.get c1=some (af 39 [.i .i64 j,.b nt,vi,.l0,.b false,vc']):=(hf7 c1 (by omega) (by omega)).trans ((hM4 c1 (ah _) (by omega)).trans mp4);obtain⟨k1,k2,k3⟩:=hv7.one;have st:=aK mp7 5 [v'] (by simp) k3;have ho:over [.i .i64 j,.b nt,vi,.l0,.b false,vc'] 5 [v']=[.i .i64 j,.b nt,vi,.l0,.b false,v']:=rfl;rw[ho]at st;have hR8:=hR7.put cx.h1 cx.h2 (by omega) (ah _) (z:=af 39 [.i .i64 j,.b nt,vi,.l0,.b false,v']) (by omega) mp7;have f8:=hR8.ok.free;refine⟨ok7.free,?_⟩;simp only[WX,Nat.reducePow,Nat.reduceDiv,Nat.reduceMod,Nat.reduceBEq,kC,k2,st,f8];refine⟨(cm rs).2.length,by have:=iZ rs;omega,(hI _ _).2 ⟨c7,_,(cm rs).2,v',cu++[(cm rs).1],(G1 (X1 (G1 (X1 (G8 (cF (cH (ce (X2 (X1 [])))))))))),rfl,rfl,hR8,by omega,by have:=iZ rs;omega,by have:=iZ rs;rw[aO,List.length_singleton];omega,am _ _ _,?_,by rw[he1,hp];simp,by rw[he2,hp]⟩⟩;refine⟨b',es++[[wv]],hv7.up (ah _) (ag _ _ (by have:=hv7.2.1;omega)),by rw[aO,aO,q1];rfl,by rw[aO,List.length_singleton];omega,fun i hi hi'=>?_⟩
  have FR:∀x,c1<x→x<c5→x≠b→x≠c4+7→(M7.set c1 (af 39 [.i .i64 j,.b nt,vi,.l0,.b false,v'])).get x=M6.get x:=fun x a1 a2 a3 a4=>by
   rw[ag _ _ (by omega),hf7 x a2 a3,ag _ _ a4]
  by_cases hie:i<es.length
  ·obtain⟨wv',l,h2,e1,e2,e3,e4,e5,e6⟩:=q3 i hie (by omega);refine⟨wv',l,h2,by rw[eT hie];exact e1,e2,e3,by omega,by omega,?_⟩;have:=e6.up (M2:=M7.set c1 (af 39 [.i .i64 j,.b nt,vi,.l0,.b false,v'])) fun x a1 a2=>(FR x (by omega) (by omega) (by omega) (by omega)).trans (g6.old x (by omega) (by omega));rw[eT (by omega)];exact this
  ·rw[aO]at hi;simp only[aw,aL]at hi;obtain rfl:i=es.length:=by omega
   refine⟨wv,c4+11,c5,by rw[eS (ah _)];simp,by omega,by omega,by omega,by omega,?_⟩;have:=(hW6.own (F:=F) (by omega)).up (M2:=M7.set c1 (af 39 [.i .i64 j,.b nt,vi,.l0,.b false,v'])) fun x a1 a2=>FR x (by omega) (by omega) (by omega) (by omega);rw[eS (by omega)];simp only[q1,Nat.sub_self,List.getElem_cons_zero];exact this
 ·rw[rj e1,bP]at he1;rw[rj e1]at he2;simp only[WX];rw[he1,he2]at hQ;exact hQ (G1 (X1 (G1 (X1 (G8 (cF (cH (ce (X2 (X1 [])))))))))) _ _ vc' hR4 (hca3.keep (ah _) fun x a1 a2=>hf x (by omega)) ((hf c1 (by omega)).trans mp3) hle
theorem n24(Φ:Nat→Option CF)(h31:Φ 31=some Eb)(h32:Φ 32=some PR){F:RO}{lo cs bl c c1 c2:Nat}{Ms M1 M2:Mem}{bad:Bool}{ts:List T2}{s:List UInt8}{j:Int}{nt beh:Bool}{vi vc:V}(cx:FQ lo cs bl c1 M1)(h:RS F lo cs Ms bl M1 c1 M2 c2 bad ts)(hc:c1<c2)(mp:M2.get c1=some (af 39 [.i .i64 j,.b nt,vi,.l0,.b beh,vc]))(u:List (Option V))(Q:Ex→St→Prop)
 (hQ:∀(u:List (Option V)) M' c' vo,RS F lo cs Ms bl M1 c1 M' c' (bad||(redir ts).2.1) (redir ts).2.2→bD vo=true→Dp lo cs Ms vo (redir ts).1→M'.get c1=some (af 39 [.i .i64 j,.b nt,vi,vo,.b beh,vc])→c2≤c'→(∀x,c1<x→x<c2→M'.get x=M2.get x)→Q .nrm (.mk ((gV u (sV s) (.p c 0) (.p bl 0) (.f 30 [] [.p bl 0]) (.p cs 0) (.p (cs+1) 0) (.f 32 [] [.p (cs+1) 0,.p cs 0]) (.p (cs+2) 0) (.i .i64 j) (.p c1 0))) [] M' c')):
 Wp zf (K Φ none 10 F) (.mk ((gV u (sV s) (.p c 0) (.p bl 0) (.f 30 [] [.p bl 0]) (.p cs 0) (.p (cs+1) 0) (.f 32 [] [.p (cs+1) 0,.p cs 0]) (.p (cs+2) 0) (.i .i64 j) (.p c1 0))) [] M2 c2) Q:=by
 have hx:=cx.h1;have hx2:=cx.h2;have hx3:=cx.h3
 simp only[WX,ll]
 refine av ((aX1 Φ h32 h31 cx h).mono ?_)
 rintro r M4 c4 ⟨pv,rfl,p1,p2,hR4,hf4,hlt⟩
 have m4:M4.get c1=some (af 39 [.i .i64 j,.b nt,vi,.l0,.b beh,vc]):=(hf4 c1 hc (by omega) (by omega)).trans mp
 have hG:flatten (V.g [pv])=[pv]:=rfl
 have st:=aK m4 3 [pv] (by simp) (by rw[aD,cg,p1];rfl)
 simp only[WX,Nat.reduceAdd,hG,st]
 exact hQ (G1 (X1 (G1 (X1 (G8 (cF (cH (ce (X2 (X1 [])))))))))) _ _ pv (hR4.put cx.h1 cx.h2 (by omega) (ah _) (by omega) m4) p1 p2 (am _ _ _) hlt (fun x a b=>by rw[ag _ _ (by omega)];exact hf4 x b (by omega) (by omega))
theorem RQ(lo cs:Nat)(Ms:Mem):Dp lo cs Ms .l0 []:=fun F M' _=>⟨⟨fun e he=>(by cases he),.inl ⟨rfl,.inl rfl⟩⟩,az _⟩
theorem n22(Φ:Nat→Option CF)(h30:Φ 30=some OU)(h31:Φ 31=some Eb)(h32:Φ 32=some PR){F:RO}{lo cs bl c c1 c2:Nat}{Ms M1 M2:Mem}{bad:Bool}{ts:List T2}{s:List UInt8}{j:Int}{nt:Bool}{vi vc:V}(cx:FQ lo cs bl c1 M1)(h:RS F lo cs Ms bl M1 c1 M2 c2 bad ts)(hc:c1<c2)(mp:M2.get c1=some (af 39 [.i .i64 j,.b nt,vi,.l0,.b false,vc]))(u:List (Option V))(Q:Ex→St→Prop)
 (hQ:∀(u:List (Option V)) M' c' vo,RS F lo cs Ms bl M1 c1 M' c' (bad||(ed ts).2.2.1) (ed ts).2.2.2→bD vo=true→Dp lo cs Ms vo (ed ts).2.1→M'.get c1=some (af 39 [.i .i64 j,.b nt,vi,vo,.b (ed ts).1,vc])→c2≤c'→(∀x,c1<x→x<c2→M'.get x=M2.get x)→Q .nrm (.mk ((gV u (sV s) (.p c 0) (.p bl 0) (.f 30 [] [.p bl 0]) (.p cs 0) (.p (cs+1) 0) (.f 32 [] [.p (cs+1) 0,.p cs 0]) (.p (cs+2) 0) (.i .i64 j) (.p c1 0))) [] M' c')):
 Wp ze (K Φ none 10 F) (.mk ((gV u (sV s) (.p c 0) (.p bl 0) (.f 30 [] [.p bl 0]) (.p cs 0) (.p (cs+1) 0) (.f 32 [] [.p (cs+1) 0,.p cs 0]) (.p (cs+2) 0) (.i .i64 j) (.p c1 0))) [] M2 c2) (pI zg (K Φ none 10 F) Q):=by
 have hx:=cx.h1;have hx2:=cx.h2;have hx3:=cx.h3
 have KW:V.s 1 62=sV [62]:=rfl
 have cgg:V.s 2 15934=sV [62,62]:=rfl
 simp only[WX,ll]
 rw[cgg]
 refine av ((QG Φ h30 h cx.h1 cx.h2 (by omega) [62,62]).mono ?_)
 rintro r M3 c3 ⟨rfl,hf,⟨rs,e1,rfl,hR⟩|⟨e1,rfl,hR⟩⟩
 ·have ho:ed ts=(true,redir rs):=by unfold ed;rw[e1]
  rw[ho]at hQ;have m3:=(hf c1 (by omega)).trans mp;have st:=aK m3 4 [V.b true] (by simp) rfl;have hov:over [.i .i64 j,.b nt,vi,.l0,.b false,vc] 4 [V.b true]=[.i .i64 j,.b nt,vi,.l0,.b true,vc]:=rfl;rw[hov]at st;have m4:=am M3 c1 (af 39 [.i .i64 j,.b nt,vi,.l0,.b true,vc]);have l4:load1 F (M3.set c1 (af 39 [.i .i64 j,.b nt,vi,.l0,.b true,vc])) c1 4=some (.b true):=aq m4 4;have hR4:=hR.put cx.h1 cx.h2 (by omega) (ah _) (z:=af 39 [.i .i64 j,.b nt,vi,.l0,.b true,vc]) hc m3;simp only[WX,Bg,Bh,st,l4];refine n24 Φ h31 h32 cx hR4 hc m4 (G1 (X1 (G1 (X1 (G8 (cF (cH (ce (X2 (X1 [])))))))))) _ ?_;intro u M5 c5 vo hR5 o1 o2 m5 hle hf5;exact hQ u M5 c5 vo hR5 o1 o2 m5 hle fun x a b=>(hf5 x a b).trans ((ag _ _ (by omega)).trans (hf x (by omega)))
 ·have m3:=(hf c1 (by omega)).trans mp;have st:=aK m3 4 [V.b false] (by simp) rfl;have hov:over [.i .i64 j,.b nt,vi,.l0,.b false,vc] 4 [V.b false]=[.i .i64 j,.b nt,vi,.l0,.b false,vc]:=rfl;rw[hov]at st;have m4:=am M3 c1 (af 39 [.i .i64 j,.b nt,vi,.l0,.b false,vc]);have l4:load1 F (M3.set c1 (af 39 [.i .i64 j,.b nt,vi,.l0,.b false,vc])) c1 4=some (.b false):=aq m4 4;have hR4:=hR.put cx.h1 cx.h2 (by omega) (ah _) (z:=af 39 [.i .i64 j,.b nt,vi,.l0,.b false,vc]) hc m3;simp only[WX,Bg,Bh,st,l4];rw[KW];refine av ((QG Φ h30 hR4 cx.h1 cx.h2 (by omega) [62]).mono ?_);rintro r M5 c5 ⟨rfl,hf5,⟨rs,e2,rfl,hR5⟩|⟨e2,rfl,hR5⟩⟩
  ·have ho:ed ts=(false,redir rs):=by unfold ed;rw[e1,e2]
   rw[ho]at hQ;simp only[WX];refine n24 Φ h31 h32 cx hR5 hc ((hf5 c1 (by omega)).trans m4) (G1 (X1 (G1 (X1 (G8 (cF (cH (ce (X2 (X1 [])))))))))) _ ?_;intro u M6 c6 vo hR6 o1 o2 m6 hle hf6;exact hQ u M6 c6 vo hR6 o1 o2 m6 hle fun x a b=>(hf6 x a b).trans ((hf5 x (by omega)).trans ((ag _ _ (by omega)).trans (hf x (by omega))))
  ·have ho:ed ts=(false,[],false,ts):=by unfold ed;rw[e1,e2]
   rw[ho,Bool.or_false]at hQ;simp only[WX];exact hQ (G1 (X1 (G1 (X1 (G8 (cF (cH (ce (X2 (X1 [])))))))))) _ _ .l0 hR5 rfl (RQ lo cs Ms) ((hf5 c1 (by omega)).trans m4) (ah _) fun x a b=>(hf5 x (by omega)).trans ((ag _ _ (by omega)).trans (hf x (by omega)))
def qk(F:RO)(lo cs:Nat)(Ms M:Mem)(a c:Nat)(vl:V)(dn:List fm):Prop:=∃b es,bm M a c b 39 6 vl es∧es.length=dn.length∧dn.length≤1000000∧ ∀i (h:i<es.length) (h':i<dn.length),∃l h2,a≤l∧l≤h2∧h2≤c∧(b<l∨h2≤b)∧ub lo cs Ms M l h2 fun M'=>Gk F l M' h2 es[i] dn[i]
theorem qk.keep{F:RO}{lo cs:Nat}{Ms M M2:Mem}{a c c2:Nat}{vl:V}{dn:List fm}(h:qk F lo cs Ms M a c vl dn)(hc:c≤c2)(hM:∀x,a≤x→x<c→M2.get x=M.get x):qk F lo cs Ms M2 a c2 vl dn:=by
 obtain⟨b,es,hA,h1,h2,h3⟩:=h
 refine⟨b,es,?_,h1,h2,fun i hi hi'=>?_⟩
 ·rcases hA with⟨a0,x|⟨a1,a2,a3,a4⟩⟩
  ·exact⟨a0,.inl x⟩
  ·exact⟨a0,.inr ⟨a1,by omega,a3,(hM b a1 a2).trans a4⟩⟩
 ·obtain⟨l,h2,e2,e3,e4,e5,e6⟩:=h3 i hi hi';exact⟨l,h2,e2,e3,by omega,e5,e6.up fun x a1 a2=>hM x (by omega) (by omega)⟩
theorem qk.own{F:RO}{lo cs:Nat}{Ms M:Mem}{a c:Nat}{vl:V}{dn:List fm}(h:qk F lo cs Ms M a c vl dn):ub lo cs Ms M a c fun M'=>Zr F a M' c vl dn:=by
 intro M' hB hM
 obtain⟨b,es,hA,h1,h2,h3⟩:=h
 have hA':bm M' a c b 39 6 vl es:=by
  rcases hA with⟨a0,x|⟨a1,a2,a3,a4⟩⟩
  ·exact⟨a0,.inl x⟩
  ·exact⟨a0,.inr ⟨a1,a2,a3,(hM b a1 a2).trans a4⟩⟩
 refine⟨⟨es,hA'.sl,h1,aY h2 (by decide),fun i hi hi'=>?_⟩,by rw[←h1];exact yY hA'⟩
 obtain⟨l,h2,e2,e3,e4,e5,e6⟩:=h3 i hi hi'
 exact Gk.up e2 e4 _ _ (e6 M' hB fun x a1 a2=>hM x (by omega) (by omega))
theorem n26(Φ:Nat→Option CF){F:RO}{lo cs bl c c1 c2:Nat}{Ms M1 M2:Mem}{bad:Bool}{ts:List T2}{s:List UInt8}{j:Int}{nt beh:Bool}{vi vo vc vl:V}{w1 w2:List Pc}{cl:List hU}{dn:List fm}(cx:FQ lo cs bl c1 M1)(h:RS F lo cs Ms bl M1 c1 M2 c2 bad ts)(hc:c1<c2)(h9:M1.get (cs+2)=some (af 25 [vl]))(hL:qk F lo cs Ms M1 (cs+3) c1 vl dn)(hdn:dn.length≤900000)
 (mp:M2.get c1=some (af 39 [.i .i64 j,.b nt,vi,vo,.b beh,vc])) (i1:bD vi=true) (o1:bD vo=true) (hvi:Dp lo cs Ms vi w1) (hvo:Dp lo cs Ms vo w2) (hca:yx F lo cs Ms M2 (c1+1) c2 vc cl) (u:List (Option V)) (Q:Ex→St→Prop)
 (hQ:∀(u:List (Option V)) M' c' vl',RS F lo cs Ms bl M' c' M' c' bad ts→FQ lo cs bl c' M'→M'.get (cs+2)=some (af 25 [vl'])→qk F lo cs Ms M' (cs+3) c' vl' (dn++[⟨j,nt,w1,w2,beh,cl⟩])→(∀x,x<cs+3→x≠bl→x≠cs→x≠cs+2→M'.get x=M1.get x)→c1≤c'→Q .nrm (.mk ((gV u (sV s) (.p c 0) (.p bl 0) (.f 30 [] [.p bl 0]) (.p cs 0) (.p (cs+1) 0) (.f 32 [] [.p (cs+1) 0,.p cs 0]) (.p (cs+2) 0) (.i .i64 j) (.p c1 0))) [] M' c')):
 Wp zh (K Φ none 10 F) (.mk ((gV u (sV s) (.p c 0) (.p bl 0) (.f 30 [] [.p bl 0]) (.p cs 0) (.p (cs+1) 0) (.f 32 [] [.p (cs+1) 0,.p cs 0]) (.p (cs+2) 0) (.i .i64 j) (.p c1 0))) [] M2 c2) Q:=by
 have hx:=cx.h1;have hx2:=cx.h2;have hx3:=cx.h3
 have m9:M2.get (cs+2)=some (af 25 [vl]):=(h.g.old _ (by omega) (by omega)).trans h9
 have l9:load1 F M2 (cs+2) 0=some vl:=aq m9 0
 have ln:loadN F M2 c1 0 6=some [.i .i64 j,.b nt,vi,vo,.b beh,vc]:=bj mp 6 rfl
 obtain⟨v1,v2,v3⟩:=hca.one
 have hG:flatten (V.g [.i .i64 j,.b nt,vi,vo,.b beh,vc])=[.i .i64 j,.b nt,vi,vo,.b beh,vc]:=rfl
 have hall:=xN (j:=j) (nt:=nt) (beh:=beh) i1 o1 v1
 have gZ:=(Gr.refl h.ok).set c2 (bK [.i .i64 0,.b false,.l0,.l0,.b false,.l0] 39 [.i .i64 j,.b nt,vi,vo,.b beh,vc]) (ah _) (aA _) (aG _)
 have okZ:=gZ.ok h.ok
 have hRZ:=h.grow cx.h1 cx.h2 (by omega) gZ
 have hys:cB F (M2.set c2 (bK [.i .i64 0,.b false,.l0,.l0,.b false,.l0] 39 [.i .i64 j,.b nt,vi,vo,.b beh,vc])) (c2+1) 6 (.l c2 0 1 1) [[.i .i64 j,.b nt,vi,vo,.b beh,vc]]:=Nl (d:=[.i .i64 0,.b false,.l0,.l0,.b false,.l0]) (ty:=39) (by rw[am];rfl) (aA _) (fun e he=>by rw[List.mem_singleton]at he;subst he;rfl) rfl
 have hPO:ub lo cs Ms M2 c1 c2 fun M'=>Gk F c1 M' c2 [.i .i64 j,.b nt,vi,vo,.b beh,vc] ⟨j,nt,w1,w2,beh,cl⟩:=by
  intro M' hB hM;refine⟨vi,vo,vc,rfl,(hvi F M' hB).upc (by omega),(hvo F M' hB).upc (by omega),?_⟩;exact(hca.own M' hB fun x a1 a2=>hM x (by omega) a2).up (by omega) (ah _)
 have hL2:qk F lo cs Ms M2 (cs+3) c1 vl dn:=hL.keep (ah _) fun x a1 a2=>h.g.old x a2 (by omega)
 obtain⟨b,es,hA,q1,q2,q3⟩:=hL2
 obtain⟨b1,hA1,hb1⟩:∃b1,bm (M2.set c2 (bK [.i .i64 0,.b false,.l0,.l0,.b false,.l0] 39 [.i .i64 j,.b nt,vi,vo,.b beh,vc])) (cs+3) (c2+1) b1 39 6 vl es∧((b1=b∧cs+3≤b∧b<c1∧M2.get b=some (pH 39 es.flatten))∨(es=[]∧c2+1≤b1)):=by
  rcases hA with⟨a0,⟨a1,a2⟩|⟨a1,a2,a3,a4⟩⟩
  ·exact⟨c2+1,⟨a0,.inl ⟨a1,a2⟩⟩,.inr ⟨a1,ah _⟩⟩
  ·exact⟨b,⟨a0,.inr ⟨a1,by omega,a3,by rw[ag _ _ (by omega)];exact a4⟩⟩,.inl ⟨rfl,a1,a2,a4⟩⟩
 have gA:Gr (cs+3) M2 (c2+1) (M2.set c2 (bK [.i .i64 0,.b false,.l0,.l0,.b false,.l0] 39 [.i .i64 j,.b nt,vi,vo,.b beh,vc])):=⟨by omega,fun x hx=>gZ.old x (by omega),gZ.new⟩
 simp only[WX,Nat.reduceAdd,ll,l9,ln,hG,i1,o1,v1,Bool.and_self,aW]
 refine av ((j5 (bytes:=96) hA1 gA (by decide) hys (by show aE [.i .i64 j,.b nt,vi,vo,.b beh,vc]=true;exact hall) (gk (by simp only[aw,aL];omega) (by simp only[aw,aL];omega))).mono ?_)
 rintro vl' M3 c3 ⟨b',hA3,g3,hle3,hfr,hb'⟩
 have w3:bD vl'=true∧flatten vl'=[vl']∧aE [vl']=true:=by
  rcases hA3 with⟨_,⟨_,rfl⟩|⟨_,_,rfl,_⟩⟩<;>exact⟨rfl,rfl,rfl⟩
 obtain⟨k1,k2,k3⟩:=w3
 have m93:M3.get (cs+2)=some (af 25 [vl]):=(g3.old _ (by omega)).trans m9
 have st:=aK m93 0 [vl'] (by simp) k3
 simp only[WX,k2,st]
 have OLD:∀x,x<c2→x≠cs+2→x≠b1→(M3.set (cs+2) (af 25 [vl'])).get x=M2.get x:=fun x a1 a2 a3=>by
  rw[ag _ _ a2,hfr x (by omega) a3];exact gZ.old x a1
 have gF:iF (fun x=>x=cs+2∨x=b1) c2 M2 c3 (M3.set (cs+2) (af 25 [vl'])):=⟨by omega,fun x a1 a2=>OLD x a1 (fun e=>a2 (.inl e)) (fun e=>a2 (.inr e)),fun x hx=>by rw[ag _ _ (by omega)];exact g3.new x hx⟩
 have hb1c:b1<c2→cs+3≤b1∧b1<c1:=by
  intro hlt;rcases hb1 with⟨rfl,a1,a2,_⟩|⟨_,a2⟩<;>omega
 have okF:cU F (M3.set (cs+2) (af 25 [vl'])) c3:=gF.ok h.ok fun x a e=>by
  rcases e with rfl|rfl
  ·exact⟨_,m9⟩
  ·rcases hb1 with⟨rfl,_,_,hm⟩|⟨_,a2⟩
   ·exact⟨_,hm⟩
   ·omega
 obtain⟨v,hv,ht⟩:=h.tk
 have hble:b1<c2∨c2≤b1:=by omega
 have NB:∀x,x<cs+3→x≠b1:=fun x a e=>by
  rcases hble with hb|hb
  ·have:=hb1c hb;omega
  ·omega
 refine hQ (G1 (X1 (G1 (X1 (G8 (cF (cH (ce (X2 (X1 [])))))))))) _ _ vl' ⟨iF.of (Gr.refl okF),okF,⟨v,(OLD bl (by omega) (by omega) (NB _ (by omega))).trans hv,ht⟩,(OLD cs (by omega) (by omega) (NB _ (by omega))).trans h.m6,fun x a1 a2=>(OLD x (by omega) (by omega) (NB _ (by omega))).trans (h.bk x a1 a2)⟩ ⟨cx.h1,cx.h2,by omega,(OLD _ (by omega) (by omega) (NB _ (by omega))).trans ((h.g.old _ (by omega) (by omega)).trans cx.m7)⟩ (am _ _ _) ?_ ?_ (by omega)
 ·refine⟨b',es++[[.i .i64 j,.b nt,vi,vo,.b beh,vc]],jQ hA3 (by omega),by rw[aO,aO,q1];rfl,by rw[aO,List.length_singleton];omega,fun i hi hi'=>?_⟩;by_cases hie:i<es.length
  ·obtain⟨l,h2,e2,e3,e4,e5,e6⟩:=q3 i hie (by omega);have hb1':b1<l∨h2≤b1:=by
    rcases hb1 with⟨rfl,_,_⟩|⟨_,a2⟩<;>omega
   refine⟨l,h2,e2,e3,by omega,by omega,?_⟩;have:=e6.up (M2:=M3.set (cs+2) (af 25 [vl'])) fun x a1 a2=>OLD x (by omega) (by omega) (by omega);rw[eT (by omega)];rw[eT (by omega)];exact this
  ·rw[aO]at hi;simp only[aw,aL]at hi;obtain rfl:i=es.length:=by omega
   have hb1':b1<c1∨c2≤b1:=by
    rcases hble with hb|hb
    ·have:=hb1c hb;omega
    ·omega
   refine⟨c1,c2,by omega,by omega,by omega,by omega,?_⟩;have:=hPO.up (M2:=M3.set (cs+2) (af 25 [vl'])) fun x a1 a2=>OLD x (by omega) (by omega) (by omega);rw[eS (ah _)];rw[eS (by omega)];simp only[q1,Nat.sub_self,List.getElem_cons_zero];exact this
 ·exact fun x a1 a2 a3 a4=>(OLD x (by omega) a4 (NB x a1)).trans (h.g.old x (by omega) (by omega))
abbrev D7(u:List (Option V))(x0 x2 x4 x5 x6 x7 x8 x9 x10:V):T:=(.n (.n (.n (.n (aJ u 63 31 95 15 79 47 111) (some x7) (aJ u 71 39 103 23 87 55 119)) (uO u 3) (.n (aJ u 67 35 99 19 83 51 115) (uO u 11) (aJ u 75 43 107 27 91 59 123))) (uO u 1) (.n (.n (aJ u 65 33 97 17 81 49 113) (some x9) (aJ u 73 41 105 25 89 57 121)) (some x5) (.n (aJ u 69 37 101 21 85 53 117) (uO u 13) (aJ u 77 45 109 29 93 61 125)))) (some x0) (.n (.n (.n (aJ u 64 32 96 16 80 48 112) (some x8) (aJ u 72 40 104 24 88 56 120)) (some x4) (.n (aJ u 68 36 100 20 84 52 116) (uO u 12) (aJ u 76 44 108 28 92 60 124))) (some x2) (.n (.n (aJ u 66 34 98 18 82 50 114) (some x10) (aJ u 74 42 106 26 90 58 122)) (some x6) (.n (aJ u 70 38 102 22 86 54 118) (uO u 14) (aJ u 78 46 110 30 94 62 126)))))
theorem QH(ts:List T2):isS [] ts=none:=by
 cases ts with
 |nil=>rfl
 |cons t r=>rw[gL,ab (fun h=>h.2 rfl)]
theorem n36(Φ:Nat→Option CF)(h30:Φ 30=some OU)(h33:Φ 33=some OV){F:RO}{lo cs bl c c1 c2:Nat}{Ms M1 M2:Mem}{bad:Bool}{ts:List T2}{s:List UInt8}{j:Int}(cx:FQ lo cs bl c2 M2)(h:RS F lo cs Ms bl M2 c2 M2 c2 bad ts)(u:List (Option V))(Q:Ex→St→Prop)
 (hQ0:fO ts=none→ ∀(u:List (Option V)) M' c',RS F lo cs Ms bl M2 c2 M' c' bad ts→Q (.ext 0) (.mk ((D7 u (sV s) (.p c 0) (.p bl 0) (.f 30 [] [.p bl 0]) (.p cs 0) (.p (cs+1) 0) (.f 32 [] [.p (cs+1) 0,.p cs 0]) (.p (cs+2) 0) (.i .i64 j))) [] M' c'))
 (hQ1:∀n rs,fO ts=some (n,rs)→ ∀(u:List (Option V)) M' c',RS F lo cs Ms bl M2 c2 M' c' bad rs→Q (.ext 1) (.mk ((D7 u (sV s) (.p c 0) (.p bl 0) (.f 30 [] [.p bl 0]) (.p cs 0) (.p (cs+1) 0) (.f 32 [] [.p (cs+1) 0,.p cs 0]) (.p (cs+2) 0) (.i .i64 n))) [] M' c')):
 Wp zi (K Φ none 10 F) (.mk ((gV u (sV s) (.p c 0) (.p bl 0) (.f 30 [] [.p bl 0]) (.p cs 0) (.p (cs+1) 0) (.f 32 [] [.p (cs+1) 0,.p cs 0]) (.p (cs+2) 0) (.i .i64 j) (.p c1 0))) [] M2 c2) Q:=by
 have hx:=cx.h1;have hx2:=cx.h2;have hx3:=cx.h3
 simp only[WX,ll]
 refine av ((w33 Φ h33 h.ok).mono ?_)
 rintro r M3 c3 ⟨rfl,g3⟩
 have hR:=h.grow hx hx2 (by omega) g3
 have i0:pa 4 1 LZ (.i .i64 0)=some (sV []):=by unfold LZ;rw[o5];rfl
 have i1:pa 4 1 LZ (.i .i64 1)=some (sV [59]):=by unfold LZ;rw[o5];rfl
 have i2:pa 4 1 LZ (.i .i64 2)=some (sV [38,38]):=by unfold LZ;rw[o5];rfl
 have i3:pa 4 1 LZ (.i .i64 3)=some (sV [124,124]):=by unfold LZ;rw[o5];rfl
 have q0:cZ .add (.i .i64 0) (.i .i64 1)=some (.i .i64 1):=by rw[bF _ _ (by decide) (by decide)];rfl
 have q1:cZ .add (.i .i64 1) (.i .i64 1)=some (.i .i64 2):=by rw[bF _ _ (by decide) (by decide)];rfl
 have q2:cZ .add (.i .i64 2) (.i .i64 1)=some (.i .i64 3):=by rw[bF _ _ (by decide) (by decide)];rfl
 have q3:cZ .add (.i .i64 3) (.i .i64 1)=some (.i .i64 4):=by rw[bF _ _ (by decide) (by decide)];rfl
 simp only[WX]
 rw[iv]
 simp only[WX,Int.reduceLT,ll,i0]
 refine av ((QG Φ h30 hR hx hx2 (by omega) []).mono ?_)
 rintro r M4 c4 ⟨rfl,_,⟨rs,e1,_⟩|⟨_,rfl,hR⟩⟩
 ·rw[QH]at e1;cases e1
 simp only[WX,ll,q0]
 rw[iv]
 simp only[WX,Int.reduceLT,ll,i1]
 refine av ((QG Φ h30 hR hx hx2 (by omega) [59]).mono ?_)
 rintro r M5 c5 ⟨rfl,_,⟨rs,e1,rfl,hR⟩|⟨e1,rfl,hR⟩⟩
 ·simp only[WX,Nat.reduceEqDiff,ll];exact hQ1 1 rs (by unfold fO;rw[e1]) (G1 (X1 (G1 (X1 (G4 (G2 (G1 (cF (cH (ce (X4 []))))))))))) _ _ hR
 simp only[WX,ll,q1]
 rw[iv]
 simp only[WX,Int.reduceLT,ll,i2]
 refine av ((QG Φ h30 hR hx hx2 (by omega) [38,38]).mono ?_)
 rintro r M6 c6 ⟨rfl,_,⟨rs,e2,rfl,hR⟩|⟨e2,rfl,hR⟩⟩
 ·simp only[WX,Nat.reduceEqDiff,ll];exact hQ1 2 rs (by unfold fO;rw[e1,e2]) (G1 (X1 (G1 (X1 (G4 (G2 (G1 (cF (cH (ce (X4 []))))))))))) _ _ hR
 simp only[WX,ll,q2]
 rw[iv]
 simp only[WX,Int.reduceLT,ll,i3]
 refine av ((QG Φ h30 hR hx hx2 (by omega) [124,124]).mono ?_)
 rintro r M7 c7 ⟨rfl,_,⟨rs,e3,rfl,hR⟩|⟨e3,rfl,hR⟩⟩
 ·simp only[WX,Nat.reduceEqDiff,ll];exact hQ1 3 rs (by unfold fO;rw[e1,e2,e3]) (G1 (X1 (G1 (X1 (G4 (G2 (G1 (cF (cH (ce (X4 []))))))))))) _ _ hR
 simp only[WX,ll,q3]
 rw[iv]
 simp only[WX,Int.reduceLT,ll]
 exact hQ0 (by unfold fO;rw[e1,e2,e3]) (G1 (X1 (G1 (X1 (G4 (G2 (G1 (cF (cH (ce (X4 []))))))))))) _ _ hR
def LnF(F:RO)(lo c:Nat)(M:Mem)(v:V)(l:List fm):Prop:=∀M':Mem,(∀x,lo≤x→x<c→M'.get x=M.get x)→Zr F lo M' c v l
theorem uY{F:RO}{lo c:Nat}{M:Mem}:LnF F lo c M .l0 []:=fun M' _=>⟨⟨[],⟨fun e he=>(by cases he),.inl ⟨rfl,.inl rfl⟩⟩,rfl,az _,fun i h=>(by cases h)⟩,.inl ⟨rfl,rfl⟩⟩
def scF(_ _:Nat)(_:St):Prop:=False
theorem Zr.up{F:RO}{lo lo':Nat}{M:Mem}{c c':Nat}{v:V}{l:List fm}(h:Zr F lo M c v l)(hl:lo'≤lo)(hc:c≤c'):Zr F lo' M c' v l:=⟨cA.imp h.1 hc (Gk.up hl hc),h.2.up hl hc⟩
def PsP(F:RO)(s:List UInt8)(M:Mem)(c:Nat)(r:V)(M':Mem)(c':Nat):Prop:=∃v,r= .t [.g [v],.i .i64 (kZ s).2]∧LnF F c c' M' v (kZ s).1∧Gr c M c' M'
theorem bi6(Φ:Nat→Option CF)(h17:Φ 17=some KV)(h40:Φ 40=some c40)(h63:Φ 63=some PU)(h62:Φ 62=some KW)(h80:Φ 80=some L0)(h81:Φ 81=some L4)(h82:Φ 82=some OY)(h90:Φ 90=some L5)(h83:Φ 83=some FX)(h61:Φ 61=some Ec)(h39:Φ 39=some c39)(h33:Φ 33=some OV)(h57:Φ 57=some wz)(h58:Φ 58=some PT)(h59:Φ 59=some C3)(h60:Φ 60=some OX)(h79:Φ 79=some PW)(h89:Φ 89=some OZ)(h77:Φ 77=some (.orc (bh h77)))(h52:Φ 52=some yB)(h54:Φ 54=some yC)(h71:Φ 71=some vW){F:RO}{cs c c1:Nat}{Ms M M1:Mem}{bad:Bool}{tr:List T2}{s:List UInt8}{j:Int}{vl:V}{dn:List fm}(h:RS F (c+2) cs Ms (c+1) M1 c1 M1 c1 bad tr)(h2:c+2≤cs)(h3:cs+3≤c1)(m9:M1.get (cs+2)=some (af 25 [vl]))(hL:qk F (c+2) cs Ms M1 (cs+3) c1 vl dn)(mc:M1.get c=some (af 25 [.l0]))(old:∀x,x<c→M1.get x=M.get x)
 (hlen:¬4096<s.length) (hto:rS s=true) (hLA:dA 0 (dh s)=(dn,bad,tr)) (hS:∀p∈dn,Gl p) (hz:dq (nJ dn)≤1000000) (u:List (Option V)):
 Wp uv (K Φ none 10 F) (.mk ((D7 u (sV s) (.p c 0) (.p (c+1) 0) (.f 30 [] [.p (c+1) 0]) (.p cs 0) (.p (cs+1) 0) (.f 32 [] [.p (cs+1) 0,.p cs 0]) (.p (cs+2) 0) (.i .i64 j))) [] M1 c1) (pI uw (K Φ none 10 F) (pI (.seq ux .ret) (K Φ none 10 F) (jo scF 0 (nW F [.cn (.r .h) 1,.t (.l (.l .h))] fun r M' c'=>PsP F s M c r M' c')))):=by
 have hprs:kZ s=if(bad||(decide (0<tr.length)|| !pN dn))=true then([],4)else(dn,0):=by
  unfold kZ;rw[ab hlen,ab (by rw[hto];simp),hLA]
 have l6:load1 F M1 cs 0=some (.b bad):=aq h.m6 0
 have stc:=aK mc 0 [V.l0] (by simp) rfl
 have hovc:over [V.l0] 0 [V.l0]=[V.l0]:=rfl
 rw[hovc,←cX mc]at stc
 have lc:loadN F M1 c 0 1=some [V.l0]:=bj mc 1 rfl
 have hG:∀v,flatten (V.g [v])=[v]:=fun _=>rfl
 have ERR:∀M' c',Gr c1 M1 c' M'→kZ s=([],4)→PsP F s M c (.t [.g [.l0],.i .i64 4]) M' c':=by
  intro M' c' g hp;have hle:=g.le;exact⟨.l0,by rw[hp],by rw[hp];exact uY,by omega,fun x hx=>(g.old x (by omega)).trans (old x hx),g.new⟩
 cases bad with
 |true=>
  simp only[WX,ll,dF,l6,hG,stc,lc];exact ERR _ _ (Gr.refl h.ok) (by rw[hprs];rfl)
 |false=>
  obtain⟨v,hv,ht⟩:=h.tk;have lv:load1 F M1 (c+1) 0=some v:=aq hv 0;have nt:=ht.len;cases hd:decide (0<tr.length)with
  |true=>
   have d0:decide ((0:Int)<(tr.length:Int))=true:=aj (by have:=bL hd;omega);simp only[WX,ll,dF,l6,lv,nt,d0,hG,stc,lc];exact ERR _ _ (Gr.refl h.ok) (by rw[hprs,hd];rfl)
  |false=>
   have d0:decide ((0:Int)<(tr.length:Int))=false:=ak (by have:=of_decide_eq_false hd;omega);have l9:loadN F M1 (cs+2) 0 1=some [vl]:=bj m9 1 rfl;have hLT:=hL.own M1 h.bk fun _ _ _=>rfl;simp only[WX,ll,l6,lv,nt,d0,l9];refine av ((w17 Φ h17 h40 h63 h62 h80 h81 h82 h90 h83 h61 h39 h33 h57 h58 h59 h60 h79 h89 h77 h52 h54 h71 h.ok hLT.ln hS hz).mono ?_);rintro r M2 c2 ⟨rfl,g2⟩;have hle2:=g2.le;have ok2:=g2.ok h.ok;cases hk:pN dn with
   |false=>
    have e2:Q5 false= .i .i64 2:=rfl;have d2:decide (¬((2:Int)=0))=true:=rfl;have mc2:M2.get c=some (af 25 [.l0]):=(g2.old c (by omega)).trans mc;have stc:=aK mc2 0 [V.l0] (by simp) rfl;rw[hovc,←cX mc2]at stc;have lc:loadN F M2 c 0 1=some [V.l0]:=bj mc2 1 rfl;simp only[WX,ll,dF,e2,d2,hG,stc,lc];exact ERR _ _ g2 (by rw[hprs,hd,hk];rfl)
   |true=>
    have e2:Q5 true= .i .i64 0:=rfl;have d2:decide (¬((0:Int)=0))=false:=rfl;have mc2:M2.get c=some (af 25 [.l0]):=(g2.old c (by omega)).trans mc;obtain⟨y1,y2,y3⟩:=hLT.ln.one;have stc:=aK mc2 0 [vl] (by simp) y3;have l92:loadN F M2 (cs+2) 0 1=some [vl]:=(g2.loadN (by omega) _ _).trans l9;have hov:over [V.l0] 0 [vl]=[vl]:=rfl;rw[hov]at stc;have lc:loadN F (M2.set c (af 25 [vl])) c 0 1=some [vl]:=bj (am _ _ _) 1 rfl;simp only[WX,ll,dF,e2,d2,hG,l92,stc,lc];have hp:kZ s=(dn,0):=by rw[hprs,hd,hk];rfl
    refine⟨vl,by rw[hp],?_,by omega,fun x hx=>by rw[ag _ _ (by omega)];exact(g2.old x (by omega)).trans (old x hx),fun x hx=>by rw[ag _ _ (by omega)];exact g2.new x hx⟩;rw[hp];intro M' hM';have hA:∀x,c<x→x<c1→M'.get x=M1.get x:=fun x a1 a2=>(hM' x (by omega) (by omega)).trans ((ag _ _ (by omega)).trans (g2.old x a2));exact(hL.own M' (fun x a1 a2=>(hA x (by omega) (by omega)).trans (h.bk x a1 a2)) fun x a1 a2=>hA x (by omega) a2).up (by omega) hle2
theorem FZ(Φ:Nat→Option CF)(h:Φ 10=some d7)(h28:Φ 28=some c28)(h56:Φ 56=some c56)(h55:Φ 55=some (.orc (bh h55)))(h73:Φ 73=some (.orc (bh h73)))(h75:Φ 75=some (.orc (bh h75)))(h76:Φ 76=some (.orc (bh h88)))(h74:Φ 74=some PV)(h29:Φ 29=some c29)(h30:Φ 30=some OU)(h31:Φ 31=some Eb)(h32:Φ 32=some PR)(h17:Φ 17=some KV)(h40:Φ 40=some c40)(h63:Φ 63=some PU)(h62:Φ 62=some KW)(h80:Φ 80=some L0)(h81:Φ 81=some L4)(h82:Φ 82=some OY)(h90:Φ 90=some L5)(h83:Φ 83=some FX)(h61:Φ 61=some Ec)(h39:Φ 39=some c39)(h33:Φ 33=some OV)(h57:Φ 57=some wz)(h58:Φ 58=some PT)(h59:Φ 59=some C3)(h60:Φ 60=some OX)(h79:Φ 79=some PW)(h89:Φ 89=some OZ)(h77:Φ 77=some (.orc (bh h77)))(h52:Φ 52=some yB)(h54:Φ 54=some yC)(h71:Φ 71=some vW){F:RO}{M:Mem}{c:Nat}(ok:cU F M c)(s:List UInt8)
 (hPB:s.length≤4096→(∀p∈(dA 0 (dh s)).1,Gl p)∧dq (nJ (dA 0 (dh s)).1)≤1000000):
 Calls Φ F 10 [sV s] M c fun r M' c'=>PsP F s M c r M' c':=by
 refine aM h ?_
 have hG:∀v,flatten (V.g [v])=[v]:=fun _=>rfl
 have g1:=(Gr.refl ok).set c (af 25 [.l0]) (ah _) (aA _) (aG _)
 simp only[WX,ll]
 refine u9 scF (fun n l s h=>h.elim) 0 _ _ ?_
 by_cases hlen:4096<s.length
 ·have d1:decide ((4096:Int)<(s.length:Int))=true:=aj (by omega);have mc:=am M c (af 25 [.l0]);have stc:=aK mc 0 [V.l0] (by simp) rfl;have hovc:over [V.l0] 0 [V.l0]=[V.l0]:=rfl;rw[hovc,←cX mc]at stc;have lc:loadN F (M.set c (af 25 [.l0])) c 0 1=some [V.l0]:=bj mc 1 rfl;simp only[WX,ll,dF,d1,hG,stc,lc];have hp:kZ s=([],3):=by unfold kZ;rw[ac hlen]
  exact⟨.l0,by rw[hp],by rw[hp];exact uY,g1⟩
 obtain⟨hPS,hPZ⟩:=hPB (by omega)
 have d1:decide ((4096:Int)<(s.length:Int))=false:=ak (by omega)
 have g2:Gr c M (c+2) ((M.set c (af 25 [.l0])).set (c+1) (af 71 [.l0])):=g1.set (c+1) _ (by omega) (by omega) (by omega)
 have mc2:((M.set c (af 25 [.l0])).set (c+1) (af 71 [.l0])).get c=some (af 25 [.l0]):=(ag _ _ (by omega)).trans (am _ _ _)
 have mb2:((M.set c (af 25 [.l0])).set (c+1) (af 71 [.l0])).get (c+1)=some (af 71 [.l0]):=am _ _ _
 simp only[WX,Nat.reduceAdd,ll,d1]
 generalize(M.set c (af 25 [.l0])).set (c+1) (af 71 [.l0])=X at g2 mc2 mb2⊢
 have okX:=g2.ok ok
 have hTl:(dh s).length=(tk s 0).length:=List.length_map ..
 have htl:=aj6 s 0
 refine av ((bp3 Φ h28 h56 h55 h73 h75 h76 h77 h74 (s:=s) (by omega) (I:=Do F (dh s) (c+2) X (c+1)) (J:=fun _ _=>False) (Do.start okX mb2) (fun k N1 n1 hI=>⟨hI.1,hI.2.1.le⟩) (fun k N1 n1 N2 n2 hI g=>Do.grow (by omega) hI g) ?_).mono ?_)
 ·intro k N1 n1 pv b hk hI hp hA;have hk':k<(dh s).length:=by omega
  have e:(dh s)[k]=(tk s 0)[k].2:=by simp[dh]
  have hpl:(dh s)[k].2.length≤Ml:=by
   rw[e];have:=vA (s.length+1) s 0 (tk s 0)[k] (List.getElem_mem _);show _≤9223372036854775807;omega
  have hh:=w29 Φ h29 (F:=F) (tl:=dh s) (at_:=(tk s 0)[k].1) (show c+1<c+2 by omega) hI hk' (by omega) hp hpl (by rw[e];exact hA);rw[e]at hh;exact hh.mono fun r M' c' hr=> .inl hr
 ·intro r M2 cs hor;obtain⟨rfl,hI⟩:=hor.resolve_right fun h=>h.2;rw[←hTl]at hI;have hOk2:=hI.1;have hgx:=hI.2.1;have hle:=hgx.le;have mc3:M2.get c=some (af 25 [.l0]):=(hgx.old c (by omega) (by omega)).trans mc2;have old3:∀x,x<c→M2.get x=M.get x:=fun x hx=>(hgx.old x (by omega) (by omega)).trans (g2.old x hx);have new3:=hgx.new;cases hto:rS s with
  |false=>
   have stc:=aK mc3 0 [V.l0] (by simp) rfl;have hovc:over [V.l0] 0 [V.l0]=[V.l0]:=rfl;rw[hovc,←cX mc3]at stc;have lc:loadN F M2 c 0 1=some [V.l0]:=bj mc3 1 rfl;simp only[WX,ll,dF,hG,stc,lc];have hp:kZ s=([],4):=by unfold kZ;rw[ab hlen,ac hto]
   exact⟨.l0,by rw[hp],by rw[hp];exact uY,by omega,old3,new3⟩
  |true=>
   obtain⟨v,hv,ht⟩:=Do.done (by omega) hI (by omega);have s6:bN (M2.set cs (af 4 [.b false])) cs 0 [.b false]=some (M2.set cs (af 4 [.b false])):=fh rfl rfl;have s7:bN ((M2.set cs (af 4 [.b false])).set (cs+1) (af 74 [.f0])) (cs+1) 0 [.f 31 [] [.p (c+1) 0]]=some ((M2.set cs (af 4 [.b false])).set (cs+1) (af 74 [.f 31 [] [.p (c+1) 0]])):=fh rfl rfl;have hfn:∀a b c,flatten (V.f a b c)=[V.f a b c]:=fun _ _ _=>rfl;simp only[WX,Nat.reduceAdd,ll,s6,s7,hfn];have gY:Gr cs M2 (cs+3) (((M2.set cs (af 4 [.b false])).set (cs+1) (af 74 [.f 31 [] [.p (c+1) 0]])).set (cs+2) (af 25 [.l0])):=(((Gr.refl hOk2).set cs _ (ah _) (aA _) (aG _)).set (cs+1) _ (by omega) (show cs+1<cs+2 by omega) (by omega)).set (cs+2) _ (by omega) (by omega) (by omega);have y6:(((M2.set cs (af 4 [.b false])).set (cs+1) (af 74 [.f 31 [] [.p (c+1) 0]])).set (cs+2) (af 25 [.l0])).get cs=some (af 4 [.b false]):=(ag _ _ (by omega)).trans ((ag _ _ (by omega)).trans (am _ _ _));have y7:(((M2.set cs (af 4 [.b false])).set (cs+1) (af 74 [.f 31 [] [.p (c+1) 0]])).set (cs+2) (af 25 [.l0])).get (cs+1)=some (af 74 [.f 31 [] [.p (c+1) 0]]):=(ag _ _ (by omega)).trans (am _ _ _);have y9:(((M2.set cs (af 4 [.b false])).set (cs+1) (af 74 [.f 31 [] [.p (c+1) 0]])).set (cs+2) (af 25 [.l0])).get (cs+2)=some (af 25 [.l0]):=am _ _ _;generalize((M2.set cs (af 4 [.b false])).set (cs+1) (af 74 [.f 31 [] [.p (c+1) 0]])).set (cs+2) (af 25 [.l0])=Y at gY y6 y7 y9⊢;have okY:=gY.ok hOk2;have hRY:RS F (c+2) cs M2 (c+1) Y (cs+3) Y (cs+3) false (dh s):=⟨iF.of (Gr.refl okY),okY,⟨v,(gY.old _ (by omega)).trans hv,ht⟩,y6,fun x a b=>gY.old x b⟩
   have mcY:=(gY.old c (by omega)).trans mc3;have oldY:∀x,x<c→Y.get x=M.get x:=fun x hx=>(gY.old x (by omega)).trans (old3 x hx);obtain⟨I,hI⟩:∃I:Nat→St→Prop,∀n s',I n s'↔(∃(c1:Nat) (M1:Mem) (tr:List T2) (j:Int) (bad:Bool) (dn:List fm) (vl:V) (u:List (Option V)),n=tr.length∧s'= .mk ((D7 u (sV s) (.p c 0) (.p (c+1) 0) (.f 30 [] [.p (c+1) 0]) (.p cs 0) (.p (cs+1) 0) (.f 32 [] [.p (cs+1) 0,.p cs 0]) (.p (cs+2) 0) (.i .i64 j))) [] M1 c1∧RS F (c+2) cs M2 (c+1) M1 c1 M1 c1 bad tr∧FQ (c+2) cs (c+1) c1 M1∧M1.get (cs+2)=some (af 25 [vl])∧qk F (c+2) cs M2 M1 (cs+3) c1 vl dn∧dn.length+tr.length≤500000∧tr.length≤s.length∧M1.get c=some (af 25 [.l0])∧(∀x,x<c→M1.get x=M.get x)∧dA 0 (dh s)=(dn++(dA j tr).1,bad||(dA j tr).2.1,(dA j tr).2.2)):=⟨fun n s'=>_,fun _ _=>Iff.rfl⟩
   refine bS I ?_ (dh s).length _ ((hI _ _).2 ⟨_,_,_,0,false,[],.l0,(G1 (X1 (G1 (X1 (G4 (G2 (G1 (cF (cH (ce (X4 []))))))))))),rfl,rfl,hRY,⟨by omega,by omega,ah _,y7⟩,y9,⟨0,[],bm.nil,rfl,az _,fun i h=>(by cases h)⟩,by simp only[aL];omega,by omega,mcY,oldY,by simp⟩);intro n s' hIs;obtain⟨c1,M1,tr,j,bad,dn,vl,u,rfl,rfl,hR,cx,m9,hL,hdl,htl2,mc1,old1,hLA⟩:=(hI _ _).1 hIs;clear hIs;have hx:=cx.h1;have hx2:=cx.h2;have hx3:=cx.h3;have c33':V.s 1 33=sV [33]:=rfl;simp only[WX,ll];rw[c33'];refine av ((QG Φ h30 hR hx hx2 (by omega) [33]).mono ?_)
   have STEP:∀(nt:Bool) (ts1:List T2) (M3:Mem) (u:List (Option V)),jD tr=(nt,ts1)→RS F (c+2) cs M2 (c+1) M1 c1 M3 (c1+1) bad ts1→M3.get c1=some (af 39 [.i .i64 j,.b nt,.l0,.l0,.b false,.l0])→ts1.length≤tr.length→
    Wp ut (K Φ none 10 F) (.mk ((gV u (sV s) (.p c 0) (.p (c+1) 0) (.f 30 [] [.p (c+1) 0]) (.p cs 0) (.p (cs+1) 0) (.f 32 [] [.p (cs+1) 0,.p cs 0]) (.p (cs+2) 0) (.i .i64 j) (.p c1 0))) [] M3 (c1+1)) (pI (uu.seq zj) (K Φ none 10 F) (lR 1 (rD I tr.length (lR 0 (pI ((uv.seq uw).seq (ux.seq .ret)) (K Φ none 10 F) (jo scF 0 (nW F [.cn (.r .h) 1,.t (.l (.l .h))] fun r M' c'=>PsP F s M c r M' c'))))))):=by
    intro nt ts1 M3 u hnt hR3 mp3 hl1;have hp:cT j tr=(⟨j,nt,(cY (cm ts1).2).1,(ed (cW (cY (cm ts1).2).2.2).2).2.1,(ed (cW (cY (cm ts1).2).2.2).2).1,(cm ts1).1::(cW (cY (cm ts1).2).2.2).1⟩,(cY (cm ts1).2).2.1||(ed (cW (cY (cm ts1).2).2.2).2).2.2.1,(ed (cW (cY (cm ts1).2).2.2).2).2.2.2):=by unfold cT;rw[hnt]
    have hl2:=iZ ts1;have hl3:=wS (cm ts1).2;have hl4:=oe j tr;refine n15 Φ h31 cx hR3 (aA _) (by omega) (by omega) mp3 u _ ?_;intro u M4 c4 vc hR4 hca4 mp4 hle4;simp only[WX];refine n18 Φ h30 h31 h32 cx hR4 (by omega) mp4 (G1 (X1 (G1 (X1 (G8 (cF (cH (ce (X2 (X1 [])))))))))) _ ?_;intro u M5 c5 vi hR5 i1 hvi mp5 hle5 hf5;simp only[WX,NP];refine n21 Φ h30 h31 cx hR5 (by omega) (by omega) (by omega) i1 mp5 (hca4.keep hle5 fun x a b=>hf5 x (by omega) b) (by simp only[aw,aL];omega) (G1 (X1 (G1 (X1 (G8 (cF (cH (ce (X2 (X1 [])))))))))) _ ?_;intro u M6 c6 vc6 hR6 hca6 mp6 hle6;simp only[WX,Nat.reduceEqDiff,reduceCtorEq,NQ,mg];refine n22 Φ h30 h31 h32 cx hR6 (by omega) mp6 (G1 (X1 (G1 (X1 (G8 (cF (cH (ce (X2 (X1 [])))))))))) _ ?_;intro u M7 c7 vo hR7 o1 hvo mp7 hle7 hf7;simp only[WX];refine n26 Φ cx hR7 (by omega) m9 hL (by omega) mp7 i1 o1 hvi hvo (hca6.keep hle7 fun x a b=>hf7 x (by omega) b) (G1 (X1 (G1 (X1 (G8 (cF (cH (ce (X2 (X1 [])))))))))) _ ?_;intro u M8 c8 vl8 hR8 cx8 m98 hL8 hold8 hle8;have mc8:M8.get c=some (af 25 [.l0]):=(hold8 c (by omega) (by omega) (by omega) (by omega)).trans mc1;have old8:∀x,x<c→M8.get x=M.get x:=fun x hx=>(hold8 x (by omega) (by omega) (by omega) (by omega)).trans (old1 x hx);simp only[WX];have K9:∀(M9:Mem) (c9:Nat) (b9:Bool) (t9:List T2),RS F (c+2) cs M2 (c+1) M8 c8 M9 c9 b9 t9→RS F (c+2) cs M2 (c+1) M9 c9 M9 c9 b9 t9∧FQ (c+2) cs (c+1) c9 M9∧M9.get (cs+2)=some (af 25 [vl8])∧qk F (c+2) cs M2 M9 (cs+3) c9 vl8 (dn++[(cT j tr).1])∧M9.get c=some (af 25 [.l0])∧(∀x,x<c→M9.get x=M.get x):=by
     intro M9 c9 b9 t9 hR9;have hle9:=hR9.g.le;refine⟨⟨iF.of (Gr.refl hR9.ok),hR9.ok,hR9.tk,hR9.m6,hR9.bk⟩,⟨by omega,by omega,by omega,(hR9.g.old _ (by omega) (by omega)).trans cx8.m7⟩,(hR9.g.old _ (by omega) (by omega)).trans m98,?_,(hR9.g.old _ (by omega) (by omega)).trans mc8,fun x hx=>(hR9.g.old _ (by omega) (by omega)).trans (old8 x hx)⟩;rw[hp];exact hL8.keep hle9 fun x a b=>hR9.g.old x b (by omega)
    refine n36 Φ h30 h33 (M1:=M8) cx8 hR8 (G1 (X1 (G1 (X1 (G8 (cF (cH (ce (X2 (X1 [])))))))))) _ ?_ ?_
    ·intro hj u M9 c9 hR9;obtain⟨k1,k2,k3,k4,k5,k6⟩:=K9 _ _ _ _ hR9;have hj2:fO (cT j tr).2.2=none:=by rw[hp];exact hj
     have hLA':dA 0 (dh s)=(dn++[(cT j tr).1],(bad||(cY (cm ts1).2).2.1)||(ed (cW (cY (cm ts1).2).2.2).2).2.2.1,(ed (cW (cY (cm ts1).2).2.2).2).2.2.2):=by
      rw[hLA,Ak hj2,hp,Bool.or_assoc]
     rw[hLA']at hPS hPZ;simp only[WX,reduceCtorEq,mg];exact bi6 Φ h17 h40 h63 h62 h80 h81 h82 h90 h83 h61 h39 h33 h57 h58 h59 h60 h79 h89 h77 h52 h54 h71 k1 (by omega) k2.h3 k3 k4 k5 k6 hlen hto hLA' hPS hPZ (G1 (X1 (G1 (X1 (G4 (G2 (G1 (cF (cH (ce (X4 [])))))))))))
    ·intro n rs hj u M9 c9 hR9;obtain⟨k1,k2,k3,k4,k5,k6⟩:=K9 _ _ _ _ hR9;have hj2:fO (cT j tr).2.2=some (n,rs):=by rw[hp];exact hj
     have hjl:=o6 hj2;simp only[WX,reduceCtorEq,ll,mg];exact⟨rs.length,by omega,(hI _ _).2 ⟨c9,M9,rs,n,_,dn++[(cT j tr).1],vl8,(G1 (X1 (G1 (X1 (G4 (G2 (G1 (cF (cH (ce (X4 []))))))))))),rfl,rfl,k1,k2,k3,k4,by rw[aO,List.length_singleton];omega,by omega,k5,k6,by rw[hLA,Al hj2,hp];simp only[bM,List.singleton_append,Bool.or_assoc]⟩⟩
   have hG6:∀b:Bool,flatten (V.g [.i .i64 j,.b b,.l0,.l0,.b false,.l0])=[.i .i64 j,.b b,.l0,.l0,.b false,.l0]:=fun _=>rfl;have ALL:∀(b:Bool) (M3:Mem) (ts1:List T2),RS F (c+2) cs M2 (c+1) M1 c1 M3 c1 bad ts1→bN (M3.set c1 (af 39 [.i .i64 0,.b false,.l0,.l0,.b false,.l0])) c1 0 [.i .i64 j,.b b,.l0,.l0,.b false,.l0]=some (M3.set c1 (af 39 [.i .i64 j,.b b,.l0,.l0,.b false,.l0]))∧RS F (c+2) cs M2 (c+1) M1 c1 (M3.set c1 (af 39 [.i .i64 j,.b b,.l0,.l0,.b false,.l0])) (c1+1) bad ts1:=fun b M3 ts1 hR3=>⟨fh rfl rfl,hR3.grow hx hx2 (by omega) ((Gr.refl hR3.ok).set c1 _ (ah _) (aA _) (aG _))⟩;rintro r M3 c3 ⟨rfl,hf,⟨rs,e1,rfl,hR3⟩|⟨e1,rfl,hR3⟩⟩
   ·obtain⟨sn,hR4⟩:=ALL true M3 rs hR3;have hl:=eE e1;simp only[WX,Nat.reduceAdd,Nat.reduceLeDiff,hG6,sn];exact STEP true rs _ (G1 (X1 (G1 (X1 (G8 (cF (cH (ce (X2 (X1 [])))))))))) (by unfold jD;rw[e1]) hR4 (am _ _ _) (by omega)
   ·obtain⟨sn,hR4⟩:=ALL false M3 tr hR3;simp only[WX,Nat.reduceAdd,Nat.reduceLeDiff,hG6,sn];exact STEP false tr _ (G1 (X1 (G1 (X1 (G8 (cF (cH (ce (X2 (X1 [])))))))))) (by unfold jD;rw[e1]) hR4 (am _ _ _) (ah _)
def oF:List Pc→Nat
 |[]=>0
 |p::r=>p.1.length+2+oF r
theorem pY(a b:List Pc):oF (a++b)=oF a+oF b:=by
 induction a with
 |nil=>simp[oF]
 |cons p r ih=>show p.1.length+2+oF (r++b)=_;rw[ih];simp only[oF];omega
theorem RI(w:List Pc):w.length≤oF w:=by
 induction w with
 |nil=>exact ah _
 |cons p r ih=>simp only[oF,aw];omega
theorem RJ{w:List Pc}{q:Pc}(h:q∈w):q.1.length≤oF w:=by
 induction w with
 |nil=>cases h
 |cons p r ih=>
  rcases be.1 h with rfl|h
  ·simp only[oF];omega
  ·have:=ih h;simp only[oF];omega
theorem ah1(p:Pc):(xr p).length≤p.1.length+2:=by
 unfold xr
 split
 ·simp
 ·split
  ·omega
  ·simp
theorem On(w:List Pc):(dm w).length≤oF w:=by
 induction w with
 |nil=>exact ah _
 |cons p r ih=>have:=ah1 p;simp only[dm,oF,aO];omega
theorem aj3{r bs:List UInt8}{k:Nat}{b:Bool}(h:iW r=some (some (k,bs,b))):bs.length≤k+1:=by
 cases r with
 |nil=>cases h
 |cons c t=>
  rw[iW]at h;split at h
  ·cases h
  ·split at h
   ·split at h
    ·injection h with h;injection h with h;injection h with h1 h2;injection h2 with h2 h3
     subst h1 h2;rw[List.length_take];omega
    ·cases h
   ·split at h
    ·split at h
     ·injection h with h;injection h with h;injection h with h1 h2;injection h2 with h2 h3
      subst h1 h2;simp
     ·cases h
    ·split at h
     ·injection h with h;injection h with h;injection h with h1 h2;injection h2 with h2 h3
      subst h1 h2;simp
     ·cases h
theorem Yl{r bs:List UInt8}{k:Nat}{b:Bool}(h:iW r=some (some (k,bs,b))):k+1≤r.length:=by
 cases r with
 |nil=>cases h
 |cons c t=>
  rw[iW]at h;split at h
  ·cases h
  ·split at h
   ·split at h
    ·rename_i hq;injection h with h;injection h with h;injection h with h1 h2
     subst h1;rw[aw];have:qn t<t.length:=by
      apply Classical.byContradiction;intro hn;rw[List.drop_eq_nil_of_le (by omega)]at hq;cases hq
     omega
    ·cases h
   ·split at h
    ·split at h
     ·rename_i hq;injection h with h;injection h with h;injection h with h1 h2
      subst h1;rw[aw];cases t with
      |nil=>cases hq
      |cons a t=>rw[aw];omega
     ·cases h
    ·split at h
     ·injection h with h;injection h with h;injection h with h1 h2
      subst h1;rw[aw];omega
     ·cases h
theorem AH:∀(f:Nat) (r:List UInt8) (w:List Pc) (text:List UInt8) (sm:Bool) (n:Nat) (ps:List Pc) (m:Nat),yF f r w text sm n=some (ps,m)→m≤n+r.length
 |0,_,_,_,_,_,_,_,h=>by cases h
 |f+1,r,w,text,sm,n,ps,m,h=>by
  rw[yF]at h;split at h
  ·injection h with h;injection h with h1 h2;omega
  ·cases h
  ·rename_i k bs hs;have:=AH f _ _ _ _ _ _ _ h;have:=Yl hs;rw[bu]at *;omega
  ·rename_i k bs hs;have:=AH f _ _ _ _ _ _ _ h;have:=Yl hs;rw[bu]at *;omega
theorem AJ:∀(f:Nat) (r:List UInt8) (w:List Pc) (text:List UInt8) (sm:Bool) (n:Nat) (ps:List Pc) (m:Nat),yF f r w text sm n=some (ps,m)→oF ps+4*n≤oF w+text.length+2+4*m
 |0,_,_,_,_,_,_,_,h=>by cases h
 |f+1,r,w,text,sm,n,ps,m,h=>by
  rw[yF]at h;split at h
  ·injection h with h;injection h with h1 h2
   subst h1 h2;unfold nn;split
   ·rw[pY];simp only[oF];omega
   ·omega
  ·cases h
  ·have:=AJ f _ _ _ _ _ _ _ h;have e:oF (ko w text)≤oF w+text.length+4:=by
    unfold ko;split
    ·rw[pY,pY];simp only[oF,aL];omega
    ·rw[pY];simp only[oF,aL];omega
   simp only[aL]at this;omega
  ·rename_i k bs hs;have:=AJ f _ _ _ _ _ _ _ h;have hb:=aj3 hs;rw[aO]at this;omega
def hJ:List T2→Nat
 |[]=>0
 |t::r=>oF t.2+10+hJ r
theorem vC:∀(f:Nat) (r:List UInt8) (i:Nat),hJ ((yf f r i).map (·.2))≤16*r.length
 |0,_,_=>az _
 |_+1,[],_=>ah _
 |f+1,x::t,i=>by
  unfold yf;split
  ·have:=vC f t (i+1);rw[aw];omega
  ·split
   ·rename_i hs;have h1:=ip hs;have h2:=vC f ((x::t).drop (cP (x::t)).length) (i+(cP (x::t)).length);have h3:=rI (x::t);rw[bu]at h2;rw[List.map_cons,hJ];simp only[oF];omega
   ·split
    ·exact az _
    ·split
     ·exact az _
     ·rename_i ps n h hn;have h1:=vC f ((x::t).drop n) (i+n);have h2:=AJ _ _ _ _ _ _ _ _ h;rw[bu]at h1;rw[List.map_cons,hJ];simp only[oF,aL]at h2⊢;have h3:=AH _ _ _ _ _ _ _ _ h;omega
theorem il{s:List UInt8}{ts r:List T2}(h:isS s ts=some r):hJ r+10≤hJ ts:=by
 cases ts with
 |nil=>cases h
 |cons t q=>
  rw[gL]at h;split at h
  ·injection h with h;subst h;simp only[hJ];omega
  ·cases h
theorem rX:∀(m:Nat) (ts:List T2),dq ((ei m ts).1.map dm)+hJ (ei m ts).2≤hJ ts∧ ∀k,(Br k (ei m ts).1).length+hJ (ei m ts).2≤hJ ts
 |0,ts=>⟨by simp[ei,dq],fun k=>by simp[ei,Br]⟩
 |_+1,[]=>⟨ah _,fun k=>ah _⟩
 |m+1,t::r=>by
  rw[ei];split
  ·obtain⟨h1,h2⟩:=rX m r;have hw:=On t.2;refine⟨by simp only[List.map_cons,dq,hJ];omega,fun k=>?_⟩;have:=h2 (k+1);simp only[Br,hJ,aO];split<;>simp<;>omega
  ·exact⟨by simp[dq],fun k=>by simp[Br]⟩
def psz:List hU→Nat
 |[]=>0
 |c::r=>2+dq (c.map dm)+psz r
def Ay:List hU→Nat
 |[]=>0
 |c::r=>3+(Br 0 c).length+Ay r
theorem C5(inp:List Pc):∀(k:Nat) (cl:List hU),0<k→dq (jK inp k cl)=psz cl∧(Ef inp k cl).length=Ay cl
 |_,[],_=>⟨rfl,rfl⟩
 |k,c::r,h=>by
  obtain⟨h1,h2⟩:=C5 inp (k+1) r (by omega);have hk:decide (k=0)=false:=ak (by omega);constructor
  ·rw[jK,bO,bO,bO,h1,ac h,hk,Bool.false_and,ab (by simp)];simp only[dq,psz,aw,aL];omega
  ·rw[Ef,aO,aO,aO,h2,ac h];unfold inR;rw[hk,Bool.false_and,ab (by simp)];simp only[Ay,aw,aL];omega
theorem tK:∀(f:Nat) (ts:List T2),psz (eK f ts).1+hJ (eK f ts).2≤hJ ts∧Ay (eK f ts).1+hJ (eK f ts).2≤hJ ts
 |0,_=>⟨by simp[eK,psz],by simp[eK,Ay]⟩
 |f+1,ts=>by
  rw[eK];split
  ·rename_i r h;have h1:=il h;obtain⟨h2,h3⟩:=rX r.length r;have h3:=h3 0;obtain⟨h4,h5⟩:=tK f (cm r).2;unfold cm at *;simp only[psz,Ay];omega
  ·simp[psz,Ay]
theorem Mu{ts r:List T2}{w:List Pc}(h:As ts=some (w,r)):hJ ts=oF w+10+hJ r:=by
 cases ts with
 |nil=>cases h
 |cons t q=>
  rw[kV]at h;split at h
  ·injection h with h;injection h with h1 h2;subst h1 h2;rfl
  ·cases h
theorem ow(ts:List T2):(dm (redir ts).1).length+hJ (redir ts).2.2≤hJ ts:=by
 unfold redir
 split
 ·rename_i w r h;have:=Mu h;have:=On w;dsimp only;omega
 ·simp[dm]
theorem LT(ts:List T2):dq (if hasW (cY ts).1=true then[[60],dm (cY ts).1]else[])+hJ (cY ts).2.2≤hJ ts∧(if hasW (cY ts).1=true then[32,60,32]++dm (cY ts).1 else[]).length+hJ (cY ts).2.2≤hJ ts:=by
 unfold cY
 split
 ·rename_i r h;have:=il h;have:=ow r;split
  ·simp only[dq,aO,aw,aL];omega
  ·simp only[dq,aL];omega
 ·rw[ab (by simp[hasW])];rw[ab (by simp[hasW])];simp[dq]
theorem My(ts:List T2):dq (n7 (ed ts).1 (ed ts).2.1)+hJ (ed ts).2.2.2≤hJ ts∧(EW (ed ts).1 (ed ts).2.1).length+hJ (ed ts).2.2.2≤hJ ts:=by
 unfold ed
 split
 ·rename_i r h;have:=il h;have:=ow r;unfold n7 EW;dsimp only;rw[ac rfl];split<;>simp only[dq,aO,aw,aL,ac]<;>omega
 ·split
  ·rename_i r h;have:=il h;have:=ow r;unfold n7 EW;dsimp only;rw[ab (by simp)];split
   ·rw[ab (by simp)];simp only[dq,aO,aw,aL];omega
   ·simp only[dq,aL];omega
  ·unfold n7 EW;simp[dq,hasW]
theorem QT(ts:List T2):dq (if(jD ts).1=true then[[33]]else[])+hJ (jD ts).2≤hJ ts∧(if(jD ts).1=true then([33,32]:List UInt8)else[]).length+hJ (jD ts).2≤hJ ts:=by
 unfold jD
 split
 ·rename_i r h;have:=il h;rw[ac rfl,ac rfl];simp only[dq,aw,aL];omega
 ·rw[ab (by simp),ab (by simp)];simp[dq]
def Cv(p:fm):List (List UInt8):=(if p.nt=true then[[33]]else[])++(jK p.inp 0 p.cmds++n7 p.beh p.out)
def Cu(p:fm):List UInt8:=(if p.nt=true then[33,32]else[])++(Ef p.inp 0 p.cmds++EW p.beh p.out)
theorem EY(j:Int)(ts:List T2):dq (Cv (cT j ts).1)+hJ (cT j ts).2.2≤hJ ts∧(Cu (cT j ts).1).length+hJ (cT j ts).2.2≤hJ ts:=by
 obtain⟨a1,a2⟩:=QT ts
 obtain⟨b1,b2⟩:=rX (jD ts).2.length (jD ts).2
 have b2:=b2 0
 obtain⟨c1,c2⟩:=LT (cm (jD ts).2).2
 obtain⟨d1,d2⟩:=tK (cY (cm (jD ts).2).2).2.2.length (cY (cm (jD ts).2).2).2.2
 obtain⟨e1,e2⟩:=My (cW (cY (cm (jD ts).2).2).2.2).2
 obtain⟨f1,f2⟩:=C5 (cY (cm (jD ts).2).2).1 1 (cW (cY (cm (jD ts).2).2).2.2).1 (by decide)
 unfold cT Cv Cu
 dsimp only
 rw[bO,bO,aO,aO,jK,Ef,bO,bO,bO,aO,aO,aO,f1,f2]
 unfold inR
 simp only[decide_true,Bool.true_and,ab (show¬(0:Nat)<0 by omega),dq,aL]
 unfold cW cm at *
 omega
theorem Mb(n:Nat):(Ac n).length≤2∧(jnS n).length≤4:=by
 match n with
 |0=>decide
 |1=>decide
 |2=>decide
 |3=>decide
 |_+4=>exact⟨az _,az _⟩
theorem EH{ts r:List T2}{j:Int}(h:fO ts=some (j,r)):hJ r+10≤hJ ts:=by
 unfold fO at h
 split at h
 ·rename_i q hq;have:=il hq;injection h with h;injection h with _ h;subst h;exact this
 ·split at h
  ·rename_i q hq;have:=il hq;injection h with h;injection h with _ h;subst h;exact this
  ·split at h
   ·rename_i q hq;have:=il hq;injection h with h;injection h with _ h;subst h;exact this
   ·cases h
theorem ag8(p:fm):dq (R5 p)≤dq (Cv p)+3:=by
 have:=(Mb p.join.toNat).1
 unfold R5 Cv
 rw[bO]
 split
 ·simp only[dq];omega
 ·simp only[dq];omega
theorem Zh(i:Nat)(p:fm)(r:List fm):(Zg i (p::r)).length≤(Cu p).length+4+(Zg (i+1) r).length:=by
 have:=(Mb p.join.toNat).2
 rw[Zg]
 unfold Cu
 simp only[aO]
 split
 ·omega
 ·simp only[aL];omega
theorem tC:∀(f:Nat) (j:Int) (ts:List T2),dq (nJ (eY f j ts).1)+hJ (eY f j ts).2.2≤hJ ts+3∧ ∀i,(Zg i (eY f j ts).1).length+hJ (eY f j ts).2.2≤hJ ts+4
 |0,_,ts=>⟨by simp[eY,nJ,dq],fun i=>by simp[eY,Zg]⟩
 |f+1,j,ts=>by
  obtain⟨h1,h2⟩:=EY j ts;have h3:=ag8 (cT j ts).1;rw[eY];split
  ·refine⟨by rw[nJ,bO];simp only[nJ,dq];omega,fun i=>?_⟩;have:=Zh i (cT j ts).1 [];simp only[Zg,aL]at this⊢;simp only[bP]at this⊢;omega
  ·rename_i j' r hj;have h4:=EH hj;obtain⟨h5,h6⟩:=tC f j' r;refine⟨by rw[nJ,bO];dsimp only;omega,fun i=>?_⟩;have:=Zh i (cT j ts).1 (eY f j' r).1;have:=h6 (i+1);dsimp only;omega
def TK(k:Nat)(ts:List T2):Prop:=∀t∈ts,oF t.2≤k
def WK(k:Nat)(w:List Pc):Prop:=oF w≤k
theorem aj8{ts:List T2}:TK (hJ ts) ts:=by
 intro t ht
 induction ts with
 |nil=>cases ht
 |cons a r ih=>
  rcases be.1 ht with rfl|h
  ·simp only[hJ];omega
  ·have:=ih h;simp only[hJ];omega
theorem TK.isS{k:Nat}{s:List UInt8}{ts r:List T2}(h:TK k ts)(e:isS s ts=some r):TK k r:=by
 cases ts with
 |nil=>cases e
 |cons t q=>
  rw[gL]at e;split at e
  ·injection e with e;subst e;exact fun t ht=>h t (br _ ht)
  ·cases e
theorem TK.wds{k:Nat}:∀(m:Nat) {ts:List T2},TK k ts→(∀w∈(ei m ts).1,WK k w)∧TK k (ei m ts).2
 |0,ts,h=>⟨fun w hw=>(by cases hw),h⟩
 |_+1,[],h=>⟨fun w hw=>(by cases hw),h⟩
 |m+1,t::r,h=>by
  rw[ei];split
  ·obtain⟨h1,h2⟩:=TK.wds m (ts:=r) fun t ht=>h t (br _ ht);refine⟨fun w hw=>?_,h2⟩;rcases be.1 hw with rfl|hw
   ·exact h t (bJ ..)
   ·exact h1 w hw
  ·exact⟨fun w hw=>(by cases hw),h⟩
theorem TK.redir{k:Nat}{ts:List T2}(h:TK k ts):WK k (redir ts).1∧TK k (redir ts).2.2:=by
 cases ts with
 |nil=>exact⟨az _,h⟩
 |cons t r=>
  unfold Ev.redir;rw[kV];by_cases ht:t.1=[]
  ·rw[ac ht];exact⟨h t (bJ ..),fun t ht=>h t (br _ ht)⟩
  ·rw[ab ht];exact⟨az _,h⟩
theorem TK.inp{k:Nat}{ts:List T2}(h:TK k ts):WK k (cY ts).1∧TK k (cY ts).2.2:=by
 unfold cY
 split
 ·rename_i r e;exact(h.isS e).redir
 ·exact⟨az _,h⟩
theorem TK.out{k:Nat}{ts:List T2}(h:TK k ts):WK k (ed ts).2.1∧TK k (ed ts).2.2.2:=by
 unfold ed
 split
 ·rename_i r e;exact(h.isS e).redir
 ·split
  ·rename_i r e;exact(h.isS e).redir
  ·exact⟨az _,h⟩
theorem TK.nt{k:Nat}{ts:List T2}(h:TK k ts):TK k (jD ts).2:=by
 unfold jD
 split
 ·rename_i r e;exact h.isS e
 ·exact h
theorem TK.pipe{k:Nat}:∀(f:Nat) {ts:List T2},TK k ts→(∀c∈(eK f ts).1,∀w∈c,WK k w)∧TK k (eK f ts).2
 |0,_,h=>⟨fun c hc=>(by cases hc),h⟩
 |f+1,ts,h=>by
  rw[eK];split
  ·rename_i r e;obtain⟨h1,h2⟩:=TK.wds r.length (h.isS e);obtain⟨h3,h4⟩:=TK.pipe f (ts:=(cm r).2) h2;refine⟨fun c hc=>?_,h4⟩;rcases be.1 hc with rfl|hc
   ·exact h1
   ·exact h3 c hc
  ·exact⟨fun c hc=>(by cases hc),h⟩
theorem WK.s{k:Nat}{w:List Pc}(h:WK k w)(hk:k≤1000000):(∀q∈w,q.1.length≤1000000)∧w.length≤1000000:=
 ⟨fun q hq=>aY (RJ hq) (aY h hk),aY (RI w) (aY h hk)⟩
theorem TK.part{k:Nat}{ts:List T2}(j:Int)(h:TK k ts)(hk:k≤1000000):Gl (cT j ts).1∧TK k (cT j ts).2.2:=by
 obtain⟨a1,a2⟩:=TK.wds (jD ts).2.length h.nt
 obtain⟨b1,b2⟩:=TK.inp (ts:=(cm (jD ts).2).2) a2
 obtain⟨c1,c2⟩:=TK.pipe (cY (cm (jD ts).2).2).2.2.length b2
 obtain⟨d1,d2⟩:=TK.out (ts:=(cW (cY (cm (jD ts).2).2).2.2).2) c2
 refine⟨⟨(b1.s hk).1,(d1.s hk).1,fun x hx w hw=>?_,(b1.s hk).2,(d1.s hk).2⟩,d2⟩
 rcases be.1 hx with rfl|hx
 ·exact(WK.s (a1 w hw) hk).1
 ·exact(WK.s (c1 x hx w hw) hk).1
theorem TK.line{k:Nat}(hk:k≤1000000):∀(f:Nat) (j:Int) {ts:List T2},TK k ts→ ∀p∈(eY f j ts).1,Gl p
 |0,_,_,_,p,hp=>by cases hp
 |f+1,j,ts,h,p,hp=>by
  obtain⟨h1,h2⟩:=h.part j hk;rw[eY]at hp;split at hp
  ·rcases be.1 hp with rfl|hp
   ·exact h1
   ·cases hp
  ·rename_i j' r hj;rcases be.1 hp with rfl|hp
   ·exact h1
   ·refine TK.line hk f j' (ts:=r) ?_ p hp;unfold fO at hj;split at hj
    ·rename_i q hq;injection hj with hj;injection hj with _ hj;subst hj;exact h2.isS hq
    ·split at hj
     ·rename_i q hq;injection hj with hj;injection hj with _ hj;subst hj;exact h2.isS hq
     ·split at hj
      ·rename_i q hq;injection hj with hj;injection hj with _ hj;subst hj;exact h2.isS hq
      ·cases hj
theorem MH{s:List UInt8}(h:s.length≤4096):(∀p∈(dA 0 (dh s)).1,Gl p)∧dq (nJ (dA 0 (dh s)).1)≤1000000∧(Zg 0 (dA 0 (dh s)).1).length≤1000000:=by
 have h1:hJ (dh s)≤16*s.length:=vC (s.length+1) s 0
 obtain⟨h2,h3⟩:=tC ((dh s).length+1) 0 (dh s)
 have h3:=h3 0
 unfold dA
 exact⟨TK.line (k:=16*s.length) (by omega) _ 0 (fun t ht=>aY (aj8 t ht) h1),by omega,by omega⟩
def CuS(cu:Nat)(v:V)(TT:List T2)(M:Mem)(ts:List T2):Prop:=∃k:Nat,M.get cu=some (af 80 [v,.i .i64 (k:Int)])∧k≤TT.length∧ts=TT.drop k
structure RR(F:RO)(lo cs:Nat)(Ms:Mem)(v:V)(TT:List T2)(M1:Mem)(c1:Nat)(M2:Mem)(c2:Nat)(ts:List T2):Prop where
 g:iF (fun x=>x=cs) c1 M1 c2 M2
 ok:cU F M2 c2
 cu:CuS cs v TT M2 ts
 bk:Bk lo cs Ms M2
end
end Go.Proofs.YtmbpllipombieaaDoor.Ev
