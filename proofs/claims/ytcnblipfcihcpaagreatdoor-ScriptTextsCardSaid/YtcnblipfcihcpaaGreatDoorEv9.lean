/- What is proved here: pieces of the evaluator's soundness: if the evaluator comes to a value, the model's run comes to it, for every world and tape; no conditions beyond the hypotheses of each theorem. -/
import Derived.Test.YtcnblipfcihcpaaGreatDoorEv8
set_option linter.unusedSimpArgs false
set_option linter.unusedVariables false
set_option linter.defProp false
set_option maxRecDepth 10000
set_option maxHeartbeats 16000000
namespace Go.Proofs.YtcnblipfcihcpaaGreatDoor.Ev
open Go
noncomputable section
variable{Φ:Nat→Option CF}{F:RO}{M M0 M' M1:Mem}{c c0 c' c1 b sz ty o:Nat}{v va vp vi vt:V}{s:SC}{l:List UInt8}{es:List (List V)}{α:Type}
abbrev KD(u:List (Option V))(x1 x2 x3:V):T:=(.n (.n (.n (.n (aq u 63 31 95 15 79 47 111) (uO u 7) (aq u 71 39 103 23 87 55 119)) (some x3) (.n (aq u 67 35 99 19 83 51 115) (uO u 11) (aq u 75 43 107 27 91 59 123))) (some x1) (.n (.n (aq u 65 33 97 17 81 49 113) (uO u 9) (aq u 73 41 105 25 89 57 121)) (uO u 5) (.n (aq u 69 37 101 21 85 53 117) (uO u 13) (aq u 77 45 109 29 93 61 125)))) (uO u 0) (.n (.n (.n (aq u 64 32 96 16 80 48 112) (uO u 8) (aq u 72 40 104 24 88 56 120)) (uO u 4) (.n (aq u 68 36 100 20 84 52 116) (uO u 12) (aq u 76 44 108 28 92 60 124))) (some x2) (.n (.n (aq u 66 34 98 18 82 50 114) (uO u 10) (aq u 74 42 106 26 90 58 122)) (uO u 6) (.n (aq u 70 38 102 22 86 54 118) (uO u 14) (aq u 78 46 110 30 94 62 126)))))
def cp5:CC:=(.reg [(aa a1 (.bx 31 6 z0)),(aa a2 (.al 31 [(.i .i64 0),(.i .i64 0),.l0,.l0,.l0,.l0]))])
def d13:=wu cp5.eq_1
def cp6:CC:=(.reg [(qq a7 (.ldn 6 z1)),(aa a3 (.al 31 [(.i .i64 0),(.i .i64 0),.l0,.l0,.l0,.l0])),(ez (.st 6 z3 z7))])
def d16:=wu cp6.eq_1
def cp7:CC:=(.reg [(qq a8 (.fa 0 z1)),(qq a9 (.fa 0 z8)),(qq dp (.fa 2 z9)),(qq dk (.ld1 dx)),(ee dy (.app 75 3 24 (.c .l0) dC)),(qq dN (.fa 0 z3)),(qq dL (.fa 0 dG)),(qq dS (.fa 2 eu)),(ez (.st 1 dM dX))])
def d19:=wu cp7.eq_1
def cp8:CC:=(.reg [(qq dY (.fa 0 z3)),(qq eE (.fa 0 eF)),(qq dT (.fa 3 eD)),(ez (.st 1 fm (.c .l0)))])
def d20:=wu cp8.eq_1
def cp9:CC:=(.reg [(qq a4 (.mv (x6 0)))])
def dz9:=wu cp9.eq_1
def cq0:CC:=(.reg [(qq eG (.mv z4)),(qq fF (.fa 0 z1)),(qq eR (.fa 0 fD)),(qq fv (.fa 3 gv)),(qq fl (.ld1 gb)),(qq dU (.ln .slice gH)),(qq eV (.bi .lss fS gM))])
def dA0:=wu cq0.eq_1
def cq1:CC:=(.seq cq0 (.cond gO .skip (.exit 0)))
def dA1:=wu cq1.eq_1
def cq2:CC:=(.dreg 18 [(0,0,(qq gi (.fa 0 z3))),(1,1,(qq gg (.fa 0 iz))),(2,3,(qq gQ (.fa 3 iA))),(3,7,(qq j4 (.ld1 iE))),(4,0,(qq gj (.fa 0 z1))),(5,16,(qq iG (.fa 0 jL))),(6,48,(qq fT (.fa 3 kz))),(7,112,(qq j5 (.ld1 kC))),(8,0,(qq kv (.mv z4))),(9,496,(qq jq (.iaS 1 kD ll))),(10,1008,(qq gR (.ld1 kr))),(11,2032,(ee j6 (.app 5 1 1 (.c .l0) kW))),(12,4080,(aa jr (.bsl 26 1 1 [.l0] [(0,lh)]))),(13,8191,(ee kF (.app 26 1 24 jh lm))),(14,16383,(qq jM (.fa 0 z3))),(15,32767,(qq j7 (.fa 0 lr))),(16,65535,(qq ky (.fa 3 mW))),(17,131071,(ez (.st 1 ny lq)))])
def dA2:=wu cq2.eq_1
def cq3:CC:=(.reg [(qq eb (.mv z4)),(qq fG (.bi .add gw (x6 1))),(qq a4 (.mv gy))])
def dA3:=wu cq3.eq_1
def Vj:CC:=(.seq cp9 (.block 0 (.loop (.seq cq1 (.seq (.block 1 cq2) cq3)))))
def d14:=wu Vj.eq_1
def b74:CC:=(.reg [(qq js (.fa 0 z1)),(qq kX (.fa 4 nG)),(qq kY (.ld1 oD)),(ee kB (.app 5 1 1 (.c .l0) nA)),(qq iB (.fa 0 z3)),(qq nC (.fa 4 nH)),(ez (.st 1 oF oE))])
def bv5:=wu b74.eq_1
def b75:CC:=(.reg [(qq kG (.fa 5 z3)),(ez (.st 1 pl (.c .l0)))])
def bv6:=wu b75.eq_1
def b76:CC:=(.reg [(qq a5 (.mv (x6 0)))])
def bv7:=wu b76.eq_1
def b77:CC:=(.reg [(qq kH (.mv z5)),(qq j8 (.fa 5 z1)),(qq nK (.ld1 pm)),(qq nL (.ln .slice pU)),(qq kI (.bi .lss pS qO))])
def a01:=wu b77.eq_1
def b78:CC:=(.seq b77 (.cond pn .skip (.exit 2)))
def a02:=wu b78.eq_1
def b79:CC:=(.reg [(qq qa (.fa 5 z1)),(qq oI (.ld1 sB)),(qq qb (.mv z5)),(qq pq (.iaS 5 sw ug)),(qq pj (.ldn 5 sy)),(aa a6 (.al 51 [(.i .i64 0),(.i .i64 0),(.s 0 0),.l0,.l0])),(ez (.st 5 z6 tC))])
def bv8:=wu b79.eq_1
def b80:CC:=(.reg [(qq qc (.fa 3 z6)),(qq qd (.ld1 yA)),(ee tG (.app 5 1 1 (.c .l0) uM)),(qq tH (.fa 3 z6)),(ez (.st 1 xX vn))])
def bv9:=wu b80.eq_1
def b81:CC:=(.reg [(qq qQ (.fa 4 z6)),(qq um (.ld1 xY)),(ee uo (.app 54 3 24 (.c .l0) ya)),(qq qX (.fa 4 z6)),(ez (.st 1 yc yb))])
def bw0:=wu b81.eq_1
def b83:CC:=(.reg [(qq vE (.fa 5 z3)),(qq y6 (.ld1 Bz)),(qq y7 (.ldn 5 z6)),(aa yl (.bsl 51 1 5 [(.i .i64 0),(.i .i64 0),(.s 0 0),.l0,.l0] [(0,BB)])),(ee y8 (.app 51 5 80 zL BC)),(qq zT (.fa 5 z3)),(ez (.st 1 Dp BD))])
def d15:=wu b83.eq_1
def b84:CC:=(.reg [(qq lx (.mv z5)),(qq lT (.bi .add qT (x6 1))),(qq a5 (.mv qU))])
def d17:=wu b84.eq_1
def b85:CC:=(.seq (.block 3 (.seq b79 (.seq b80 (.seq b81 b83)))) b84)
def bw1:=wu b85.eq_1
def Vk:CC:=(.reg [(qq BN (.ldn 6 z3)),(ez (.st 6 z2 Gq))])
def d18:=wu Vk.eq_1
def Vl:CC:=(.seq (.seq b76 (.block 2 (.loop (.seq b78 b85)))) (.seq Vk .ret))
def bw2:=wu Vl.eq_1
def b86:CC:=(.seq cp7 (.seq cp8 (.seq Vj (.seq b74 (.seq b75 Vl)))))
def bw3:=wu b86.eq_1
def c6:CF:= .mk 7 [.cn a2 6] (.seq cp5 (.seq cp6 b86))
theorem e6(v0:V):aU 7 [v0]=(.n sc (some v0) sc):=rfl
def B6:=ai @e6 (ai @d13 (ai @d16 (ai @d19 (ai @d20 (ai @dz9 (ai @dA0 (ai @dA1 (ai @dA2 (ai @dA3 (ai @d14 (ai @bv5 (ai @bv6 (ai @bv7 (ai @a01 (ai @a02 (ai @bv8 (ai @bv9 (ai @bw0 (ai @d15 (ai @d17 (ai @bw1 (ai @d18 (ai @bw2 (@bw3))))))))))))))))))))))))
theorem bG.upc(h:bG F M c sz v es)(hc:c≤c'):bG F M c' sz v es:=by
 rcases h with⟨a,b|⟨b,o,hv,hb,hcs⟩⟩
 ·exact⟨a,.inl b⟩
 ·exact⟨a,.inr ⟨b,o,hv,by omega,hcs⟩⟩
def yC(R:Mem→Nat→List V→α→Prop)(M:Mem)(c0 c ty sz:Nat)(v:V)(l:List α):Prop:=
 ∃b es,cA M c0 c b ty sz v es∧es.length=l.length∧l.length≤1000000∧ ∀i (h:i<es.length) (h':i<l.length),∃lo hi,c0≤lo∧lo≤hi∧hi≤c∧(b<lo∨hi≤b)∧ ∀M',(∀x,lo≤x→x<hi→M'.get x=M.get x)→R M' hi es[i] l[i]
theorem yC.nil{R:Mem→Nat→List V→α→Prop}:yC R M c0 c ty sz .l0 []:=⟨0,[],cA.nil,rfl,aE _,fun i h=>(by cases h)⟩
theorem yC.keep{R:Mem→Nat→List V→α→Prop}{l:List α}(h:yC R M c0 c ty sz v l)(hc:c≤c')(hM:∀x,c0≤x→x<c→M'.get x=M.get x):yC R M' c0 c' ty sz v l:=by
 obtain⟨b,es,hA,q1,q2,q3⟩:=h
 refine⟨b,es,?_,q1,q2,fun i hi hi'=>?_⟩
 ·rcases hA with⟨a0,a1|⟨a1,a2,a3,a4⟩⟩
  ·exact⟨a0,.inl a1⟩
  ·exact⟨a0,.inr ⟨a1,by omega,a3,(hM b a1 a2).trans a4⟩⟩
 ·obtain⟨lo,hi2,e1,e2,e3,e4,e5⟩:=q3 i hi hi';exact⟨lo,hi2,e1,e2,by omega,e4,fun M2 h2=>e5 M2 fun x a1 a2=>(h2 x a1 a2).trans (hM x (by omega) (by omega))⟩
theorem yC.els{R:Mem→Nat→List V→α→Prop}{l:List α}(h:yC R M c0 c ty sz v l)(hR:∀M c c' e a,c≤c'→R M c e a→R M c' e a):∃es:List (List V),bG F M c sz v es∧es.length=l.length∧ ∀i (h:i<es.length) (h':i<l.length),R M c es[i] l[i]:=by
 obtain⟨b,es,hA,q1,q2,q3⟩:=h
 refine⟨es,hA.sl,q1,fun i hi hi'=>?_⟩
 obtain⟨lo,hi2,e1,e2,e3,e4,e5⟩:=q3 i hi hi'
 exact hR _ _ _ _ _ e3 (e5 M fun _ _ _=>rfl)
theorem yC.one{R:Mem→Nat→List V→α→Prop}{l:List α}(h:yC R M c0 c ty sz v l):dD v=true∧flatten v=[v]∧bj [v]=true:=by
 obtain⟨b,es,hA,_⟩:=h
 exact aK (hA.sl (F:=[]))
theorem yC.push{R:Mem→Nat→List V→α→Prop}{lo hi bytes:Nat}{y:V}{l:List α}{e:List V}{a:α}(h:yC R M1 c0 c1 ty sz v l)(hc0:c0≤c1)(hc:c1≤c)(hM:∀x,c0≤x→x<c1→M.get x=M1.get x)(ok:cO F M c)(hsz:0<sz)(hy:bG F M c sz y [e])(h1:bj e=true)(hlo:c1≤lo)(hlh:lo≤hi)(hhi:hi≤c)(hR:∀M',(∀x,lo≤x→x<hi→M'.get x=M.get x)→R M' hi e a)(hl:l.length≤900000)(hb:bytes≤100):
 tF (kZ F M c ty sz bytes v y) fun v' M' c'=>yC R M' c0 c' ty sz v' (l++[a])∧cO F M' c'∧c≤c'∧(∀x,x<c0→M'.get x=M.get x)∧(∀x,c1≤x→x<c→M'.get x=M.get x):=by
 obtain⟨b,es,hA,q1,q2,q3⟩:=h
 obtain⟨b1,hA1,hb1⟩:∃b1,cA M c0 c b1 ty sz v es∧((b1=b∧c0≤b∧b<c1∧M.get b=some (qF ty es.flatten))∨(es=[]∧c≤b1)):=by
  rcases hA with⟨a0,⟨a1,a2⟩|⟨a1,a2,a3,a4⟩⟩
  ·exact⟨c,⟨a0,.inl ⟨a1,a2⟩⟩,.inr ⟨a1,ak _⟩⟩
  ·have:=(hM b a1 a2).trans a4;exact⟨b,⟨a0,.inr ⟨a1,by omega,a3,this⟩⟩,.inl ⟨rfl,a1,a2,this⟩⟩
 have gA:Gr c0 M c M:=⟨by omega,fun _ _=>rfl,ok.hiM⟩
 refine(eH (bytes:=bytes) hA1 gA hsz hy (by show bj ([e].flatten)=true;rw[List.flatten_cons,List.flatten_nil,cu];exact h1) (db (bF (Nat.mul_le_mul (show 3*(es.length+[e].length)+2000≤2800000 by rw[List.length_singleton];omega) hb) (by decide)) (by rw[List.length_singleton];omega))).mono ?_
 rintro v' M' c' ⟨b',hA',g',hle,hf,hb'⟩
 have gx:Dt (fun x=>x=b1) c M c' M':=⟨hle,fun x a b=>hf x a b,g'.new⟩
 have Oc:cO F M' c':=gx.ok ok fun x a e=>by
  rcases hb1 with⟨rfl,_,_,hm⟩|⟨_,a2⟩
  ·rw[e];exact⟨_,hm⟩
  ·omega
 refine⟨⟨b',es++[e],hA',by rw[aG,aG,q1];rfl,by rw[aG,List.length_singleton];omega,fun i hi1 hi2=>?_⟩,Oc,hle,fun x hx=>g'.old x hx,fun x x1 x2=>hf x x2 (by rcases hb1 with⟨rfl,_,_,_⟩|⟨_,a2⟩<;>omega)⟩
 by_cases hie:i<es.length
 ·obtain⟨lo',hi',e1,e2,e3,e4,e5⟩:=q3 i hie (by omega);have hbl:b1<lo'∨hi'≤b1:=by rcases hb1 with⟨rfl,_,_⟩|⟨_,a2⟩<;>omega
  have hbl':b'<lo'∨hi'≤b':=by rcases hb' with rfl|h<;>omega
  refine⟨lo',hi',e1,e2,by omega,hbl',fun M2 h2=>?_⟩;rw[r5 hie,r5 (by omega)];exact e5 M2 fun x x1 x2=>(h2 x x1 x2).trans ((hf x (by omega) (by omega)).trans (hM x (by omega) (by omega)))
 ·rw[aG,List.length_singleton]at hi1;obtain rfl:i=es.length:=by omega
  have hbl':b'<lo∨hi≤b':=by
   rcases hb' with rfl|h
   ·rcases hb1 with⟨rfl,_,_,_⟩|⟨_,a2⟩<;>omega
   ·omega
  refine⟨lo,hi,by omega,hlh,by omega,hbl',fun M2 h2=>?_⟩;have hnb:∀x,lo≤x→x<hi→x≠b1:=fun x x1 x2=>by rcases hb1 with⟨rfl,_,_,_⟩|⟨_,a2⟩<;>omega
  have:=hR M2 fun x x1 x2=>(h2 x x1 x2).trans (hf x (by omega) (hnb x x1 x2));rw[qZ (ak _)];rw[qZ (by omega)];simp only[q1,Nat.sub_self,List.getElem_cons_zero];exact this
def PgR(F:RO)(M:Mem)(c:Nat)(e:List V)(p:List UInt8):Prop:=∃w,e=[w]∧fC F M c w p
theorem PgR.upc(hc:c≤c')(e:List V)(p:List UInt8)(h:PgR F M c e p):PgR F M c' e p:=by obtain⟨w,h1,h2⟩:=h;exact⟨w,h1,h2.upc hc⟩
theorem dC4{va' x4 x5:V}{x0 x1 y0 y1:V}{Mb:Mem}{cb:Nat}(hbp:cH F Mb cb vp s.pg)(cW:cO F M1 c1)(hcb:cb≤c)(hg:Gr cb Mb c1 M1)(hc:c+3≤c1)(b0:M1.get c=some (au 31 [x0,x1,va,vp,vi,vt]))(b2:M1.get (c+2)=some (au 31 [y0,y1,va',.l0,x4,x5]))(hone:bj [y0,y1,va',x4,x5]=true)(hz:s.pg.length≤900000)(hp:∀p∈s.pg,p.length≤900000)(u:List (Option V))(Q:Ex→St→Prop)
 (hQ:∀(u:List (Option V)) (v:V) M' c',cO F M' c'→c1≤c'→(∀x,x<c1→x≠c+2→M'.get x=M1.get x)→M'.get (c+2)=some (au 31 [y0,y1,va',v,x4,x5])→yC (PgR F) M' c1 c' 26 1 v s.pg→Q .nrm (.mk ((KD u (.p c 0) (.p (c+1) 0) (.p (c+2) 0))) [] M' c')):
 Wp Vj (K Φ none 6 F) (.mk ((KD u (.p c 0) (.p (c+1) 0) (.p (c+2) 0))) [] M1 c1) Q:=by
 simp only[WX,B6]
 obtain⟨I,hI⟩:∃I:Nat→St→Prop,∀n s',I n s'↔(∃(i c2:Nat) (v:V) (M2:Mem) (u:List (Option V)),n=s.pg.length-i∧i≤s.pg.length∧s'= .mk ((bp7 u (.p c 0) (.p (c+1) 0) (.p (c+2) 0) (.i .i64 (i:Int)))) [] M2 c2∧cO F M2 c2∧c1≤c2∧(∀x,x<c1→x≠c+2→M2.get x=M1.get x)∧M2.get (c+2)=some (au 31 [y0,y1,va',v,x4,x5])∧yC (PgR F) M2 c1 c2 26 1 v (s.pg.take i)):=⟨fun n s'=>_,fun _ _=>Iff.rfl⟩
 refine bD I ?_ s.pg.length _ ((hI _ _).2 ⟨0,_,_,_,(X1 (G4 (bH (cw (cj (X8 (X2 []))))))),rfl,aE _,rfl,cW,ak _,fun _ _ _=>rfl,b2,by rw[List.take_zero];exact yC.nil⟩)
 intro n s' hIs
 obtain⟨i,c2,v,M2,u,rfl,hi,rfl,ok2,hc2,hold,b2',hA⟩:=(hI _ _).1 hIs
 clear hIs
 have g2:Gr cb Mb c2 M2:=⟨by omega,fun x hx=>(hold x (by omega) (by omega)).trans (hg.old x hx),ok2.hiM⟩
 have k3:load1 F M2 c 3=some vp:=aj ((hold c (by omega) (by omega)).trans b0) 3
 have hp1:=hbp.grow g2
 have np:=hp1.len
 have q8:bX .add (.i .i64 (i:Int)) (.i .i64 1)=some (.i .i64 ((i+1:Nat):Int)):=by rw[aN _ _ (by omega) (by omega)];simp
 by_cases hlt:i<s.pg.length
 ·have d1:decide ((i:Int)<(s.pg.length:Int))=true:=af (by omega);obtain⟨pb,po,w,hpb,hia,hld,sd⟩:=hp1.at i hlt;have htk:=cq hlt;have hpl:=hp _ (List.getElem_mem hlt);generalize hpe:s.pg[i]=p at sd htk hpl;have m3:load1 F M2 (c+2) 3=some v:=aj b2' 3;have hfr:=ok2.free;simp only[WX,B6,k3,np,d1,m3,hia,hld];have g20:Gr c2 M2 (c2+18) M2:=(Gr.refl ok2).up (by omega);have bM1:=g20.ok ok2;refine aa0 _ _ _ _ _ _ _ _ _ _ _ bM1 ?_;intro F1 N1 okn hlk;refine(show tF (kZ F1 N1 (c2+18) 5 1 1 .l0 w) _ from(eH (bytes:=1) (cA.nil (c0:=c2+18) (b:=c2+18)) (Gr.refl okn) Nat.one_pos (bG.lk hlk (sd.grow g20)) (ly p) (db (by rw[List.length_map,bo];omega) (by rw[List.length_map,bo];omega))).mono ?_);rintro r N2 c5 ⟨bq,hP,gN,hle5,_,_⟩;rw[List.nil_append]at hP;have hW2:gh F N2 (c2+18) c5 1 r (p.map fun x=>[bV x]):=hP.own;refine⟨gN,fun M6 g6 hM6=>?_⟩;have hle6:=g6.le;obtain⟨z1,z2,z3⟩:=aK hW2.sl;have lk:(look F M6 (c2+12)).isNone=true:=by rw[ey (g6.old _ (by omega)),ok2.look (by omega)];rfl
  have rf:cG (c2+12) [(10,pb),(7,c),(3,c+2)]=true:=by rw[cg _ _ _ _ (by omega),cg _ _ _ _ (by omega),cg _ _ _ _ (by omega),ek]
  simp only[WX,Nat.reducePow,Nat.reduceDiv,Nat.reduceMod,Nat.reduceBEq,lk,rf,Ge,wV,Lc,z1,z2];have gZ:Gr c2 M2 c5 (M6.set (c2+12) (cQ [V.l0] 26 [r])):=⟨by omega,fun x hx=>(az _ _ (by omega)).trans (g6.old x (by omega)),fun x hx=>(az _ _ (by omega)).trans (g6.new x hx)⟩
  have hys:bG F (M6.set (c2+12) (cQ [V.l0] 26 [r])) c5 1 (.l (c2+12) 0 1 1) [[r]]:=qS (d:=[V.l0]) (ty:=26) (by rw[am];rfl) (by omega) (fun e he=>by rw[List.mem_singleton]at he;subst he;rfl) rfl;refine iq ((yC.push (R:=PgR F) (lo:=c2+18) (hi:=c5) (a:=p) hA (by omega) (by omega) (fun x x1 x2=>gZ.old x x2) (gZ.ok ok2) (by decide) hys z3 (by omega) (by omega) (ak _) (fun M' hM'=>⟨r,rfl,hW2 M' fun x x1 x2=>(hM' x x1 x2).trans ((az _ _ (by omega)).trans (hM6 x x1))⟩) (by rw[List.length_take];omega) (by decide)).mono ?_);rintro wv' M8 c8 ⟨hA8,ok8,hle8,f1,f2⟩;obtain⟨k1,k2,k9⟩:=hA8.one;have mc8:M8.get (c+2)=some (au 31 [y0,y1,va',v,x4,x5]):=(f1 _ (by omega)).trans ((gZ.old _ (by omega)).trans b2');have st:=bS mc8 3 [wv'] (by simp) k9;have ho:over [y0,y1,va',v,x4,x5] 3 [wv']=[y0,y1,va',wv',x4,x5]:=rfl;rw[ho]at st;have Yh:cO F (M8.set (c+2) (au 31 [y0,y1,va',wv',x4,x5])) c8:=ok8.put (by omega) mc8;have f9:=Yh.free;refine⟨ok8.free,?_⟩;simp only[WX,Nat.reducePow,Nat.reduceDiv,Nat.reduceMod,Nat.reduceBEq,jz,B6,k2,st,f9,q8];refine⟨s.pg.length-(i+1),by omega,(hI _ _).2 ⟨i+1,_,wv',_,(X1 (G4 (bH (cw (cj (X8 (X2 []))))))),rfl,hlt,rfl,Yh,by omega,fun x hx hx2=>(az _ _ hx2).trans ((f1 x hx).trans ((gZ.old x (by omega)).trans (hold x hx hx2))),am _ _ _,?_⟩⟩;rw[htk];exact hA8.keep (ak _) fun x x1 x2=>az _ _ (by omega)
 ·obtain rfl:i=s.pg.length:=by omega
  have d1:decide ((s.pg.length:Int)<(s.pg.length:Int))=false:=ah (by omega);rw[List.take_length]at hA;simp only[WX,B6,k3,np,d1];exact hQ (X1 (G2 (G1 (bH (cw (cj (X8 (X2 (X1 []))))))))) _ _ _ ok2 hc2 hold b2' hA
abbrev cR1(u:List (Option V))(x1 x2 x3 x5:V):T:=(.n (.n (.n (.n (aq u 63 31 95 15 79 47 111) (uO u 7) (aq u 71 39 103 23 87 55 119)) (some x3) (.n (aq u 67 35 99 19 83 51 115) (uO u 11) (aq u 75 43 107 27 91 59 123))) (some x1) (.n (.n (aq u 65 33 97 17 81 49 113) (uO u 9) (aq u 73 41 105 25 89 57 121)) (some x5) (.n (aq u 69 37 101 21 85 53 117) (uO u 13) (aq u 77 45 109 29 93 61 125)))) (uO u 0) (.n (.n (.n (aq u 64 32 96 16 80 48 112) (uO u 8) (aq u 72 40 104 24 88 56 120)) (uO u 4) (.n (aq u 68 36 100 20 84 52 116) (uO u 12) (aq u 76 44 108 28 92 60 124))) (some x2) (.n (.n (aq u 66 34 98 18 82 50 114) (uO u 10) (aq u 74 42 106 26 90 58 122)) (uO u 6) (.n (aq u 70 38 102 22 86 54 118) (uO u 14) (aq u 78 46 110 30 94 62 126)))))
def AcR(F:RO)(M:Mem)(c:Nat)(e:List V)(y:AC):Prop:=∃vd vl,e=[.i .i64 y.k,.i .i64 y.a,sV y.tx,vd,vl]∧fC F M c vd y.dt∧bG F M c 3 vl (cY y.ls)
theorem AcR.upc(hc:c≤c')(e:List V)(y:AC)(h:AcR F M c e y):AcR F M c' e y:=by obtain⟨w,w2,h1,h2,h3⟩:=h;exact⟨w,w2,h1,h2.upc hc,h3.upc hc⟩
theorem t4:∀(l:List (Int×Int×Int)),bj (cY l).flatten=true
 |[]=>rfl
 |x::l=>t4 l
theorem dC3{va' vp' vi':V}{x0 x1 y0 y1:V}{Mb:Mem}{cb:Nat}(hbt:fE F Mb cb vt s.ys)(cW:cO F M1 c1)(hcb:cb≤c)(hg:Gr cb Mb c1 M1)(hc:c+3≤c1)(b0:M1.get c=some (au 31 [x0,x1,va,vp,vi,vt]))(b2:M1.get (c+2)=some (au 31 [y0,y1,va',vp',vi',.l0]))(hz:s.ys.length≤900000)(hp:∀y∈s.ys,y.dt.length≤900000∧y.ls.length≤900000)(u:List (Option V))(Q:Ex→St→Prop)
 (hQ:∀(u:List (Option V)) (v:V) M' c',cO F M' c'→c1≤c'→(∀x,x<c1→x≠c+2→M'.get x=M1.get x)→M'.get (c+2)=some (au 31 [y0,y1,va',vp',vi',v])→yC (AcR F) M' c1 c' 51 5 v s.ys→Wp (.seq Vk .ret) (K Φ none 6 F) (.mk ((KD u (.p c 0) (.p (c+1) 0) (.p (c+2) 0))) [] M' c') Q):
 Wp Vl (K Φ none 6 F) (.mk ((KD u (.p c 0) (.p (c+1) 0) (.p (c+2) 0))) [] M1 c1) Q:=by
 simp only[WX,bv7,bw2]
 obtain⟨I,hI⟩:∃I:Nat→St→Prop,∀n s',I n s'↔(∃(i c2:Nat) (v:V) (M2:Mem) (u:List (Option V)),n=s.ys.length-i∧i≤s.ys.length∧s'= .mk ((cR1 u (.p c 0) (.p (c+1) 0) (.p (c+2) 0) (.i .i64 (i:Int)))) [] M2 c2∧cO F M2 c2∧c1≤c2∧(∀x,x<c1→x≠c+2→M2.get x=M1.get x)∧M2.get (c+2)=some (au 31 [y0,y1,va',vp',vi',v])∧yC (AcR F) M2 c1 c2 51 5 v (s.ys.take i)):=⟨fun n s'=>_,fun _ _=>Iff.rfl⟩
 refine bD I ?_ s.ys.length _ ((hI _ _).2 ⟨0,_,_,_,(X1 (G2 (G1 (X1 (G1 (bH (cw (cj (X8 (X1 [])))))))))),rfl,aE _,rfl,cW,ak _,fun _ _ _=>rfl,b2,by rw[List.take_zero];exact yC.nil⟩)
 intro n s' hIs
 obtain⟨i,c2,v,M2,u,rfl,hi,rfl,ok2,hc2,hold,b2',hA⟩:=(hI _ _).1 hIs
 clear hIs
 have g2:Gr cb Mb c2 M2:=⟨by omega,fun x hx=>(hold x (by omega) (by omega)).trans (hg.old x hx),ok2.hiM⟩
 have k5:load1 F M2 c 5=some vt:=aj ((hold c (by omega) (by omega)).trans b0) 5
 have hp1:=hbt.grow g2
 have np:=hp1.len
 have q8:bX .add (.i .i64 (i:Int)) (.i .i64 1)=some (.i .i64 ((i+1:Nat):Int)):=by rw[aN _ _ (by omega) (by omega)];simp
 by_cases hlt:i<s.ys.length
 ·have d1:decide ((i:Int)<(s.ys.length:Int))=true:=af (by omega);obtain⟨pb,po,vd,vl,hpb,hia,hld,sd,sl⟩:=hp1.at i hlt;have htk:=cq hlt;have hpl:=hp _ (List.getElem_mem hlt);generalize hpe:s.ys[i]=y at sd sl hld htk hpl;obtain⟨u1,u2,u3⟩:=aK sd;obtain⟨u4,u5,u6⟩:=aK sl;have gB:=(Gr.refl ok2).set c2 (au 51 [.i .i64 y.k,.i .i64 y.a,sV y.tx,vd,vl]) (ak _) (aD _) (aA _);have bB:(M2.set c2 (au 51 [.i .i64 y.k,.i .i64 y.a,sV y.tx,vd,vl])).get c2=some (au 51 [.i .i64 y.k,.i .i64 y.a,sV y.tx,vd,vl]):=am _ _ _;simp only[WX,Nat.reduceAdd,Nat.reduceLeDiff,a01,a02,bv8,bw1,k5,np,d1,hia,hld,gq,u1,u6];generalize M2.set c2 (au 51 [.i .i64 y.k,.i .i64 y.a,sV y.tx,vd,vl])=X at gB bB⊢;have okX:=gB.ok ok2;have l3:load1 F X c2 3=some vd:=aj bB 3;simp only[WX,bv9,l3];refine aw ((eH (bytes:=1) (cA.nil (c0:=c2+1) (b:=c2+1)) (Gr.refl okX) Nat.one_pos (sd.grow gB) (ly y.dt) (db (by rw[List.length_map,bo];omega) (by rw[List.length_map,bo];omega))).mono ?_);rintro r N2 c5 ⟨bq,hP,gN,hle5,_,_⟩;rw[List.nil_append]at hP;have hW2:gh F N2 (c2+1) c5 1 r (y.dt.map fun x=>[bV x]):=hP.own;obtain⟨z1,z2,z3⟩:=aK hW2.sl;have bB2:=(gN.old c2 (by omega)).trans bB;have st:=bS bB2 3 [r] (by simp) z3;have ho:over [V.i .i64 y.k,.i .i64 y.a,sV y.tx,vd,vl] 3 [r]=[V.i .i64 y.k,.i .i64 y.a,sV y.tx,r,vl]:=rfl;rw[ho]at st;have okN:=gN.ok okX;have uZ:cO F (N2.set c2 (au 51 [V.i .i64 y.k,.i .i64 y.a,sV y.tx,r,vl])) c5:=okN.put (by omega) bB2;have f3:=uZ.free;simp only[WX,z2,st];have bB3:(N2.set c2 (au 51 [V.i .i64 y.k,.i .i64 y.a,sV y.tx,r,vl])).get c2=some (au 51 [V.i .i64 y.k,.i .i64 y.a,sV y.tx,r,vl]):=am _ _ _;have h3:∀x,x≠c2→(N2.set c2 (au 51 [V.i .i64 y.k,.i .i64 y.a,sV y.tx,r,vl])).get x=N2.get x:=fun x hx=>az _ _ hx;generalize N2.set c2 (au 51 [V.i .i64 y.k,.i .i64 y.a,sV y.tx,r,vl])=N3 at uZ bB3 h3⊢;have l4:load1 F N3 c2 4=some vl:=aj bB3 4;have g3:Gr c2 M2 c5 N3:=⟨by omega,fun x hx=>(h3 x (by omega)).trans ((gN.old x (by omega)).trans (gB.old x hx)),uZ.hiM⟩
  simp only[WX,bw0,l4];refine aw ((eH (bytes:=24) (cA.nil (c0:=c5) (b:=c5)) (Gr.refl uZ) (by decide) (sl.grow g3) (t4 y.ls) (db (by rw[aL,bo];omega) (by rw[aL,bo];omega))).mono ?_);rintro r2 N4 c6 ⟨bq2,hP2,gN4,hle6,_,_⟩;rw[List.nil_append]at hP2;have hW3:gh F N4 c5 c6 3 r2 (cY y.ls):=hP2.own;obtain⟨z4,z5,z6⟩:=aK hW3.sl;have bB4:=(gN4.old c2 (by omega)).trans bB3;have st4:=bS bB4 4 [r2] (by simp) z6;have ho4:over [V.i .i64 y.k,.i .i64 y.a,sV y.tx,r,vl] 4 [r2]=[V.i .i64 y.k,.i .i64 y.a,sV y.tx,r,r2]:=rfl;rw[ho4]at st4;have Yf:cO F (N4.set c2 (au 51 [V.i .i64 y.k,.i .i64 y.a,sV y.tx,r,r2])) c6:=(gN4.ok uZ).put (by omega) bB4;have f5:=Yf.free;simp only[WX,z5,st4];have bB5:(N4.set c2 (au 51 [V.i .i64 y.k,.i .i64 y.a,sV y.tx,r,r2])).get c2=some (au 51 [V.i .i64 y.k,.i .i64 y.a,sV y.tx,r,r2]):=am _ _ _;have h5:∀x,x≠c2→(N4.set c2 (au 51 [V.i .i64 y.k,.i .i64 y.a,sV y.tx,r,r2])).get x=N4.get x:=fun x hx=>az _ _ hx;generalize N4.set c2 (au 51 [V.i .i64 y.k,.i .i64 y.a,sV y.tx,r,r2])=N5 at Yf bB5 h5⊢;have ld5:loadN F N5 c2 0 5=some [V.i .i64 y.k,.i .i64 y.a,sV y.tx,r,r2]:=lK bB5 5 rfl;have b25:N5.get (c+2)=some (au 31 [y0,y1,va',vp',vi',v]):=(h5 _ (by omega)).trans ((gN4.old _ (by omega)).trans ((g3.old _ (by omega)).trans b2'));have m5:load1 F N5 (c+2) 5=some v:=aj b25 5;have hG:flatten (V.g [V.i .i64 y.k,.i .i64 y.a,sV y.tx,r,r2])=[V.i .i64 y.k,.i .i64 y.a,sV y.tx,r,r2]:=by
   show flatten (V.i .i64 y.k)++_=_;rfl
  have hall:bj [V.i .i64 y.k,.i .i64 y.a,sV y.tx,r,r2]=true:=by
   simp only[d8,gq,z1,z4];rfl
  simp only[WX,Nat.reduceAdd,B6,m5,ld5,hG,hall];have h25:∀x,x<c2→N5.get x=M2.get x:=fun x hx=>(h5 x (by omega)).trans ((gN4.old x (by omega)).trans (g3.old x hx));have gZ:=(Gr.refl Yf).set c6 (cQ [V.i .i64 0,.i .i64 0,.s 0 0,.l0,.l0] 51 [V.i .i64 y.k,.i .i64 y.a,sV y.tx,r,r2]) (ak _) (aD _) (aA _);have hys:bG F (N5.set c6 (cQ [V.i .i64 0,.i .i64 0,.s 0 0,.l0,.l0] 51 [V.i .i64 y.k,.i .i64 y.a,sV y.tx,r,r2])) (c6+1) 5 (.l c6 0 1 1) [[V.i .i64 y.k,.i .i64 y.a,sV y.tx,r,r2]]:=qS (d:=[V.i .i64 0,.i .i64 0,.s 0 0,.l0,.l0]) (ty:=51) (by rw[am];rfl) (by omega) (fun e he=>by rw[List.mem_singleton]at he;subst he;rfl) rfl;refine aw ((yC.push (R:=AcR F) (lo:=c2+1) (hi:=c6) (a:=y) hA (by omega) (by omega) (fun x x1 x2=>(gZ.old x (by omega)).trans (h25 x x2)) (gZ.ok Yf) (by decide) hys hall (by omega) (by omega) (by omega) (fun M' hM'=>⟨r,r2,rfl,(hW2 M' fun x x1 x2=>(hM' x x1 (by omega)).trans ((gZ.old x (by omega)).trans ((h5 x (by omega)).trans ((gN4.old x (by omega)).trans (h3 x (by omega)))))).upc hle6,hW3 M' fun x x1 x2=>(hM' x (by omega) x2).trans ((gZ.old x (by omega)).trans (h5 x (by omega)))⟩) (by rw[List.length_take];omega) (by decide)).mono ?_);rintro wv' M8 c8 ⟨hA8,ok8,hle8,f1,f2⟩;obtain⟨j1,j2,j3⟩:=hA8.one;have mc8:M8.get (c+2)=some (au 31 [y0,y1,va',vp',vi',v]):=(f1 _ (by omega)).trans ((gZ.old _ (by omega)).trans b25);have st8:=bS mc8 5 [wv'] (by simp) j3;have ho8:over [y0,y1,va',vp',vi',v] 5 [wv']=[y0,y1,va',vp',vi',wv']:=rfl;rw[ho8]at st8;have Yh:cO F (M8.set (c+2) (au 31 [y0,y1,va',vp',vi',wv'])) c8:=ok8.put (by omega) mc8;have f9:=Yh.free;simp only[WX,B6,j2,st8,q8];refine⟨s.ys.length-(i+1),by omega,(hI _ _).2 ⟨i+1,_,wv',_,(X1 (G2 (G1 (X1 (G1 (bH (cw (cj (X8 (X1 [])))))))))),rfl,hlt,rfl,Yh,by omega,fun x hx hx2=>(az _ _ hx2).trans ((f1 x hx).trans ((gZ.old x (by omega)).trans ((h25 x (by omega)).trans (hold x hx hx2)))),am _ _ _,?_⟩⟩;rw[htk];exact hA8.keep (ak _) fun x x1 x2=>az _ _ (by omega)
 ·obtain rfl:i=s.ys.length:=by omega
  have d1:decide ((s.ys.length:Int)<(s.ys.length:Int))=false:=ah (by omega);rw[List.take_length]at hA;simp only[WX,a01,a02,k5,np,d1];rw[←bP];exact hQ (X1 (G2 (G1 (bH (cw (cj (X8 (X2 (X1 []))))))))) _ _ _ ok2 hc2 hold b2' hA
theorem gh.kp{lo:Nat}(h:gh F M lo c sz v es)(hc:c≤c')(hM:∀b,lo≤b→b<c→M'.get b=M.get b):bG F M' c' sz v es:=(h M' hM).upc hc
theorem r6(h:Φ 6=some c6)(ok:cO F M c)(hs:qV F M c va vp vi vt s)(z1:s.ac.length≤900000)(z2:s.pg.length≤900000)(z3:s.ini.length≤900000)(z4:s.ys.length≤900000)(hp:∀p∈s.pg,p.length≤900000)(hy:∀y∈s.ys,y.dt.length≤900000∧y.ls.length≤900000):
 Calls Φ F 6 [.g [.i .i64 s.fr,.i .i64 s.se,va,vp,vi,vt]] M c fun r M' c'=>∃va' vp' vi' vt',r= .g [.i .i64 s.fr,.i .i64 s.se,va',vp',vi',vt']∧Gr c M c' M'∧qV F M' c' va' vp' vi' vt' s:=by
 refine ax h ?_
 obtain⟨o1,o2,o3⟩:=aK hs.1
 obtain⟨ep,sp,_⟩:=id hs.2.1
 obtain⟨p1,p2,p3⟩:=aK sp
 obtain⟨q1,q2,q3⟩:=aK hs.2.2.1
 obtain⟨et,st,_⟩:=id hs.2.2.2
 obtain⟨t1,t2,t3⟩:=aK st
 have gX:=(((Gr.refl ok).set c (au 31 [.i .i64 s.fr,.i .i64 s.se,va,vp,vi,vt]) (ak _) (aD _) (aA _)).set (c+1) (au 31 [.i .i64 0,.i .i64 0,.l0,.l0,.l0,.l0]) (by omega) (by omega) (aA _)).set (c+2) (au 31 [.i .i64 s.fr,.i .i64 s.se,va,vp,vi,vt]) (by omega) (by omega) (aA _)
 have m0:(((M.set c (au 31 [.i .i64 s.fr,.i .i64 s.se,va,vp,vi,vt])).set (c+1) (au 31 [.i .i64 0,.i .i64 0,.l0,.l0,.l0,.l0])).set (c+2) (au 31 [.i .i64 s.fr,.i .i64 s.se,va,vp,vi,vt])).get c=some (au 31 [.i .i64 s.fr,.i .i64 s.se,va,vp,vi,vt]):=by rw[az _ _ (by omega),az _ _ (by omega),am]
 have m1:(((M.set c (au 31 [.i .i64 s.fr,.i .i64 s.se,va,vp,vi,vt])).set (c+1) (au 31 [.i .i64 0,.i .i64 0,.l0,.l0,.l0,.l0])).set (c+2) (au 31 [.i .i64 s.fr,.i .i64 s.se,va,vp,vi,vt])).get (c+1)=some (au 31 [.i .i64 0,.i .i64 0,.l0,.l0,.l0,.l0]):=by rw[az _ _ (by omega),am]
 have m2:(((M.set c (au 31 [.i .i64 s.fr,.i .i64 s.se,va,vp,vi,vt])).set (c+1) (au 31 [.i .i64 0,.i .i64 0,.l0,.l0,.l0,.l0])).set (c+2) (au 31 [.i .i64 s.fr,.i .i64 s.se,va,vp,vi,vt])).get (c+2)=some (au 31 [.i .i64 s.fr,.i .i64 s.se,va,vp,vi,vt]):=am _ _ _
 have hall:bj [.i .i64 s.fr,.i .i64 s.se,va,vp,vi,vt]=true:=by simp only[d8,o1,p1,q1,t1];rfl
 have hG:flatten (V.g [.i .i64 s.fr,.i .i64 s.se,va,vp,vi,vt])=[.i .i64 s.fr,.i .i64 s.se,va,vp,vi,vt]:=rfl
 have bA:((M.set c (au 31 [.i .i64 s.fr,.i .i64 s.se,va,vp,vi,vt])).set (c+1) (au 31 [.i .i64 0,.i .i64 0,.l0,.l0,.l0,.l0])).get c=some (au 31 [.i .i64 s.fr,.i .i64 s.se,va,vp,vi,vt]):=by rw[az _ _ (by omega),am]
 have ldA:loadN F ((M.set c (au 31 [.i .i64 s.fr,.i .i64 s.se,va,vp,vi,vt])).set (c+1) (au 31 [.i .i64 0,.i .i64 0,.l0,.l0,.l0,.l0])) c 0 6=some [.i .i64 s.fr,.i .i64 s.se,va,vp,vi,vt]:=lK bA 6 rfl
 have hov:over [V.i .i64 0,.i .i64 0,.l0,.l0,.l0,.l0] 0 [.i .i64 s.fr,.i .i64 s.se,va,vp,vi,vt]=[.i .i64 s.fr,.i .i64 s.se,va,vp,vi,vt]:=rfl
 simp only[WX,Nat.reduceAdd,Nat.reduceLeDiff,e6,d13,d16,bw3,hall,hG,ldA,hov]
 have gX:Gr c M (c+3) (((M.set c (au 31 [.i .i64 s.fr,.i .i64 s.se,va,vp,vi,vt])).set (c+1) (au 31 [.i .i64 0,.i .i64 0,.l0,.l0,.l0,.l0])).set (c+2) (au 31 [.i .i64 s.fr,.i .i64 s.se,va,vp,vi,vt])):=gX
 generalize(((M.set c (au 31 [.i .i64 s.fr,.i .i64 s.se,va,vp,vi,vt])).set (c+1) (au 31 [.i .i64 0,.i .i64 0,.l0,.l0,.l0,.l0])).set (c+2) (au 31 [.i .i64 s.fr,.i .i64 s.se,va,vp,vi,vt]))=X at gX m0 m1 m2⊢
 have okX:=gX.ok ok
 have l2:load1 F X c 2=some va:=aj m0 2
 simp only[WX,d19,l2]
 refine aw ((eH (bytes:=24) (cA.nil (c0:=c+3) (b:=c+3)) (Gr.refl okX) (by decide) (hs.1.grow gX) (t4 s.ac) (db (by rw[aL,bo];omega) (by rw[aL,bo];omega))).mono ?_)
 rintro va' N1 c1 ⟨ba,hPa,gN1,hle1,_,_⟩
 rw[List.nil_append]at hPa
 have hWa:gh F N1 (c+3) c1 3 va' (cY s.ac):=hPa.own
 obtain⟨z1',z2',z3'⟩:=aK hWa.sl
 have cW:=gN1.ok okX
 have m2a:=(gN1.old (c+2) (by omega)).trans m2
 have st1:=bS m2a 2 [va'] (by simp) z3'
 have ho1:over [.i .i64 s.fr,.i .i64 s.se,va,vp,vi,vt] 2 [va']=[.i .i64 s.fr,.i .i64 s.se,va',vp,vi,vt]:=rfl
 rw[ho1]at st1
 have ok1a:cO F (N1.set (c+2) (au 31 [.i .i64 s.fr,.i .i64 s.se,va',vp,vi,vt])) c1:=cW.put (by omega) m2a
 have f1a:=ok1a.free
 have st1b:=bS (am N1 (c+2) (au 31 [.i .i64 s.fr,.i .i64 s.se,va',vp,vi,vt])) 3 [.l0] (by simp) rfl
 have ho1b:over [.i .i64 s.fr,.i .i64 s.se,va',vp,vi,vt] 3 [V.l0]=[.i .i64 s.fr,.i .i64 s.se,va',.l0,vi,vt]:=rfl
 rw[ho1b]at st1b
 have ok1b:cO F ((N1.set (c+2) (au 31 [.i .i64 s.fr,.i .i64 s.se,va',vp,vi,vt])).set (c+2) (au 31 [.i .i64 s.fr,.i .i64 s.se,va',.l0,vi,vt])) c1:=ok1a.put (by omega) (am _ _ _)
 have f1b:=ok1b.free
 simp only[WX,d20,z2',st1,st1b]
 have h2:∀x,x≠c+2→((N1.set (c+2) (au 31 [.i .i64 s.fr,.i .i64 s.se,va',vp,vi,vt])).set (c+2) (au 31 [.i .i64 s.fr,.i .i64 s.se,va',.l0,vi,vt])).get x=N1.get x:=fun x hx=>(az _ _ hx).trans (az _ _ hx)
 have m22:=am (N1.set (c+2) (au 31 [.i .i64 s.fr,.i .i64 s.se,va',vp,vi,vt])) (c+2) (au 31 [.i .i64 s.fr,.i .i64 s.se,va',.l0,vi,vt])
 generalize((N1.set (c+2) (au 31 [.i .i64 s.fr,.i .i64 s.se,va',vp,vi,vt])).set (c+2) (au 31 [.i .i64 s.fr,.i .i64 s.se,va',.l0,vi,vt]))=N2 at ok1b h2 m22⊢
 have g2:Gr c M c1 N2:=⟨by omega,fun x hx=>(h2 x (by omega)).trans ((gN1.old x (by omega)).trans (gX.old x hx)),ok1b.hiM⟩
 have m02:=(h2 c (by omega)).trans ((gN1.old c (by omega)).trans m0)
 have m12:=(h2 (c+1) (by omega)).trans ((gN1.old (c+1) (by omega)).trans m1)
 refine dC4 hs.2.1 ok1b (ak _) g2 (by omega) m02 m22 (by simp only[d8,z1',q1,t1];rfl) z2 hp (X1 (G2 (G1 (bH (cw (cj (X8 (X2 (X1 []))))))))) _ ?_
 intro u vp' N3 c3 uZ hle3 hk3 m23 hAp
 obtain⟨a1,a2,a3⟩:=hAp.one
 have g3:Gr c M c3 N3:=⟨by omega,fun x hx=>(hk3 x (by omega) (by omega)).trans (g2.old x hx),uZ.hiM⟩
 have m03:=(hk3 c (by omega) (by omega)).trans m02
 have m13:=(hk3 (c+1) (by omega) (by omega)).trans m12
 have l4:load1 F N3 c 4=some vi:=aj m03 4
 simp only[WX,bv5,l4]
 refine aw ((eH (bytes:=1) (cA.nil (c0:=c3) (b:=c3)) (Gr.refl uZ) Nat.one_pos (hs.2.2.1.grow g3) (ly s.ini) (db (by rw[List.length_map,bo];omega) (by rw[List.length_map,bo];omega))).mono ?_)
 rintro vi' N4 c4 ⟨bi,hPi,gN4,hle4,_,_⟩
 rw[List.nil_append]at hPi
 have hWi:gh F N4 c3 c4 1 vi' (s.ini.map fun x=>[bV x]):=hPi.own
 obtain⟨w1,w2,w3⟩:=aK hWi.sl
 have Ye:=gN4.ok uZ
 have m24:=(gN4.old (c+2) (by omega)).trans m23
 have st4:=bS m24 4 [vi'] (by simp) w3
 have ho4:over [.i .i64 s.fr,.i .i64 s.se,va',vp',vi,vt] 4 [vi']=[.i .i64 s.fr,.i .i64 s.se,va',vp',vi',vt]:=rfl
 rw[ho4]at st4
 have ok4a:cO F (N4.set (c+2) (au 31 [.i .i64 s.fr,.i .i64 s.se,va',vp',vi',vt])) c4:=Ye.put (by omega) m24
 have f4a:=ok4a.free
 have st4b:=bS (am N4 (c+2) (au 31 [.i .i64 s.fr,.i .i64 s.se,va',vp',vi',vt])) 5 [.l0] (by simp) rfl
 have ho4b:over [.i .i64 s.fr,.i .i64 s.se,va',vp',vi',vt] 5 [V.l0]=[.i .i64 s.fr,.i .i64 s.se,va',vp',vi',.l0]:=rfl
 rw[ho4b]at st4b
 have ok4b:cO F ((N4.set (c+2) (au 31 [.i .i64 s.fr,.i .i64 s.se,va',vp',vi',vt])).set (c+2) (au 31 [.i .i64 s.fr,.i .i64 s.se,va',vp',vi',.l0])) c4:=ok4a.put (by omega) (am _ _ _)
 have f4b:=ok4b.free
 simp only[WX,bv6,w2,st4,st4b]
 have h5:∀x,x≠c+2→((N4.set (c+2) (au 31 [.i .i64 s.fr,.i .i64 s.se,va',vp',vi',vt])).set (c+2) (au 31 [.i .i64 s.fr,.i .i64 s.se,va',vp',vi',.l0])).get x=N4.get x:=fun x hx=>(az _ _ hx).trans (az _ _ hx)
 have m25:=am (N4.set (c+2) (au 31 [.i .i64 s.fr,.i .i64 s.se,va',vp',vi',vt])) (c+2) (au 31 [.i .i64 s.fr,.i .i64 s.se,va',vp',vi',.l0])
 generalize((N4.set (c+2) (au 31 [.i .i64 s.fr,.i .i64 s.se,va',vp',vi',vt])).set (c+2) (au 31 [.i .i64 s.fr,.i .i64 s.se,va',vp',vi',.l0]))=N5 at ok4b h5 m25⊢
 have g5:Gr c M c4 N5:=⟨by omega,fun x hx=>(h5 x (by omega)).trans ((gN4.old x (by omega)).trans (g3.old x hx)),ok4b.hiM⟩
 have m05:=(h5 c (by omega)).trans ((gN4.old c (by omega)).trans m03)
 have m15:=(h5 (c+1) (by omega)).trans ((gN4.old (c+1) (by omega)).trans m13)
 refine dC3 hs.2.2.2 ok4b (ak _) g5 (by omega) m05 m25 z4 hy (X1 (G2 (G1 (bH (cw (cj (X8 (X2 (X1 []))))))))) _ ?_
 intro u vt' N6 c6 ok6 hle6 hk6 m26 hAt
 obtain⟨d1,d2,d3⟩:=hAt.one
 have ld6:loadN F N6 (c+2) 0 6=some [.i .i64 s.fr,.i .i64 s.se,va',vp',vi',vt']:=lK m26 6 rfl
 have m16:=(hk6 (c+1) (by omega) (by omega)).trans m15
 have hall6:bj [.i .i64 s.fr,.i .i64 s.se,va',vp',vi',vt']=true:=by simp only[d8,z1',a1,w1,d1];rfl
 have hG6:flatten (V.g [.i .i64 s.fr,.i .i64 s.se,va',vp',vi',vt'])=[.i .i64 s.fr,.i .i64 s.se,va',vp',vi',vt']:=rfl
 have st6:=bS m16 0 [.i .i64 s.fr,.i .i64 s.se,va',vp',vi',vt'] (by simp) hall6
 have ho6:over [V.i .i64 0,.i .i64 0,.l0,.l0,.l0,.l0] 0 [.i .i64 s.fr,.i .i64 s.se,va',vp',vi',vt']=[.i .i64 s.fr,.i .i64 s.se,va',vp',vi',vt']:=rfl
 rw[ho6]at st6
 have Yg:cO F (N6.set (c+1) (au 31 [.i .i64 s.fr,.i .i64 s.se,va',vp',vi',vt'])) c6:=ok6.put (by omega) m16
 have f7:=Yg.free
 have ld7:loadN F (N6.set (c+1) (au 31 [.i .i64 s.fr,.i .i64 s.se,va',vp',vi',vt'])) (c+1) 0 6=some [.i .i64 s.fr,.i .i64 s.se,va',vp',vi',vt']:=lK (am _ _ _) 6 rfl
 simp only[WX,Nat.reduceAdd,B6,ld6,hG6,st6,ld7]
 have K6:∀x,c+3≤x→x<c4→(N6.set (c+1) (au 31 [.i .i64 s.fr,.i .i64 s.se,va',vp',vi',vt'])).get x=N4.get x:=fun x x1 x2=>(az _ _ (by omega)).trans ((hk6 x x2 (by omega)).trans (h5 x (by omega)))
 refine⟨va',vp',vi',vt',rfl,⟨by omega,fun x hx=>(az _ _ (by omega)).trans ((hk6 x (by omega) (by omega)).trans (g5.old x hx)),Yg.hiM⟩,?_,?_,?_,?_⟩
 ·exact hWa.kp (by omega) fun x x1 x2=>(K6 x x1 (by omega)).trans ((gN4.old x (by omega)).trans ((hk3 x x2 (by omega)).trans (h2 x (by omega))))
 ·exact(hAp.keep (by omega) fun x x1 x2=>(K6 x (by omega) (by omega)).trans (gN4.old x x2)).els fun M c c' e a q1 q2=>PgR.upc q1 e a q2
 ·exact hWi.kp (by omega) fun x x1 x2=>K6 x (by omega) x2
 ·have:=(hAt.keep (M':=N6.set (c+1) (au 31 [.i .i64 s.fr,.i .i64 s.se,va',vp',vi',vt'])) (ak _) fun x x1 x2=>az _ _ (by omega)).els (F:=F) fun M c c' e a q1 q2=>AcR.upc q1 e a q2;exact this
abbrev cR2(u:List (Option V))(x2 x3 x4 x5 x6 x7:V):T:=(.n (.n (.n (.n (aq u 63 31 95 15 79 47 111) (some x7) (aq u 71 39 103 23 87 55 119)) (some x3) (.n (aq u 67 35 99 19 83 51 115) (uO u 11) (aq u 75 43 107 27 91 59 123))) (uO u 1) (.n (.n (aq u 65 33 97 17 81 49 113) (uO u 9) (aq u 73 41 105 25 89 57 121)) (some x5) (.n (aq u 69 37 101 21 85 53 117) (uO u 13) (aq u 77 45 109 29 93 61 125)))) (uO u 0) (.n (.n (.n (aq u 64 32 96 16 80 48 112) (uO u 8) (aq u 72 40 104 24 88 56 120)) (some x4) (.n (aq u 68 36 100 20 84 52 116) (uO u 12) (aq u 76 44 108 28 92 60 124))) (some x2) (.n (.n (aq u 66 34 98 18 82 50 114) (uO u 10) (aq u 74 42 106 26 90 58 122)) (some x6) (.n (aq u 70 38 102 22 86 54 118) (uO u 14) (aq u 78 46 110 30 94 62 126)))))
abbrev cR3(u:List (Option V))(x2 x3 x4 x5 x6 x8:V):T:=(.n (.n (.n (.n (aq u 63 31 95 15 79 47 111) (uO u 7) (aq u 71 39 103 23 87 55 119)) (some x3) (.n (aq u 67 35 99 19 83 51 115) (uO u 11) (aq u 75 43 107 27 91 59 123))) (uO u 1) (.n (.n (aq u 65 33 97 17 81 49 113) (uO u 9) (aq u 73 41 105 25 89 57 121)) (some x5) (.n (aq u 69 37 101 21 85 53 117) (uO u 13) (aq u 77 45 109 29 93 61 125)))) (uO u 0) (.n (.n (.n (aq u 64 32 96 16 80 48 112) (some x8) (aq u 72 40 104 24 88 56 120)) (some x4) (.n (aq u 68 36 100 20 84 52 116) (uO u 12) (aq u 76 44 108 28 92 60 124))) (some x2) (.n (.n (aq u 66 34 98 18 82 50 114) (uO u 10) (aq u 74 42 106 26 90 58 122)) (some x6) (.n (aq u 70 38 102 22 86 54 118) (uO u 14) (aq u 78 46 110 30 94 62 126)))))
def aQ5:CC:=(.reg [(aa a2 (.bx 28 5 z0)),(aa a3 (.bx 28 5 z1)),(qq a4 (.mv xF))])
def bt8:=wu aQ5.eq_1
def aQ6:CC:=(.dreg 8 [(0,0,(qq a9 (.fa 0 z2))),(1,1,(qq dp (.ldn 4 z9))),(2,0,(qq dk (.fa 0 z3))),(3,4,(qq dy (.ldn 4 dC))),(4,0,(aa a5 (.al 25 [(.i .i64 0),(.i .i64 0),.l0,.l0]))),(5,0,(aa a6 (.al 25 [(.i .i64 0),(.i .i64 0),.l0,.l0]))),(6,51,(ez (.st 4 z5 dx))),(7,127,(ez (.st 4 z6 dX)))])
def bt9:=wu aQ6.eq_1
def aQ7:CC:=(.reg [(qq dN (.fa 0 z5)),(qq dL (.ld1 dG)),(qq dS (.fa 0 z6)),(qq dY (.ld1 dM)),(qq eE (.bi .neq eu eF)),(qq dT (.mv eD)),(aH eG (.fa 1 z5) dT),(aH fF (.ld1 fS) dT),(aH eR (.fa 1 z6) dT),(aH fv (.ld1 gv) dT),(aH fl (.bi .neq fD gb) dT),(qq dU (.pk fm xT gH)),(qq eV (.mv gM)),(aH eb (.fa 2 z5) eV),(aH fG (.ld1 gw) eV),(aH gi (.ln .slice gy) eV),(aH gg (.fa 2 z6) eV),(aH gQ (.ld1 iA) eV),(aH j4 (.ln .slice iE) eV),(aH gj (.bi .neq iz jh) eV),(qq iG (.pk gO xT jL)),(qq fT (.mv kz)),(aH j5 (.fa 3 z5) fT),(aH kv (.ld1 kD) fT),(aH jq (.ln .slice ll) fT),(aH gR (.fa 3 z6) fT),(aH j6 (.ld1 kW) fT),(aH jr (.ln .slice lh) fT),(aH kF (.bi .neq kr lm) fT),(qq jM (.pk kC xT lq)),(qq j7 (.mv lr)),(aH ky (.fa 4 z2) j7),(aH js (.ld1 ny) j7),(aH kX (.bs nG) j7),(aH kY (.fa 4 z3) j7),(aH kB (.ld1 nA) j7),(aH iB (.bs oE) j7),(aH nC (.bi .neq oD nH) j7),(qq kG (.pk mW xT oF))])
def bu0:=wu aQ7.eq_1
def aQ8:CC:=(.reg [(qq a4 (.mv xF))])
def cW0:=wu aQ8.eq_1
def aQ9:CC:=(.cond pl (.seq aQ8 .ret) .skip)
def bu1:=wu aQ9.eq_1
def aR0:CC:=(.reg [(qq a7 (.mv (x6 0)))])
def bu2:=wu aR0.eq_1
def aR1:CC:=(.reg [(qq kH (.mv z7)),(qq j8 (.fa 2 z5)),(qq nK (.ld1 pm)),(qq nL (.ln .slice pU)),(qq kI (.bi .lss pS qO))])
def cW1:=wu aR1.eq_1
def aR2:CC:=(.seq aR1 (.cond pn .skip (.exit 0)))
def cW2:=wu aR2.eq_1
def aR3:CC:=(.dreg 11 [(0,0,(qq qa (.fa 2 z5))),(1,1,(qq oI (.ld1 sB))),(2,0,(qq qb (.mv z7))),(3,7,(qq pq (.iaS 3 sw ug))),(4,15,(qq pj (.ldn 3 sy))),(5,0,(qq qc (.fa 2 z6))),(6,32,(qq qd (.ld1 yA))),(7,0,(qq tG (.mv z7))),(8,224,(qq tH (.iaS 3 uM vn))),(9,480,(qq qQ (.ldn 3 xX))),(10,1023,(qq um (.eq true (.agg [(0,.int),(1,.int),(2,.int)]) false tC xY)))])
def cW3:=wu aR3.eq_1
def Tl:CC:=(.reg [(qq a4 (.mv xF))])
def bV8:=wu Tl.eq_1
def Tm:CC:=(.cond ya (.seq Tl .ret) .skip)
def bV9:=wu Tm.eq_1
def Tp:CC:=(.reg [(qq lx (.mv z7)),(qq lT (.bi .add qT (x6 1))),(qq a7 (.mv qU))])
def bW0:=wu Tp.eq_1
def Tq:CC:=(.loop (.seq aR2 (.seq (.block 1 (.seq aR3 Tm)) Tp)))
def ZP:=wu Tq.eq_1
def Ts:CC:=(.reg [(qq a8 (.mv (x6 0)))])
def bW1:=wu Ts.eq_1
def Tt:CC:=(.reg [(qq uo (.mv z8)),(qq qX (.fa 3 z5)),(qq vE (.ld1 yc)),(qq y6 (.ln .slice Bz)),(qq y7 (.bi .lss yb zL))])
def bW2:=wu Tt.eq_1
def Tu:CC:=(.cond BB .skip (.exit 2))
def bW3:=wu Tu.eq_1
def Tv:CC:=(.dreg 13 [(0,0,(qq zT (.fa 3 z5))),(1,1,(qq BN (.ld1 Dp))),(2,0,(qq Gx (.mv z8))),(3,7,(qq Dl (.iaS 1 Gq z79))),(4,15,(qq O3 (.ld1 z80))),(5,31,(qq O4 (.bs z81))),(6,0,(qq O5 (.fa 3 z6))),(7,64,(qq vF (.ld1 z83))),(8,0,(qq O6 (.mv z8))),(9,448,(qq O7 (.iaS 1 z84 z85))),(10,960,(qq Ls (.ld1 z86))),(11,1984,(qq O8 (.bs z87))),(12,4095,(qq zU (.bi .neq z82 z88)))])
def bW4:=wu Tv.eq_1
def Tw:CC:=(.reg [(qq a4 (.mv xF))])
def bW5:=wu Tw.eq_1
def Tx:CC:=(.cond z89 (.seq Tw .ret) .skip)
def bW6:=wu Tx.eq_1
def Tz:CC:=(.reg [(qq yl (.mv z8)),(qq y8 (.bi .add BC (x6 1))),(qq a8 (.mv BD))])
def bW7:=wu Tz.eq_1
def TA:CC:=(.seq (.seq Tt Tu) (.seq (.block 3 (.seq Tv Tx)) Tz))
def bW8:=wu TA.eq_1
def TB:CC:=(.reg [(qq a4 (.mv xT))])
def bW9:=wu TB.eq_1
def TC:CC:=(.seq (.seq Ts (.block 2 (.loop TA))) (.seq TB .ret))
def bX0:=wu TC.eq_1
def TD:CC:=(.seq (.seq aQ7 aQ9) (.seq (.seq aR0 (.block 0 Tq)) TC))
def ZQ:=wu TD.eq_1
def c30:CF:= .mk 7 [.t a4] (.seq aQ5 (.seq aQ6 TD))
theorem e30(v0 v1:V):aU 7 [v0,v1]=(.n (.n mM (some v1) mM) (some v0) sc):=rfl
def B30:=ai @e30 (ai @bt8 (ai @bt9 (ai @bu0 (ai @cW0 (ai @bu1 (ai @bu2 (ai @cW1 (ai @cW2 (ai @cW3 (ai @bV8 (ai @bV9 (ai @bW0 (ai @ZP (ai @bW1 (ai @bW2 (ai @bW3 (ai @bW4 (ai @bW5 (ai @bW6 (ai @bW7 (ai @bW8 (ai @bW9 (ai @bX0 (@ZQ))))))))))))))))))))))))
theorem bD5(a b:List UInt8)(M:Mem):WG .neq (sV a) (sV b) F M=oV (bX .neq (sV a) (sV b)):=by
 refine(ij ?_).trans (congrArg oV (aB0 (F:=F) .neq _ _ M .e))
 intro F' M'
 exact cR9 _
def bsQ(X:V)(F:RO)(M:Mem):QR:=oM (.bs (.c X)) F M .e
theorem bG7(x:X)(M:Mem)(t:T):oM (.bs x) F M t=bsQ (x.ev t) F M:=Eq.trans rfl (Eq.refl _)
theorem cw5(h0:l≠[])(h:cK F M b o (l.map bV)):readB F M 1 l.length b o=some (l.map bV,some b):=by
 unfold readB
 rw[bK,ah (fun e=>h0 (List.length_eq_zero_iff.1 e)),cond_false]
 have:=h.load (fun e=>h0 (List.map_eq_nil_iff.1 e))
 rw[List.length_map]at this
 show(match loadN F M b o (l.length*1)with|some vs=>some (vs,some b)|none=>none)=_
 rw[Nat.mul_one,this]
theorem bl3(b:Nat):wX (some b) (ff (l.map bV))= .r (sV l) b:=by
 rw[rj]
 show(fN l.length fun n=>fN (cN l) fun s=>QR.r (.s n s) b)=_
 rw[b9,b9];rfl
theorem WP(h:fC F M c v l):bsQ v F M= .v (sV l)∨ ∃b,bsQ v F M= .r (sV l) b:=by
 by_cases h0:l=[]
 ·subst h0;left;rcases h with⟨_,⟨_,rfl|⟨b,o0,o,rfl⟩⟩|⟨b,o,⟨cap,_,rfl⟩|⟨el,kn,_,rfl⟩,_⟩⟩<;>exact Eq.trans rfl (Eq.refl _)
 ·right;rcases h with⟨_,⟨e,_⟩|⟨b,o,hv,_,hc⟩⟩
  ·exact absurd (List.map_eq_nil_iff.1 e) h0
  ·rw[gK]at hc;rw[List.length_map]at hv;have key:∀(F':RO) (M':Mem),cK F' M' b o (l.map bV)→dh (.bs (.c v)) F' M' .e= .r (sV l) b:=by
    intro F' M' h';have hr:=cw5 h0 h';rcases hv with⟨cap,_,rfl⟩|⟨el,kn,_,rfl⟩
    ·show(match readB F' M' 1 l.length b o with|some (vs,b)=>wX b (ff vs)|none=>QR.f)=_;rw[hr];exact bl3 b
    ·show(match readB F' M' 1 l.length b o with|some (vs,b)=>wX b (ff vs)|none=>QR.f)=_;rw[hr];exact bl3 b
   refine⟨b,?_⟩;show EA (.bs (.c v)) F M .e (dh (.bs (.c v)) F M .e)=_;rw[key F M hc];show Xf (.bs (.c v)) .e b (look F M b)=_;cases hl:look F M b with
   |none=>
    have h1:=hc 0 (by rw[List.length_map];exact List.length_pos_iff.2 h0);unfold load1 at h1;rw[hl]at h1;have h1:none=(l.map bV)[0]?:=h1;rw[List.getElem?_eq_getElem (by rw[List.length_map];exact List.length_pos_iff.2 h0)]at h1;cases h1
   |some blk=>
    show CJ b (dh (.bs (.c v)) [(b,blk)] .e .e)=_;have hlk:look [(b,blk)] .e b=look F M b:=by
     rw[hl];refine pG (.inr ⟨Tr.get_e b,?_⟩);show Bool.rec (be [] b) (some blk) (Nat.beq b b)=some blk;rw[Nat.beq_refl]
    rw[key [(b,blk)] .e (fun k hk=>by
     have:=hc k hk;unfold load1 at this⊢;rw[hlk];exact this)]
    rfl
theorem r30(h:Φ 30=some c30){va' vp' vi':V}(ok:cO F M c)(ha:bG F M c 3 va (cY s.ac))(hp:cH F M c vp s.pg)(hi:fC F M c vi s.ini)(ha':bG F M c 3 va' (cY s.ac))(hp':cH F M c vp' s.pg)(hi':fC F M c vi' s.ini)(z1:s.ac.length≤900000)(z2:s.pg.length≤900000)(z3:s.ini.length≤900000)(zp:∀p∈s.pg,p.length≤900000):
 Calls Φ F 30 [.g [.i .i64 s.fr,.i .i64 s.se,va,vp,vi],.g [.i .i64 s.fr,.i .i64 s.se,va',vp',vi']] M c fun r M' c'=>r= .b true∧Gr c M c' M':=by
 refine ax h ?_
 obtain⟨o1,o2,o3⟩:=aK ha
 obtain⟨ep,sp,_⟩:=id hp
 obtain⟨p1,p2,p3⟩:=aK sp
 obtain⟨q1,q2,q3⟩:=aK hi
 obtain⟨o1',o2',o3'⟩:=aK ha'
 obtain⟨ep',sp',_⟩:=id hp'
 obtain⟨p1',p2',p3'⟩:=aK sp'
 obtain⟨q1',q2',q3'⟩:=aK hi'
 have g1:=(Gr.refl ok).set c (au 28 [.i .i64 s.fr,.i .i64 s.se,va,vp,vi]) (ak _) (aD _) (aA _)
 have g2:=g1.set (c+1) (au 28 [.i .i64 s.fr,.i .i64 s.se,va',vp',vi']) (by omega) (aD _) (aA _)
 have b0:((M.set c (au 28 [.i .i64 s.fr,.i .i64 s.se,va,vp,vi])).set (c+1) (au 28 [.i .i64 s.fr,.i .i64 s.se,va',vp',vi'])).get c=some (au 28 [.i .i64 s.fr,.i .i64 s.se,va,vp,vi]):=(az _ _ (by omega)).trans (am _ _ _)
 have b1:((M.set c (au 28 [.i .i64 s.fr,.i .i64 s.se,va,vp,vi])).set (c+1) (au 28 [.i .i64 s.fr,.i .i64 s.se,va',vp',vi'])).get (c+1)=some (au 28 [.i .i64 s.fr,.i .i64 s.se,va',vp',vi']):=am _ _ _
 simp only[WX,Nat.reduceAdd,e30,bt8,o1,p1,q3,o1',p1',q3']
 generalize(M.set c (au 28 [.i .i64 s.fr,.i .i64 s.se,va,vp,vi])).set (c+1) (au 28 [.i .i64 s.fr,.i .i64 s.se,va',vp',vi'])=M1 at g2 b0 b1⊢
 have g2:Gr c M (c+2) M1:=g2
 have cW:=g2.ok ok
 have ldA:loadN F M1 c 0 4=some [.i .i64 s.fr,.i .i64 s.se,va,vp]:=da b0 [.i .i64 s.fr,.i .i64 s.se,va,vp] [vi] rfl (by simp)
 have ldB:loadN F M1 (c+1) 0 4=some [.i .i64 s.fr,.i .i64 s.se,va',vp']:=da b1 [.i .i64 s.fr,.i .i64 s.se,va',vp'] [vi'] rfl (by simp)
 have fr1:=cW.free
 simp only[WX,Nat.reduceAdd,bt9,ldA,ldB]
 have lk1:(look F M1 (c+6)).isNone=true:=by rw[cW.look (by omega)];rfl
 have lk2:(look F M1 (c+7)).isNone=true:=by rw[cW.look (by omega)];rfl
 have rf1:cG (c+6) [(3,c+1),(1,c)]=true:=by rw[cg _ _ _ _ (by omega),cg _ _ _ _ (by omega),ek]
 have rf2:cG (c+7) [(3,c+1),(1,c)]=true:=by rw[cg _ _ _ _ (by omega),cg _ _ _ _ (by omega),ek]
 simp only[WX,Nat.reduceAdd,lk1,lk2,rf1,rf2,Ge,wV]
 have T1:testBit 51 5=true:=by decide
 have T2:testBit 51 4=true:=by decide
 obtain⟨Z,hZ⟩:∃Z:List V,Z=[V.i IntKind.i64 0,V.i IntKind.i64 0,V.l0,V.l0]:=⟨_,rfl⟩
 have lZ:Z.length=4:=by rw[hZ];rfl
 rw[←hZ]
 have gA:Gr (c+2) M1 (c+10) ((M1.set (c+7) (au 25 Z)).set (c+6) (au 25 Z)):=((Gr.refl cW).set (c+7) _ (by omega) (show c+7<c+10 by omega) (by omega)).set (c+6) _ (by omega) (by omega) (ak _)
 have al1:bj [V.i .i64 s.fr,.i .i64 s.se,va,vp]=true:=by simp only[d8,o1,p1];rfl
 have al2:bj [V.i .i64 s.fr,.i .i64 s.se,va',vp']=true:=by simp only[d8,o1',p1'];rfl
 refine bx5 (M1:=(M1.set (c+7) (au 25 Z)).set (c+6) (au 25 Z)) (b:=c+6) (ty:=25) (z:=Z) (e:=[V.i .i64 s.fr,.i .i64 s.se,va,vp]) _ _ _ _ _ _ _ _ _ _ _ _ _ (by simp only[List.all_cons,List.all_nil,T1,T2,Bool.and_self]) (by rw[gn,gn,mt]) (am _ _ _) rfl rfl al1 rfl lZ rf1 (gA.ok cW).free ?_
 intro N1 hN1
 have gN1:Gr (c+2) M1 (c+10) N1:=⟨by omega,fun x hx=>by rw[hN1,az _ _ (by omega)];exact gA.old x hx,fun x hx=>by rw[hN1,az _ _ (by omega)];exact gA.new x hx⟩
 refine bx5 (M1:=N1) (b:=c+7) (ty:=25) (z:=Z) (e:=[V.i .i64 s.fr,.i .i64 s.se,va',vp']) _ _ _ _ _ _ _ _ _ _ _ _ _ rfl (mt _) (by rw[hN1,az _ _ (by omega),az _ _ (by omega)];exact am _ _ _) rfl rfl al2 rfl lZ rf2 (gN1.ok cW).free ?_
 intro N2 hN2
 have gN2:Gr (c+2) M1 (c+10) N2:=⟨by omega,fun x hx=>by rw[hN2,az _ _ (by omega)];exact gN1.old x hx,fun x hx=>by rw[hN2,az _ _ (by omega)];exact gN1.new x hx⟩
 have ma:N2.get (c+6)=some (au 25 [V.i .i64 s.fr,.i .i64 s.se,va,vp]):=by rw[hN2,az _ _ (by omega),hN1];exact am _ _ _
 have mb:N2.get (c+7)=some (au 25 [V.i .i64 s.fr,.i .i64 s.se,va',vp']):=by rw[hN2];exact am _ _ _
 have m0:=(gN2.old c (by omega)).trans b0
 have m1:=(gN2.old (c+1) (by omega)).trans b1
 have gT:=g2.trans gN2
 have okN:=gT.ok ok
 clear hN1 hN2 gN1 gA
 have haX:=ha.grow gT
 have hpX:=hp.grow gT
 have hiX:fC F N2 (c+10) vi s.ini:=hi.grow gT
 have haX':=ha'.grow gT
 have hpX':=hp'.grow gT
 have hiX':fC F N2 (c+10) vi' s.ini:=hi'.grow gT
 have l0:load1 F N2 (c+6) 0=some (.i .i64 s.fr):=aj ma 0
 have l1:load1 F N2 (c+6) 1=some (.i .i64 s.se):=aj ma 1
 have l2:load1 F N2 (c+6) 2=some va:=aj ma 2
 have l3:load1 F N2 (c+6) 3=some vp:=aj ma 3
 have k0:load1 F N2 (c+7) 0=some (.i .i64 s.fr):=aj mb 0
 have k1:load1 F N2 (c+7) 1=some (.i .i64 s.se):=aj mb 1
 have k2:load1 F N2 (c+7) 2=some va':=aj mb 2
 have k3:load1 F N2 (c+7) 3=some vp':=aj mb 3
 have i4:load1 F N2 c 4=some vi:=aj m0 4
 have i4':load1 F N2 (c+1) 4=some vi':=aj m1 4
 have d1:decide (s.fr≠s.fr)=false:=ah (by simp)
 have d2:decide (s.se≠s.se)=false:=ah (by simp)
 have e3:=vK s.ini s.ini
 rw[af rfl,Bool.not_true]at e3
 have bs1:=ri hiX
 have bs2:=ri hiX'
 have nl:=haX.len
 have nl':=haX'.len
 rw[aL]at nl nl'
 have np:=hpX.len
 have np':=hpX'.len
 have d5:decide ((s.ac.length:Int)≠(s.ac.length:Int))=false:=ah (by simp)
 have d5':decide ((s.pg.length:Int)≠(s.pg.length:Int))=false:=ah (by simp)
 simp only[WX,bu0,bu1,bu2,ZP,ZQ,l0,l1,l2,l3,k0,k1,k2,k3,i4,i4',d1,d2,e3,bs1,bs2,nl,nl',np,np',d5,d5']
 obtain⟨I,hI⟩:∃I:Nat→St→Prop,∀n s',I n s'↔(∃(i c1:Nat) (u:List (Option V)),n=s.ac.length-i∧i≤s.ac.length∧c+10≤c1∧s'= .mk ((cR2 u (.p c 0) (.p (c+1) 0) (.b false) (.p (c+6) 0) (.p (c+7) 0) (.i .i64 (i:Int)))) [] N2 c1):=⟨fun n s'=>_,fun _ _=>Iff.rfl⟩
 refine bD I ?_ s.ac.length _ ((hI _ _).2 ⟨0,c+10,(X2 (G4 (G2 (bH (cw (cj (X4 (X2 (X1 []))))))))),rfl,aE _,ak _,rfl⟩)
 intro n s' hIs
 obtain⟨i,c1,u,rfl,hi1,hc1,rfl⟩:=(hI _ _).1 hIs
 clear hIs
 have q8:bX .add (.i .i64 (i:Int)) (.i .i64 1)=some (.i .i64 ((i+1:Nat):Int)):=by rw[aN _ _ (by omega) (by omega)];simp
 by_cases hlt:i<s.ac.length
 ·have d6:decide ((i:Int)<(s.ac.length:Int))=true:=af (by omega);obtain⟨pb,po,hpb,hia,hld⟩:=haX.at i (by rw[aL];exact hlt);obtain⟨pb',po',hpb',hia',hld'⟩:=haX'.at i (by rw[aL];exact hlt);have hia:=hia .i64;have hia':=hia' .i64;have hge:(cY s.ac)[i]'(by rw[aL];exact hlt)=[.i .i64 s.ac[i].1,.i .i64 s.ac[i].2.1,.i .i64 s.ac[i].2.2]:=List.getElem_map ..;rw[hge]at hld hld';have hld:=hld.load (by simp);have hld':=hld'.load (by simp);generalize s.ac[i]=x at hld hld';obtain⟨x1,x2,x3⟩:=x;have hld:loadN F N2 pb po 3=some [.i .i64 x1,.i .i64 x2,.i .i64 x3]:=hld;have hld':loadN F N2 pb' po' 3=some [.i .i64 x1,.i .i64 x2,.i .i64 x3]:=hld';have y1:decide (x1=x1)=true:=af rfl;have y2:decide (x2=x2)=true:=af rfl;have y3:decide (x3=x3)=true:=af rfl;have hfr:=okN.free;simp only[WX,B30,l2,k2,nl,d6,hia,hia',hld,hld',q8];exact⟨s.ac.length-(i+1),by omega,(hI _ _).2 ⟨i+1,_,(X2 (G4 (G2 (bH (cw (cj (X4 (X2 (X1 []))))))))),rfl,hlt,by omega,rfl⟩⟩
 ·obtain rfl:i=s.ac.length:=by omega
  have d6:decide ((s.ac.length:Int)<(s.ac.length:Int))=false:=ah (by omega);simp only[WX,B30,l2,nl,d6];obtain⟨J,hJ⟩:∃J:Nat→St→Prop,∀n s',J n s'↔(∃(i c1:Nat) (u:List (Option V)),n=s.pg.length-i∧i≤s.pg.length∧c+10≤c1∧s'= .mk ((cR3 u (.p c 0) (.p (c+1) 0) (.b false) (.p (c+6) 0) (.p (c+7) 0) (.i .i64 (i:Int)))) [] N2 c1):=⟨fun n s'=>_,fun _ _=>Iff.rfl⟩
  refine bD J ?_ s.pg.length _ ((hJ _ _).2 ⟨0,c1,(X2 (G4 (G1 (X1 (G1 (bH (cw (cj (X4 (X2 [])))))))))),rfl,aE _,hc1,rfl⟩);clear q8 d6;intro n s' hJs;obtain⟨i,c2,u,rfl,hi2,hc2,rfl⟩:=(hJ _ _).1 hJs;clear hJs;have q8:bX .add (.i .i64 (i:Int)) (.i .i64 1)=some (.i .i64 ((i+1:Nat):Int)):=by rw[aN _ _ (by omega) (by omega)];simp
  by_cases hlt:i<s.pg.length
  ·have d6:decide ((i:Int)<(s.pg.length:Int))=true:=af (by omega);obtain⟨pb,po,w,hpb,hia,hld,sd⟩:=hpX.at i hlt;obtain⟨pb',po',w',hpb',hia',hld',sd'⟩:=hpX'.at i hlt;have e4:=vK s.pg[i] s.pg[i];rw[af rfl,Bool.not_true]at e4;have hfr:=okN.free;rcases WP sd with bs3|⟨r3,bs3⟩<;>rcases WP sd' with bs4|⟨r4,bs4⟩
   all_goals
    simp only[WX,B30,l3,k3,np,d6,hia,hia',hld,hld',bG7,bs3,bs4,e4,bD5,q8];exact⟨s.pg.length-(i+1),by omega,(hJ _ _).2 ⟨i+1,_,(X2 (G4 (G1 (X1 (G1 (bH (cw (cj (X4 (X2 [])))))))))),rfl,hlt,by omega,rfl⟩⟩
  ·obtain rfl:i=s.pg.length:=by omega
   have d6:decide ((s.pg.length:Int)<(s.pg.length:Int))=false:=ah (by omega);simp only[WX,B30,l3,np,d6];exact gT.up (by omega)
def aH4:CC:=(.reg [(aa a2 (.bx 31 6 z0)),(aa a3 (.bx 31 6 z1)),(qq a4 (.mv xF))])
def bq8:=wu aH4.eq_1
def aH5:CC:=(.reg [(qq a6 (.fa 0 z2)),(qq a7 (.ldn 5 z6)),(qq a8 (.fa 0 z3)),(qq a9 (.ldn 5 z8)),(ee dp (.call 30 [z7,z9])),(qq dk (.un .not dx)),(qq dy (.mv dC)),(aH dN (.fa 5 z2) dy),(aH dL (.ld1 dG) dy),(aH dS (.ln .slice eu) dy),(aH dY (.fa 5 z3) dy),(aH eE (.ld1 eF) dy),(aH dT (.ln .slice eD) dy),(aH eG (.bi .neq dM fm) dy),(qq fF (.pk dX xT fS))])
def bq9:=wu aH5.eq_1
def aH6:CC:=(.reg [(qq a4 (.mv xF))])
def cT4:=wu aH6.eq_1
def aH7:CC:=(.seq aH5 (.cond fD (.seq aH6 .ret) .skip))
def br0:=wu aH7.eq_1
def aH8:CC:=(.reg [(qq a5 (.mv (x6 0)))])
def cT5:=wu aH8.eq_1
def aH9:CC:=(.reg [(qq eR (.mv z5)),(qq fv (.fa 5 z2)),(qq fl (.ld1 gb)),(qq dU (.ln .slice gH)),(qq eV (.bi .lss gv gM))])
def cT6:=wu aH9.eq_1
def aI0:CC:=(.seq aH9 (.cond gO .skip (.exit 0)))
def cT7:=wu aI0.eq_1
def aI1:CC:=(.dreg 12 [(0,0,(qq gi (.fa 5 z2))),(1,1,(qq gg (.ld1 iz))),(2,0,(qq gQ (.mv z5))),(3,7,(qq j4 (.iaS 5 iA iE))),(4,15,(qq gj (.ldn 5 jh))),(5,0,(qq iG (.fa 5 z3))),(6,32,(qq fT (.ld1 kz))),(7,0,(qq j5 (.mv z5))),(8,224,(qq kv (.iaS 5 kC kD))),(9,480,(qq jq (.ldn 5 ll))),(10,1023,(ee gR (.call 31 [jL,kr]))),(11,2047,(qq j6 (.un .not kW)))])
def cT8:=wu aI1.eq_1
def aI2:CC:=(.reg [(qq a4 (.mv xF))])
def cT9:=wu aI2.eq_1
def Pj:CC:=(.cond lh (.seq aI2 .ret) .skip)
def bP9:=wu Pj.eq_1
def Pk:CC:=(.reg [(qq eb (.mv z5)),(qq fG (.bi .add gw (x6 1))),(qq a5 (.mv gy))])
def bQ0:=wu Pk.eq_1
def Pl:CC:=(.loop (.seq aI0 (.seq (.block 1 (.seq aI1 Pj)) Pk)))
def bQ1:=wu Pl.eq_1
def Pm:CC:=(.reg [(qq a4 (.mv xT))])
def bQ2:=wu Pm.eq_1
def Pn:CC:=(.seq aH7 (.seq (.seq aH8 (.block 0 Pl)) (.seq Pm .ret)))
def Zs:=wu Pn.eq_1
def c10:CF:= .mk 6 [.t a4] (.seq aH4 Pn)
theorem e10(v0 v1:V):aU 6 [v0,v1]=(.n (.n lj (some v1) lj) (some v0) mM):=rfl
def B10:=ai @e10 (ai @bq8 (ai @bq9 (ai @cT4 (ai @br0 (ai @cT5 (ai @cT6 (ai @cT7 (ai @cT8 (ai @cT9 (ai @bP9 (ai @bQ0 (ai @bQ1 (ai @bQ2 (@Zs))))))))))))))
theorem r10(h:Φ 10=some c10)(h30:Φ 30=some c30)(h31:Φ 31=some c31){va' vp' vi' vt':V}(ok:cO F M c)(hs:qV F M c va vp vi vt s)(hs':qV F M c va' vp' vi' vt' s)(z1:s.ac.length≤900000)(z2:s.pg.length≤900000)(z3:s.ini.length≤900000)(zp:∀p∈s.pg,p.length≤900000)(z4:s.ys.length≤900000)(zy:∀y∈s.ys,y.ls.length≤30000∧y.dt.length≤100000):
 Calls Φ F 10 [.g [.i .i64 s.fr,.i .i64 s.se,va,vp,vi,vt],.g [.i .i64 s.fr,.i .i64 s.se,va',vp',vi',vt']] M c fun r M' c'=>r= .b true∧Gr c M c' M':=by
 refine ax h ?_
 obtain⟨o1,o2,o3⟩:=aK hs.1
 obtain⟨ep,sp,_⟩:=id hs.2.1
 obtain⟨p1,p2,p3⟩:=aK sp
 obtain⟨q1,q2,q3⟩:=aK hs.2.2.1
 obtain⟨et,st,_⟩:=id hs.2.2.2
 obtain⟨t1,t2,t3⟩:=aK st
 obtain⟨o1',o2',o3'⟩:=aK hs'.1
 obtain⟨ep',sp',_⟩:=id hs'.2.1
 obtain⟨p1',p2',p3'⟩:=aK sp'
 obtain⟨q1',q2',q3'⟩:=aK hs'.2.2.1
 obtain⟨et',st',_⟩:=id hs'.2.2.2
 obtain⟨t1',t2',t3'⟩:=aK st'
 have g1:=(Gr.refl ok).set c (au 31 [.i .i64 s.fr,.i .i64 s.se,va,vp,vi,vt]) (ak _) (aD _) (aA _)
 have g2:=g1.set (c+1) (au 31 [.i .i64 s.fr,.i .i64 s.se,va',vp',vi',vt']) (by omega) (aD _) (aA _)
 have b0:((M.set c (au 31 [.i .i64 s.fr,.i .i64 s.se,va,vp,vi,vt])).set (c+1) (au 31 [.i .i64 s.fr,.i .i64 s.se,va',vp',vi',vt'])).get c=some (au 31 [.i .i64 s.fr,.i .i64 s.se,va,vp,vi,vt]):=(az _ _ (by omega)).trans (am _ _ _)
 have b1:((M.set c (au 31 [.i .i64 s.fr,.i .i64 s.se,va,vp,vi,vt])).set (c+1) (au 31 [.i .i64 s.fr,.i .i64 s.se,va',vp',vi',vt'])).get (c+1)=some (au 31 [.i .i64 s.fr,.i .i64 s.se,va',vp',vi',vt']):=am _ _ _
 simp only[WX,Nat.reduceAdd,e10,bq8,br0,Zs,o1,p1,q1,t3,o1',p1',q1',t3']
 generalize(M.set c (au 31 [.i .i64 s.fr,.i .i64 s.se,va,vp,vi,vt])).set (c+1) (au 31 [.i .i64 s.fr,.i .i64 s.se,va',vp',vi',vt'])=M1 at g2 b0 b1⊢
 have g2:Gr c M (c+2) M1:=g2
 have cW:=g2.ok ok
 have ldA:loadN F M1 c 0 5=some [.i .i64 s.fr,.i .i64 s.se,va,vp,vi]:=da b0 [.i .i64 s.fr,.i .i64 s.se,va,vp,vi] [vt] rfl (by simp)
 have ldB:loadN F M1 (c+1) 0 5=some [.i .i64 s.fr,.i .i64 s.se,va',vp',vi']:=da b1 [.i .i64 s.fr,.i .i64 s.se,va',vp',vi'] [vt'] rfl (by simp)
 simp only[WX,bq9,ldA,ldB]
 have hX:=hs.grow g2
 have hX':=hs'.grow g2
 refine aw ((r30 h30 cW hX.1 hX.2.1 hX.2.2.1 hX'.1 hX'.2.1 hX'.2.2.1 z1 z2 z3 zp).mono ?_)
 rintro r M2 c2 ⟨rfl,g3⟩
 have ok2:=g3.ok cW
 have hY:=hX.grow g3
 have hY':=hX'.grow g3
 have hcl:=g3.le
 have m0:=(g3.old c (by omega)).trans b0
 have m1:=(g3.old (c+1) (by omega)).trans b1
 have l5:load1 F M2 c 5=some vt:=aj m0 5
 have k5:load1 F M2 (c+1) 5=some vt':=aj m1 5
 have nt:=hY.2.2.2.len
 have nt':=hY'.2.2.2.len
 have d5:decide ((s.ys.length:Int)≠(s.ys.length:Int))=false:=ah (by simp)
 simp only[WX,B10,l5,k5,nt,nt',d5]
 obtain⟨I,hI⟩:∃I:Nat→St→Prop,∀n s',I n s'↔(∃(i c1:Nat) (N:Mem) (u:List (Option V)),n=s.ys.length-i∧i≤s.ys.length∧Gr c2 M2 c1 N∧s'= .mk ((bp8 u (.p c 0) (.p (c+1) 0) (.b false) (.i .i64 (i:Int)))) [] N c1):=⟨fun n s'=>_,fun _ _=>Iff.rfl⟩
 refine bD I ?_ s.ys.length _ ((hI _ _).2 ⟨0,c2,M2,(X2 (G4 (cw (cj (X8 (X1 [])))))),rfl,aE _,Gr.refl ok2,rfl⟩)
 intro n s' hIs
 obtain⟨i,c1,N,u,rfl,hi1,g4,rfl⟩:=(hI _ _).1 hIs
 clear hIs
 have okN:=g4.ok ok2
 have q8:bX .add (.i .i64 (i:Int)) (.i .i64 1)=some (.i .i64 ((i+1:Nat):Int)):=by rw[aN _ _ (by omega) (by omega)];simp
 have l5':load1 F N c 5=some vt:=(g4.load1 (by omega) _).trans l5
 have k5':load1 F N (c+1) 5=some vt':=(g4.load1 (by omega) _).trans k5
 by_cases hlt:i<s.ys.length
 ·have d6:decide ((i:Int)<(s.ys.length:Int))=true:=af (by omega);obtain⟨pb,po,vd,vl,hpb,hia,hld,sd,sl⟩:=(hY.2.2.2.grow g4).at i hlt;obtain⟨pb',po',vd',vl',hpb',hia',hld',sd',sl'⟩:=(hY'.2.2.2.grow g4).at i hlt;have hz:=zy _ (List.getElem_mem hlt);have hfr:=okN.free;have gU:Gr c1 N (c1+12) N:=(Gr.refl okN).up (by omega);simp only[WX,Nat.reducePow,Nat.reduceDiv,Nat.reduceMod,Nat.reduceBEq,jz,B10,l5',k5',nt,d6,hia,hia',hld,hld'];refine iq ((r31 h31 (gU.ok okN) hz.1 hz.2 (sd.grow gU) (sl.grow gU) (sd'.grow gU) (sl'.grow gU)).mono ?_);rintro r N3 c3 ⟨rfl,g5⟩;have g6:=(g4.trans gU).trans g5;refine⟨(g6.ok ok2).free,?_⟩;simp only[WX,B10,q8];exact⟨s.ys.length-(i+1),by omega,(hI _ _).2 ⟨i+1,_,_,(X2 (G4 (cw (cj (X8 (X1 [])))))),rfl,hlt,g6,rfl⟩⟩
 ·obtain rfl:i=s.ys.length:=by omega
  have d6:decide ((s.ys.length:Int)<(s.ys.length:Int))=false:=ah (by omega);simp only[WX,B10,l5',nt,d6];exact(g2.trans g3).trans g4
def b96:CC:=(.reg [(aa a2 (.al 134 [(.b false),(.b false),(.b false),(.b false)]))])
def b97:CC:=(.reg [(qq a5 (.bi .eql z3 (x6 1))),(qq a4 (.mv z5))])
def b98:CC:=(.reg [(qq a6 (.bld [(.b false),(.b false),(.b false),(.b false)] [(3,1,xT)])),(ez (.st 4 z2 z6))])
def b99:CC:=(.reg [(qq a8 (.bi .eql z3 (x6 2))),(qq a7 (.mv z8))])
def ba0:CC:=(.reg [(qq a9 (.bld [(.b false),(.b false),(.b false),(.b false)] [(1,1,xT)])),(ez (.st 4 z2 z9))])
def ba1:CC:=(.reg [(qq dk (.bi .eql z3 (x6 3))),(qq dp (.mv dC))])
def ba2:CC:=(.reg [(qq dy (.bld [(.b false),(.b false),(.b false),(.b false)] [(0,1,xT),(3,1,xT)])),(ez (.st 4 z2 dX))])
def ba3:CC:=(.reg [(qq dL (.bi .eql z3 (x6 4))),(qq dN (.mv eu))])
def ba4:CC:=(.reg [(qq dS (.bld [(.b false),(.b false),(.b false),(.b false)] [(0,1,xT),(1,1,xT)])),(ez (.st 4 z2 dM))])
def Vm:CC:=(.reg [(qq eE (.bi .eql z3 (x6 5))),(qq dY (.mv eD))])
def Vn:CC:=(.reg [(qq dT (.bld [(.b false),(.b false),(.b false),(.b false)] [(0,1,xT),(1,1,xT),(2,1,xT)])),(ez (.st 4 z2 fm))])
def Vo:CC:=(.reg [(qq fF (.bi .eql z3 (x6 6))),(qq eG (.mv fD))])
def Vp:CC:=(.reg [(qq eR (.bld [(.b false),(.b false),(.b false),(.b false)] [(0,1,xT),(1,1,xT),(3,1,xT)])),(ez (.st 4 z2 gv))])
def Vq:CC:=(.cond fS (.seq Vp .ret) .skip)
def Vr:CC:=(.cond eF (.seq Vn .ret) (.seq Vo Vq))
def Vs:CC:=(.cond dG (.seq ba4 .ret) (.seq Vm Vr))
def Vt:CC:=(.cond dx (.seq ba2 .ret) (.seq ba3 Vs))
def Vu:CC:=(.cond z7 (.seq ba0 .ret) (.seq ba1 Vt))
def Vv:CC:=(.cond z4 (.seq b98 .ret) (.seq b99 Vu))
def Vw:CC:=(.seq (.reg [(qq a3 (.mv z0))]) (.block 0 (.seq b97 Vv)))
def Vx:CC:=(.reg [(qq fv (.bld [(.b false),(.b false),(.b false),(.b false)] [])),(ez (.st 4 z2 gb))])
def c80:CF:= .mk 5 [.cn a2 4] (.seq b96 (.seq Vw (.seq Vx .ret)))
theorem e80(v0:V):aU 5 [v0]=(.n lj (some v0) lj):=rfl
def B80:=ai @e80 (ai (wu b96.eq_1) (ai (wu b97.eq_1) (ai (wu b98.eq_1) (ai (wu b99.eq_1) (ai (wu ba0.eq_1) (ai (wu ba1.eq_1) (ai (wu ba2.eq_1) (ai (wu ba3.eq_1) (ai (wu ba4.eq_1) (ai (wu Vm.eq_1) (ai (wu Vn.eq_1) (ai (wu Vo.eq_1) (ai (wu Vp.eq_1) (ai (wu Vq.eq_1) (ai (wu Vr.eq_1) (ai (wu Vs.eq_1) (ai (wu Vt.eq_1) (ai (wu Vu.eq_1) (ai (wu Vv.eq_1) (ai (wu Vw.eq_1) (wu Vx.eq_1)))))))))))))))))))))
def PA:CC:=(.reg [(qq a3 (.mv z0)),(qq a4 (.bi .geq z3 (x6 0))),(qq a5 (.mv z4)),(av a6 (.mv z0) a5),(av a7 (.bi .lss z6 (x6 16)) a5),(qq a8 (.pk z5 z7 xF)),(qq a2 (.mv z8))])
def PB:CC:=(.seq (.reg [(qq a2 (.mv xF))]) (.seq PA .ret))
def am9:CF:= .mk 4 [.t a2] PB
theorem dg9(v0:V):aU 4 [v0]=(.n iy (some v0) iy):=rfl
def dd6:=ai @dg9 (ai (wu PA.eq_1) (wu PB.eq_1))
def Py:CC:=(.reg [(qq a3 (.mv z0)),(qq a4 (.bi .eql z3 (x6 3))),(qq a5 (.mv z4)),(aH a6 (.mv z0) a5),(aH a7 (.bi .eql z6 (x6 6)) a5),(qq a8 (.pk z5 xT z7)),(qq a2 (.mv z8))])
def Pz:CC:=(.seq (.reg [(qq a2 (.mv xF))]) (.seq Py .ret))
def am8:CF:= .mk 4 [.t a2] Pz
theorem dg8(v0:V):aU 4 [v0]=(.n iy (some v0) iy):=rfl
def dd5:=ai @dg8 (ai (wu Py.eq_1) (wu Pz.eq_1))
def Qd:CC:=(.reg [(qq a2 (.mv xF)),(qq a3 (.mv xF)),(qq a4 (.mv xF)),(qq a5 (.mv xF))])
def Qe:CC:=(.reg [(qq a8 (.bi .eql z6 (x6 1))),(qq a7 (.mv z8))])
def Qf:CC:=(.reg [(qq a2 (.mv xF)),(qq a3 (.mv xF)),(qq a4 (.mv xF)),(qq a5 (.mv xT))])
def Qg:CC:=(.reg [(qq dp (.bi .eql z6 (x6 2))),(qq a9 (.mv dx))])
def Qh:CC:=(.reg [(qq a2 (.mv xF)),(qq a3 (.mv xT)),(qq a4 (.mv xF)),(qq a5 (.mv xF))])
def Qi:CC:=(.reg [(qq dy (.bi .eql z6 (x6 3))),(qq dk (.mv dX))])
def Qj:CC:=(.reg [(qq a2 (.mv xT)),(qq a3 (.mv xF)),(qq a4 (.mv xF)),(qq a5 (.mv xT))])
def Qk:CC:=(.reg [(qq dL (.bi .eql z6 (x6 4))),(qq dN (.mv eu))])
def Ql:CC:=(.reg [(qq a2 (.mv xT)),(qq a3 (.mv xT)),(qq a4 (.mv xF)),(qq a5 (.mv xF))])
def Hp:CC:=(.reg [(qq dY (.bi .eql z6 (x6 5))),(qq dS (.mv eF))])
def Hq:CC:=(.reg [(qq a2 (.mv xT)),(qq a3 (.mv xT)),(qq a4 (.mv xT)),(qq a5 (.mv xF))])
def Hr:CC:=(.reg [(qq dT (.bi .eql z6 (x6 6))),(qq eE (.mv fm))])
def Hs:CC:=(.reg [(qq a2 (.mv xT)),(qq a3 (.mv xT)),(qq a4 (.mv xF)),(qq a5 (.mv xT))])
def Ht:CC:=(.cond eD (.seq Hs .ret) .skip)
def Hu:CC:=(.cond dM (.seq Hq .ret) (.seq Hr Ht))
def Hv:CC:=(.cond dG (.seq Ql .ret) (.seq Hp Hu))
def Hw:CC:=(.cond dC (.seq Qj .ret) (.seq Qk Hv))
def Hx:CC:=(.cond z9 (.seq Qh .ret) (.seq Qi Hw))
def Hy:CC:=(.cond z7 (.seq Qf .ret) (.seq Qg Hx))
def Hz:CC:=(.seq (.reg [(qq a6 (.mv z0))]) (.block 0 (.seq Qe Hy)))
def HA:CC:=(.reg [(qq a2 (.mv xF)),(qq a3 (.mv xF)),(qq a4 (.mv xF)),(qq a5 (.mv xF))])
def an2:CF:= .mk 5 [.t a2,.t a3,.t a4,.t a5] (.seq Qd (.seq Hz (.seq HA .ret)))
theorem dh6(v0:V):aU 5 [v0]=(.n lj (some v0) lj):=rfl
def cf4:=ai @dh6 (ai (wu Qd.eq_1) (ai (wu Qe.eq_1) (ai (wu Qf.eq_1) (ai (wu Qg.eq_1) (ai (wu Qh.eq_1) (ai (wu Qi.eq_1) (ai (wu Qj.eq_1) (ai (wu Qk.eq_1) (ai (wu Ql.eq_1) (ai (wu Hp.eq_1) (ai (wu Hq.eq_1) (ai (wu Hr.eq_1) (ai (wu Hs.eq_1) (ai (wu Ht.eq_1) (ai (wu Hu.eq_1) (ai (wu Hv.eq_1) (ai (wu Hw.eq_1) (ai (wu Hx.eq_1) (ai (wu Hy.eq_1) (ai (wu Hz.eq_1) (wu HA.eq_1)))))))))))))))))))))
def RW:CC:=(.reg [(qq a4 (.mv xF))])
def RX:CC:=(.reg [(qq a5 (.mv z1)),(qq a6 (.bi .eql z5 (x6 0))),(qq a7 (.mv z6)),(aH a8 (.mv z0) a7),(aH a9 (.mv z8) a7),(av dp (.mv z1) a9),(av dk (.bi .gtr dx (x6 0)) a9),(aH dy (.pk z9 dC xF) a7),(aH dN (.mv dX) a7),(av dL (.mv z1) dN),(av dS (.bi .lss eu (x6 16)) dN),(aH dY (.pk dG dM xF) a7),(qq eE (.pk z7 xT eF)),(qq a4 (.mv eD))])
def ao2:CF:= .mk 5 [.t a4] (.seq RW (.seq RX .ret))
theorem di8(v0 v1:V):aU 5 [v0,v1]=(.n (.n iy (some v1) iy) (some v0) lj):=rfl
def de1:=ai @di8 (ai (wu RW.eq_1) (wu RX.eq_1))
def bE(op:Int):Int:=if op=3∨op=23 then 1 else if op=24 then 2 else if op=5∨op=6∨op=25 then 3 else if op=7 then 4 else if 8≤op∧op≤17 then 5 else if 18≤op∧op≤22∨26≤op∧op≤28 then 6 else 0
def dI(f:Int):Bool:=decide (f=3∨f=4∨f=5∨f=6)
def aI(f:Int):Bool:=decide (f=2∨f=4∨f=5∨f=6)
def bI(f:Int):Bool:=decide (f=5)
def iI(f:Int):Bool:=decide (f=1∨f=3∨f=6)
def qD(b:Bool)(n:Int):Bool:=decide (n=0∨b=true∧0<n∧n<16)
theorem t80(Φ:Nat→Option CF)(h:Φ 80=some c80)(f:Int)(ct:Nat):To Φ 80 [.i .i64 f] ct (.g [.b (dI f),.b (aI f),.b (bI f),.b (iI f)]):=by
 refine dw h ?_
 simp only[WX,B80]
 repeat' (refine iZ (by simp only[WX];rfl) (fun h=>?_) (fun h=>?_)<;>simp only[WX,Nat.reduceAdd,Nat.reduceLeDiff,B80,h])
 all_goals simp only[decide_eq_true_eq,decide_eq_false_iff_not]at *
 all_goals first|(subst f;rfl)|(simp[dI,aI,bI,iI, *])
theorem dw9(Φ:Nat→Option CF)(h:Φ 118=some am9)(n:Int)(ct:Nat):To Φ 118 [.i .i64 n] ct (.b (decide (0≤n∧n<16))):=by
 refine dw h ?_
 simp only[WX,dd6]
 repeat' (refine yy (by simp only[WX];rfl) (fun h=>?_) (fun h=>?_)<;>simp only[WX,h])
 all_goals simp_all
 all_goals omega
theorem dw8(Φ:Nat→Option CF)(h:Φ 117=some am8)(n:Int)(ct:Nat):To Φ 117 [.i .i64 n] ct (.b (decide (n=3∨n=6))):=by
 refine dw h ?_
 simp only[WX,dd5]
 repeat' (refine yy (by simp only[WX];rfl) (fun h=>?_) (fun h=>?_)<;>simp only[WX,h])
 all_goals simp_all
 all_goals omega
theorem dy0(Φ:Nat→Option CF)(h:Φ 173=some ao2)(b:Bool)(n:Int)(ct:Nat):To Φ 173 [.b b,.i .i64 n] ct (.b (qD b n)):=by
 refine dw h ?_
 simp only[WX,de1]
 repeat' (refine yy (by simp only[WX];rfl) (fun h=>?_) (fun h=>?_)<;>simp only[WX,h])
 all_goals simp_all [qD]
 all_goals omega
theorem dx1(Φ:Nat→Option CF)(h:Φ 126=some an2)(f:Int)(ct:Nat):To Φ 126 [.i .i64 f] ct (.t [.b (dI f),.b (aI f),.b (bI f),.b (iI f)]):=by
 refine dw h ?_
 simp only[WX,cf4]
 repeat' (refine iZ (by simp only[WX];rfl) (fun h=>?_) (fun h=>?_)<;>simp only[WX,cf4,h])
 all_goals simp only[decide_eq_true_eq,decide_eq_false_iff_not]at *
 all_goals first|(subst f;rfl)|(simp[dI,aI,bI,iI, *])
def PC:CC:=(.reg [(aa a0 (.al 177 [(.s 0 0),(.s 0 0),(.s 0 0),(.s 0 0),(.s 0 0),(.s 0 0),(.s 0 0),(.s 0 0),(.s 0 0),(.s 0 0),(.s 0 0),(.s 0 0),(.s 0 0),(.s 0 0),(.s 0 0),(.s 0 0),(.s 0 0),(.s 0 0),(.s 0 0),(.s 0 0),(.s 0 0),(.s 0 0),(.s 0 0),(.s 0 0),(.s 0 0),(.s 0 0),(.s 0 0),(.s 0 0),(.s 0 0)]))])
def PD:CC:=(.reg [(qq a1 (.bld [(.s 0 0),(.s 0 0),(.s 0 0),(.s 0 0),(.s 0 0),(.s 0 0),(.s 0 0),(.s 0 0),(.s 0 0),(.s 0 0),(.s 0 0),(.s 0 0),(.s 0 0),(.s 0 0),(.s 0 0),(.s 0 0),(.s 0 0),(.s 0 0),(.s 0 0),(.s 0 0),(.s 0 0),(.s 0 0),(.s 0 0),(.s 0 0),(.s 0 0),(.s 0 0),(.s 0 0),(.s 0 0),(.s 0 0)] [(0,1,(.c (.s 0 0))),(1,1,(.c (.s 3 7368558))),(2,1,(.c (.s 4 1886352499))),(3,1,(.c (.s 4 1819042147))),(4,1,(.c (.s 4 1801675106))),(5,1,(.c (.s 5 500152823651))),(6,1,(.c (.s 4 1751607656))),(7,1,(.c (.s 4 2037411683))),(8,1,(.c (.s 3 6579297))),(9,1,(.c (.s 3 6452595))),(10,1,(.c (.s 3 7107949))),(11,1,(.c (.s 3 7760228))),(12,1,(.c (.s 3 6582125))),(13,1,(.c (.s 3 6581857))),(14,1,(.c (.s 2 29295))),(15,1,(.c (.s 3 7499640))),(16,1,(.c (.s 3 7104627))),(17,1,(.c (.s 3 7497843))),(18,1,(.c (.s 4 1768186977))),(19,1,(.c (.s 4 1684107116))),(20,1,(.c (.s 5 435711603827))),(21,1,(.c (.s 5 422590902124))),(22,1,(.c (.s 6 108187851125875))),(23,1,(.c (.s 4 1886221674))),(24,1,(.c (.s 5 491512493418))),(25,1,(.c (.s 4 1802398060))),(26,1,(.c (.s 3 7431522))),(27,1,(.c (.s 3 6647394))),(28,1,(.c (.s 3 7629922)))])),(ez (.st 29 z0 z1))])
def an0:CF:= .mk 2 [.cn a0 29] (.seq PC (.seq PD .ret))
theorem dh0:aU 2 []=nF:=rfl
def dd7:=ai @dh0 (ai (wu PC.eq_1) (wu PD.eq_1))
def nZ:List V→Option V
 |[.i .i64 op]=>some (.i .i64 (bE op))
 |_=>none
theorem ql(op:Int):nZ [.i .i64 op]=some (.i .i64 (bE op)):=rfl
def wt:List V→Option V
 |[.i .i64 f]=>some (.g [.b (dI f),.b (aI f),.b (bI f),.b (iI f)])
 |_=>none
theorem ER(f:Int):wt [.i .i64 f]=some (.g [.b (dI f),.b (aI f),.b (bI f),.b (iI f)]):=rfl
def wl:List V→Option V
 |[.i .i64 n]=>some (.b (decide (0≤n∧n<16)))
 |_=>none
theorem ar9(n:Int):wl [.i .i64 n]=some (.b (decide (0≤n∧n<16))):=rfl
def nY:List V→Option V
 |[.i .i64 n]=>some (.b (decide (n=3∨n=6)))
 |_=>none
theorem Jv(n:Int):nY [.i .i64 n]=some (.b (decide (n=3∨n=6))):=rfl
def io:List V:=[(.s 0 0),(.s 3 7368558),(.s 4 1886352499),(.s 4 1819042147),(.s 4 1801675106),(.s 5 500152823651),(.s 4 1751607656),(.s 4 2037411683),(.s 3 6579297),(.s 3 6452595),(.s 3 7107949),(.s 3 7760228),(.s 3 6582125),(.s 3 6581857),(.s 2 29295),(.s 3 7499640),(.s 3 7104627),(.s 3 7497843),(.s 4 1768186977),(.s 4 1684107116),(.s 5 435711603827),(.s 5 422590902124),(.s 6 108187851125875),(.s 4 1886221674),(.s 5 491512493418),(.s 4 1802398060),(.s 3 7431522),(.s 3 6647394),(.s 3 7629922)]
theorem dx0(Φ:Nat→Option CF)(h:Φ 119=some an0)(ct:Nat):To Φ 119 [] ct (.g io):=by
 refine dw h ?_
 simp only[WX,Nat.reduceAdd,Nat.reduceLeDiff,dd7]
 rfl
def bh7:CC:=(.reg [(qq a3 (.mv z0)),(qq a4 (.bi .lss z3 (x6 1))),(qq a5 (.mv z4)),(aH a6 (.mv z0) a5),(aH a7 (.bi .gtr z6 (x6 28)) a5),(qq a8 (.pk z5 xT z7))])
def bh8:CC:=(.seq (.reg [(qq a2 (.mv (.c (.s 0 0))))]) .ret)
def bh9:CC:=(.reg [(ee a9 (.call 119 [])),(qq dp (.mv z0)),(qq dk (.ixA1 29 1 z9 dx)),(qq a2 (.mv dC))])
def bi0:CC:=(.seq (.seq bh7 (.cond z8 bh8 .skip)) (.seq bh9 .ret))
def bi1:CC:=(.seq (.reg [(qq a2 (.mv (.c (.s 0 0))))]) bi0)
def c92:CF:= .mk 4 [.t a2] bi1
theorem e92(v0:V):aU 4 [v0]=(.n iy (some v0) iy):=rfl
def B92:=ai @e92 (ai (wu bh7.eq_1) (ai (wu bh8.eq_1) (ai (wu bh9.eq_1) (ai (wu bi0.eq_1) (wu bi1.eq_1)))))
def RE:CC:=(.reg [(aa a1 (.bx 100 5 z0)),(qq a2 (.mv xF))])
def RF:CC:=(.reg [(qq dp (.fa 0 z1)),(qq dk (.ld1 dx)),(ee dy (.call 127 [dC])),(ee dN (.call 126 [dX])),(qq a9 (.mv dG)),(qq dL (.ex 0 z9)),(qq dS (.ex 1 z9)),(qq dY (.ex 2 z9)),(qq eE (.ex 3 z9)),(qq a3 (.mv eu)),(qq a4 (.mv dM)),(qq a5 (.mv eF)),(qq a6 (.mv eD))])
def RG:CC:=(.reg [(qq a7 (.mv (x6 (-32768)))),(qq a8 (.mv (x6 32767)))])
def RH:CC:=(.reg [(qq dT (.fa 0 z1)),(qq eG (.ld1 fm)),(qq fF (.bi .eql fS (x6 3))),(qq eR (.mv fD)),(aH fv (.fa 0 z1) eR),(aH fl (.ld1 gb) eR),(aH dU (.bi .eql gH (x6 6)) eR),(qq eV (.pk gv xT gM))])
def RI:CC:=(.reg [(qq a7 (.mv (x6 0))),(qq a8 (.mv (x6 65535)))])
def RJ:CC:=(.seq RH (.cond gO RI .skip))
def RK:CC:=(.reg [(qq eb (.fa 0 z1)),(qq fG (.ld1 gw)),(qq gi (.bi .geq gy (x6 1))),(qq gg (.mv iz)),(av gQ (.fa 0 z1) gg),(av j4 (.ld1 iE) gg),(av gj (.bi .leq jh (x6 28)) gg),(qq iG (.pk iA jL xF)),(qq fT (.mv kz)),(av j5 (.mv z3) fT),(av kv (.fa 1 z1) fT),(av jq (.ld1 ll) fT),(eU gR (.call 173 [kD,kr]) fT),(qq j6 (.pk kC kW xF)),(qq jr (.mv lh)),(av kF (.mv z4) jr),(av jM (.fa 2 z1) jr),(av j7 (.ld1 lr) jr),(eU ky (.call 173 [lq,mW]) jr),(qq js (.pk lm ny xF)),(qq kX (.mv nG)),(av kY (.mv z5) kX),(av kB (.fa 3 z1) kX),(av iB (.ld1 oE) kX),(eU nC (.call 173 [nA,nH]) kX),(qq kG (.pk oD oF xF)),(qq kH (.mv pl)),(av j8 (.fa 4 z1) kH),(av nK (.ld1 pm) kH),(av nL (.bi .eql pU (x6 0)) kH),(av kI (.mv qO) kH),(aH lx (.mv z6) kI),(aH lT (.mv qT) kI),(av qa (.fa 4 z1) lT),(av oI (.ld1 sB) lT),(av qb (.mv z7) lT),(av pq (.bi .geq sw ug) lT),(aH pj (.pk qU sy xF) kI),(aH qc (.mv tC) kI),(av qd (.fa 4 z1) qc),(av tG (.ld1 uM) qc),(av tH (.mv z8) qc),(av qQ (.bi .leq vn xX) qc),(aH um (.pk yA xY xF) kI),(av uo (.pk pn xT ya) kH),(qq qX (.pk pS yb xF)),(qq a2 (.mv yc))])
def RL:CC:=(.seq RF (.seq RG (.seq RJ (.seq RK .ret))))
def ao0:CF:= .mk 7 [.t a2] (.seq RE RL)
theorem di6(v0:V):aU 7 [v0]=(.n sc (some v0) sc):=rfl
def by9:=ai @di6 (ai (wu RE.eq_1) (ai (wu RF.eq_1) (ai (wu RG.eq_1) (ai (wu RH.eq_1) (ai (wu RI.eq_1) (ai (wu RJ.eq_1) (ai (wu RK.eq_1) (wu RL.eq_1))))))))
def wm:List V→Option V
 |[]=>some (.g io)
 |_=>none
theorem as1:wm []=some (.g io):=rfl
def kb:List V→Option V
 |[.i .i64 f]=>some (.t [.b (dI f),.b (aI f),.b (bI f),.b (iI f)])
 |_=>none
theorem An(f:Int):kb [.i .i64 f]=some (.t [.b (dI f),.b (aI f),.b (bI f),.b (iI f)]):=rfl
def wq:List V→Option V
 |[.b b,.i .i64 n]=>some (.b (qD b n))
 |_=>none
theorem as6(b:Bool)(n:Int):wq [.b b,.i .i64 n]=some (.b (qD b n)):=rfl
def nj(op:Int):V:=if 1≤op∧op≤28 then(io[op.toNat]?).getD (.s 0 0)else .s 0 0
theorem t92(Φ:Nat→Option CF)(h:Φ 92=some c92)(wm:Φ 119=some (.orc (aJ wm)))(op:Int)(ct:Nat):To Φ 92 [.i .i64 op] ct (nj op):=by
 refine dw h ?_
 simp only[WX,B92]
 repeat' first|(refine iZ (by simp only[WX];rfl) (fun h=>?_) (fun h=>?_)<;>simp only[WX,B92,h,wm,as1])|(refine yy (by simp only[WX];rfl) (fun h=>?_) (fun h=>?_)<;>simp only[WX,B92,h])
 all_goals simp only[decide_eq_true_eq,decide_eq_false_iff_not,Bool.not_false]at *
 ·unfold nj;rw[ab (by omega)]
 ·rw[ae (by omega),getD_some (d:= .s 0 0) (show op.toNat<io.length by show op.toNat<29;omega)];simp only[WX];unfold nj;rw[ae (by omega)]
 ·unfold nj;rw[ab (by omega)]
def dP(op d a b i:Int):Bool:=
 decide (1≤op)&&(decide (op≤28)&&(qD (dI (bE op)) d&&(qD (aI (bE op)) a&&(qD (bI (bE op)) b&&(decide (i=0)||(iI (bE op)&&(decide (op=3∨op=6)&&(decide (0≤i)&&decide (i≤65535))||decide (op≠3∧op≠6)&&(decide (-32768≤i)&&decide (i≤32767)))))))))
theorem nV(op:Int):bE op=0∨bE op=1∨bE op=2∨bE op=3∨bE op=4∨bE op=5∨bE op=6:=by
 unfold bE;repeat' split
 all_goals simp
def Cl:List V→Option V
 |[.i .i64 op]=>some (nj op)
 |_=>none
theorem XE(op:Int):Cl [.i .i64 op]=some (nj op):=rfl
theorem dx8(Φ:Nat→Option CF)(h:Φ 166=some ao0)(h127:Φ 127=some (.orc (aJ nZ)))(kb:Φ 126=some (.orc (aJ kb)))(wq:Φ 173=some (.orc (aJ wq)))(op d a b i:Int)(ct:Nat):
 To Φ 166 [.g [.i .i64 op,.i .i64 d,.i .i64 a,.i .i64 b,.i .i64 i]] ct (.b (dP op d a b i)):=by
 refine dw h ?_
 simp only[WX,Nat.reduceAdd,by9,h127,ql,kb,An]
 repeat' first|(refine iZ (by simp only[WX];rfl) (fun h=>?_) (fun h=>?_)<;>simp only[WX,by9,h])|(refine yy (by simp only[WX];rfl) (fun h=>?_) (fun h=>?_)<;>simp only[WX,by9,h,wq,as6])
 all_goals (rw[V.b.injEq];unfold dP;generalize qD (dI (bE op)) d=rd at *;generalize qD (aI (bE op)) a=ra at *;generalize qD (bI (bE op)) b=rb at *;generalize iI (bE op)=ii at *;rw[Bool.eq_iff_iff];simp only[decide_eq_true_eq,decide_eq_false_iff_not,Bool.not_true,Bool.not_false,aC,Bool.or_eq_true]at *)
 all_goals first|omega|(simp[*];done)|(simp[*];omega)
def bg8:CC:=(.reg [(aa a1 (.bx 100 5 z0)),(qq a2 (.mv xF))])
def bg9:CC:=(.reg [(qq a8 (.fa 0 z1)),(qq a9 (.ld1 z8)),(ee dp (.call 81 [z9])),(ee dk (.call 80 [dx])),(aa a3 (.al 134 [(.b false),(.b false),(.b false),(.b false)])),(ez (.st 4 z3 dC))])
def bh0:CC:=(.reg [(qq dy (.ldn 5 z1)),(aa a4 (.al 100 [(.i .i64 0),(.i .i64 0),(.i .i64 0),(.i .i64 0),(.i .i64 0)])),(ez (.st 5 z4 dX))])
def bh1:CC:=(.reg [(qq dN (.fa 0 z3)),(qq dL (.ld1 dG))])
def bh2:CC:=(.reg [(qq dS (.fa 1 z4)),(ez (.st 1 dM (x6 0)))])
def bh3:CC:=(.reg [(qq dY (.fa 1 z3)),(qq eE (.ld1 eF))])
def bh4:CC:=(.reg [(qq dT (.fa 2 z4)),(ez (.st 1 fm (x6 0)))])
def bh5:CC:=(.seq bh3 (.cond eD bh4 .skip))
def bh6:CC:=(.reg [(qq eG (.fa 2 z3)),(qq fF (.ld1 fS))])
def VX:CC:=(.reg [(qq eR (.fa 3 z4)),(ez (.st 1 gv (x6 0)))])
def VY:CC:=(.seq bh6 (.cond fD VX .skip))
def VZ:CC:=(.reg [(qq fv (.fa 3 z3)),(qq fl (.ld1 gb))])
def W0:CC:=(.reg [(qq dU (.fa 4 z4)),(ez (.st 1 gM (x6 0)))])
def W1:CC:=(.seq VZ (.cond gH W0 .skip))
def W2:CC:=(.reg [(qq a5 (.mv (x6 (-32768)))),(qq a6 (.mv (x6 32767)))])
def W3:CC:=(.reg [(qq eV (.fa 0 z1)),(qq eb (.ld1 gO)),(ee fG (.call 117 [gw]))])
def W4:CC:=(.reg [(qq a5 (.mv (x6 0))),(qq a6 (.mv (x6 65535)))])
def W5:CC:=(.seq W3 (.cond gy W4 .skip))
def W6:CC:=(.reg [(qq a7 (.mv (.c (.f 118 [] []))))])
def W7:CC:=(.reg [(qq gi (.fa 0 z1)),(qq gg (.ld1 iz)),(ee gQ (.call 92 [iA])),(qq j4 (.bi .neq iE (.c (.s 0 0)))),(qq gj (.mv jh)),(av iG (.ldn 5 z4) gj),(av fT (.fa 0 z1) gj),(av j5 (.ld1 kC) gj),(av kv (.bld [(.i .i64 0),(.i .i64 0),(.i .i64 0),(.i .i64 0),(.i .i64 0)] [(0,1,kD)]) gj),(av jq (.eq false (.agg [(0,.int),(1,.int),(2,.int),(3,.int),(4,.int)]) false kz ll) gj),(qq gR (.pk jL kr xF)),(qq j6 (.mv kW)),(av jr (.mv z7) j6),(av kF (.fa 1 z1) j6),(av jM (.ld1 lq) j6),(eU j7 (.cv lm [lr]) j6),(qq ky (.pk lh mW xF)),(qq js (.mv ny)),(av kX (.mv z7) js),(av kY (.fa 2 z1) js),(av kB (.ld1 nA) js),(eU iB (.cv oD [oE]) js),(qq nC (.pk nG nH xF)),(qq kG (.mv oF)),(av kH (.mv z7) kG),(av j8 (.fa 3 z1) kG),(av nK (.ld1 pm) kG),(eU nL (.cv pS [pU]) kG),(qq kI (.pk pl qO xF)),(qq lx (.mv pn)),(av lT (.fa 4 z1) lx),(av qa (.ld1 qU) lx),(av oI (.mv z5) lx),(av qb (.bi .geq sB sw) lx),(qq pq (.pk qT ug xF)),(qq pj (.mv sy)),(av qc (.fa 4 z1) pj),(av qd (.ld1 yA) pj),(av tG (.mv z6) pj),(av tH (.bi .leq uM vn) pj),(qq qQ (.pk tC xX xF)),(qq a2 (.mv xY))])
def W8:CC:=(.seq W2 (.seq W5 (.seq W6 (.seq W7 .ret))))
def W9:CC:=(.seq (.seq bh1 (.cond eu bh2 .skip)) (.seq bh5 (.seq VY (.seq W1 W8))))
def c91:CF:= .mk 7 [.t a2] (.seq bg8 (.seq bg9 (.seq bh0 W9)))
theorem e91(v0:V):aU 7 [v0]=(.n sc (some v0) sc):=rfl
def B91:=ai @e91 (ai (wu bg8.eq_1) (ai (wu bg9.eq_1) (ai (wu bh0.eq_1) (ai (wu bh1.eq_1) (ai (wu bh2.eq_1) (ai (wu bh3.eq_1) (ai (wu bh4.eq_1) (ai (wu bh5.eq_1) (ai (wu bh6.eq_1) (ai (wu VX.eq_1) (ai (wu VY.eq_1) (ai (wu VZ.eq_1) (ai (wu W0.eq_1) (ai (wu W1.eq_1) (ai (wu W2.eq_1) (ai (wu W3.eq_1) (ai (wu W4.eq_1) (ai (wu W5.eq_1) (ai (wu W6.eq_1) (ai (wu W7.eq_1) (ai (wu W8.eq_1) (wu W9.eq_1))))))))))))))))))))))
theorem Y4(op:Int):bX .neq (nj op) (.s 0 0)=some (.b (decide (1≤op∧op≤28))):=by
 unfold nj
 by_cases h:1≤op∧op≤28
 ·rw[ae h,af h];have key:∀n,n<29→1≤n→bX .neq ((io[n]?).getD (.s 0 0)) (.s 0 0)=some (.b true):=by
   intro n hn h1;have:n=1∨n=2∨n=3∨n=4∨n=5∨n=6∨n=7∨n=8∨n=9∨n=10∨n=11∨n=12∨n=13∨n=14∨n=15∨n=16∨n=17∨n=18∨n=19∨n=20∨n=21∨n=22∨n=23∨n=24∨n=25∨n=26∨n=27∨n=28:=by omega
   rcases this with rfl|rfl|rfl|rfl|rfl|rfl|rfl|rfl|rfl|rfl|rfl|rfl|rfl|rfl|rfl|rfl|rfl|rfl|rfl|rfl|rfl|rfl|rfl|rfl|rfl|rfl|rfl|rfl<;>rfl
  exact key op.toNat (by omega) (by omega)
 ·rw[ab h,ah h];rfl
theorem t91(Φ:Nat→Option CF)(h:Φ 91=some c91)(nZ:Φ 81=some (.orc (aJ nZ)))(wt:Φ 80=some (.orc (aJ wt)))(nY:Φ 117=some (.orc (aJ nY)))(wl:Φ 118=some (.orc (aJ wl)))(Cl:Φ 92=some (.orc (aJ Cl)))(op d a b i:Int)(ct:Nat):
 To Φ 91 [.g [.i .i64 op,.i .i64 d,.i .i64 a,.i .i64 b,.i .i64 i]] ct (.b (dP op d a b i)):=by
 refine dw h ?_
 rcases nV op with hf|hf|hf|hf|hf|hf|hf
 all_goals
  simp only[WX,Nat.reduceBEq,Int.reduceEq,Nat.reduceAdd,Nat.reduceLeDiff,B91,nZ,ql,wt,ER,nY,Jv,hf,dI,aI,bI,iI]
  repeat' first|(refine iZ (by simp only[WX];rfl) (fun h=>?_) (fun h=>?_)<;>simp only[WX,B91,h,Cl,XE,Y4])|(refine yy (by simp only[WX];rfl) (fun h=>?_) (fun h=>?_)<;>simp only[WX,Nat.reduceAdd,Nat.reduceLeDiff,h,wl,ar9])
 all_goals (rw[V.b.injEq,Bool.eq_iff_iff];simp only[decide_eq_true_eq,decide_eq_false_iff_not,Bool.not_true,aC,Bool.and_eq_false_iff,bg,false_iff]at *;simp only[dP,qD,hf,dI,aI,bI,iI,aC,Bool.or_eq_true,decide_eq_true_eq,Int.reduceEq,or_true,or_false,true_and,or_self,false_and])
 all_goals omega
def bb9:CC:=(.reg [(aa a1 (.bx 100 5 z0)),(qq a2 (.mv (.c (.i .u32 0)))),(qq a3 (.mv (x6 0)))])
def bc0:CC:=(.reg [(qq a4 (.ldn 5 z1)),(ee a5 (.call 91 [z4])),(qq a6 (.un .not z5))])
def bc1:CC:=(.reg [(qq a2 (.mv (.c (.i .u32 0)))),(qq a3 (.mv (x6 2)))])
def bc2:CC:=(.seq bc0 (.cond z6 (.seq bc1 .ret) .skip))
def bc3:CC:=(.reg [(qq a7 (.fa 0 z1)),(qq a8 (.ld1 z7)),(qq a9 (.ci .u32 z8)),(qq dp (.fa 1 z1)),(qq dk (.ld1 dx)),(qq dy (.ci .u32 dC)),(qq dN (.bi .shl dX (.c (.i .u64 12)))),(qq dL (.bi .or z9 dG)),(qq dS (.fa 2 z1)),(qq dY (.ld1 dM)),(qq eE (.ci .u32 eF)),(qq dT (.bi .shl eD (.c (.i .u64 8)))),(qq eG (.bi .or eu fm)),(qq fF (.fa 3 z1)),(qq eR (.ld1 fD)),(qq fv (.ci .u32 gv)),(qq fl (.bi .shl gb (.c (.i .u64 16)))),(qq dU (.bi .or fS gH)),(qq eV (.fa 4 z1)),(qq eb (.ld1 gO)),(qq fG (.ci .u16 gw)),(qq gi (.ci .u32 gy)),(qq gg (.bi .shl iz (.c (.i .u64 16)))),(qq gQ (.bi .or gM iA)),(qq a2 (.mv iE)),(qq a3 (.mv (x6 0)))])
def c82:CF:= .mk 5 [.t a2,.t a3] (.seq bb9 (.seq bc2 (.seq bc3 .ret)))
theorem e82(v0:V):aU 5 [v0]=(.n lj (some v0) lj):=rfl
def B82:=ai @e82 (ai (wu bb9.eq_1) (ai (wu bc0.eq_1) (ai (wu bc1.eq_1) (ai (wu bc2.eq_1) (wu bc3.eq_1)))))
def uA:List V→Option V
 |[.g [.i .i64 op,.i .i64 d,.i .i64 a,.i .i64 b,.i .i64 i]]=>some (.b (dP op d a b i))
 |_=>none
theorem Ap(op d a b i:Int):uA [.g [.i .i64 op,.i .i64 d,.i .i64 a,.i .i64 b,.i .i64 i]]=some (.b (dP op d a b i)):=rfl
def fp(op d a b i:Int):Nat:=op.toNat+4096*d.toNat+256*a.toNat+65536*b.toNat+65536*(i%65536).toNat
theorem rH{n:Bool}{x:Int}(h:qD n x=true):0≤x∧x<16∧(x≠0→n=true):=by
 unfold qD at h
 simp only[decide_eq_true_eq]at h
 rcases h with h|⟨h1,h2,h1003⟩
 ·subst h;exact⟨by decide,by decide,fun h=>absurd rfl h⟩
 ·exact⟨by omega,h1003,fun _=>h1⟩
theorem kP{op d a b i:Int}(h:dP op d a b i=true):1≤op∧op≤28∧0≤d∧d<16∧0≤a∧a<16∧0≤b∧b<16∧ -32768≤i∧i≤65535∧(b=0∨i=0):=by
 unfold dP at h
 simp only[aC,Bool.or_eq_true,decide_eq_true_eq]at h
 obtain⟨h1,h2,h1003,h1004,h1005,h1006⟩:=h
 have r1003:=rH h1003
 have r1004:=rH h1004
 have r1005:=rH h1005
 have hbi:b=0∨i=0:=by
  by_cases hb:b=0
  ·exact .inl hb
  ·right;have:=r1005.2.2 hb;unfold bI at this;simp only[decide_eq_true_eq]at this;rcases h1006 with h1006|⟨h1006,_⟩
   ·exact h1006
   ·unfold iI at h1006;simp only[decide_eq_true_eq]at h1006;omega
 have hi: -32768≤i∧i≤65535:=by
  rcases h1006 with h1006|⟨_,h1006⟩
  ·omega
  ·omega
 exact⟨h1,h2,r1003.1,r1003.2.1,r1004.1,r1004.2.1,r1005.1,r1005.2.1,hi.1,hi.2,hbi⟩
theorem Yo(x y:Nat)(h:x<4096):x|||4096*y=x+4096*y:=by
 rw[Nat.or_comm,←Nat.two_pow_add_eq_or_of_lt (show x<2^12 from h) y,Nat.add_comm]
theorem wP(x y:Nat)(h:x<65536):x|||65536*y=x+65536*y:=by
 rw[Nat.or_comm,←Nat.two_pow_add_eq_or_of_lt (show x<2^16 from h) y,Nat.add_comm]
theorem K1(x y:Nat)(h:x<256):x|||256*y=x+256*y:=by
 rw[Nat.or_comm,←Nat.two_pow_add_eq_or_of_lt (show x<2^8 from h) y,Nat.add_comm]
theorem t82(Φ:Nat→Option CF)(h:Φ 82=some c82)(uA:Φ 91=some (.orc (aJ uA)))(op d a b i:Int)(ct:Nat):
 To Φ 82 [.g [.i .i64 op,.i .i64 d,.i .i64 a,.i .i64 b,.i .i64 i]] ct (if dP op d a b i=true then .t [.i .u32 (fp op d a b i:Nat),.i .i64 0]else .t [.i .u32 0,.i .i64 2]):=by
 refine dw h ?_
 cases hm:dP op d a b i with
 |false=>simp only[WX,Nat.reduceAdd,Nat.reduceLeDiff,B82,uA,Ap,hm]
 |true=>
  obtain⟨b1,b2,b1003,b1004,b1005,b1006,b1007,b1008,b49,b82,b1011⟩:=kP hm;obtain⟨o,rfl⟩:=Int.eq_ofNat_of_zero_le (show 0≤op by omega);obtain⟨d,rfl⟩:=Int.eq_ofNat_of_zero_le b1003;obtain⟨a,rfl⟩:=Int.eq_ofNat_of_zero_le b1005;obtain⟨b,rfl⟩:=Int.eq_ofNat_of_zero_le b1007;obtain⟨j,hj⟩:=Int.eq_ofNat_of_zero_le (show 0≤i%65536 by omega);have w48:IntKind.u16.wrap i=(j:Int):=by rw[aa6];exact hj
  have e1:=dF o (by omega);have e2:=dF d (by omega);have e1003:=dF a (by omega);have e1004:=dF b (by omega);have e1005:=dF j (by omega);have s1:=Nv d (by omega);have s2:=xM a (by omega);have s3:=pf b (by omega);have s4:=pf j (by omega);have n1:(o|||4096*d)<2^32:=Nat.or_lt_two_pow (by omega) (by omega);have n2:(o|||4096*d|||256*a)<2^32:=Nat.or_lt_two_pow n1 (by omega);have n3:(o|||4096*d|||256*a|||65536*b)<2^32:=Nat.or_lt_two_pow n2 (by omega);have o1:=qK o (4096*d) (by omega) (by omega);have o2:=qK (o|||4096*d) (256*a) n1 (by omega);have o1003:=qK (o|||4096*d|||256*a) (65536*b) n2 (by omega);have o1004:=qK (o|||4096*d|||256*a|||65536*b) (65536*j) n3 (by omega);simp only[WX,Nat.reduceAdd,Nat.reduceLeDiff,B82,uA,Ap,hm,w48,e1,e2,e1003,e1004,e1005,s1,s2,s3,s4,o1,o2,o1003,o1004];have key:(o|||4096*d|||256*a|||65536*b|||65536*j)=fp o d a b i:=by
   unfold fp;rw[Nat.or_assoc o,Nat.or_comm (4096*d),←Nat.or_assoc o,K1 o a (by omega),Yo _ d (by omega)];rcases b1011 with h0|h0
   ·have:b=0:=by omega
    subst this;rw[Nat.mul_zero,Nat.or_zero,wP _ j (by omega)];omega
   ·have:j=0:=by omega
    subst this;rw[Nat.mul_zero,Nat.or_zero,wP _ b (by omega)];omega
  rw[key]
def RM:CC:=(.reg [(aa a1 (.bx 100 5 z0)),(qq a2 (.mv (.c (.i .u32 0))))])
def RN:CC:=(.reg [(qq a4 (.fa 0 z1)),(qq a5 (.ld1 z4)),(qq a6 (.ci .u32 z5)),(qq a7 (.fa 1 z1)),(qq a8 (.ld1 z7)),(qq a9 (.bi .mul (x6 16) z8)),(qq dp (.fa 2 z1)),(qq dk (.ld1 dx)),(qq dy (.bi .add z9 dC)),(qq dN (.ci .u32 dX)),(qq dL (.bi .mul dG (.c (.i .u32 256)))),(qq dS (.bi .add z6 eu)),(qq a3 (.mv dM))])
def RQ:CC:=(.reg [(qq dY (.fa 0 z1)),(qq eE (.ld1 eF)),(ee dT (.call 127 [eD])),(qq eG (.bi .eql fm (x6 5)))])
def RR:CC:=(.reg [(qq fF (.mv z3)),(qq eR (.fa 3 z1)),(qq fv (.ld1 gv)),(qq fl (.ci .u32 gb)),(qq dU (.bi .mul gH (.c (.i .u32 65536)))),(qq eV (.bi .add fD gM)),(qq a2 (.mv gO))])
def RS:CC:=(.cond fS (.seq RR .ret) .skip)
def RT:CC:=(.reg [(qq eb (.mv z3)),(qq fG (.fa 4 z1)),(qq gi (.ld1 gy)),(qq gg (.bi .and iz (x6 65535))),(qq gQ (.ci .u32 iA)),(qq j4 (.bi .mul iE (.c (.i .u32 65536)))),(qq gj (.bi .add gw jh)),(qq a2 (.mv jL))])
def RU:CC:=(.seq RN (.seq (.seq RQ RS) (.seq RT .ret)))
def ao1:CF:= .mk 6 [.t a2] (.seq RM RU)
theorem di7(v0:V):aU 6 [v0]=(.n mM (some v0) mM):=rfl
def cf8:=ai @di7 (ai (wu RM.eq_1) (ai (wu RN.eq_1) (ai (wu RQ.eq_1) (ai (wu RR.eq_1) (ai (wu RS.eq_1) (ai (wu RT.eq_1) (wu RU.eq_1)))))))
theorem MJ{op d a b i:Int}(h:dP op d a b i=true):(bE op=5→i=0)∧(bE op≠5→b=0):=by
 unfold dP at h
 simp only[aC,Bool.or_eq_true,decide_eq_true_eq]at h
 obtain⟨h1,h2,h1003,h1004,h1005,h1006⟩:=h
 constructor
 ·intro hf;rcases h1006 with h1006|⟨h1006,_⟩
  ·exact h1006
  ·rw[hf]at h1006;cases h1006
 ·intro hf;have r1005:=rH h1005;by_cases hb:b=0
  ·exact hb
  ·have:=r1005.2.2 hb;unfold bI at this;simp only[decide_eq_true_eq]at this;exact absurd this hf
theorem dx9(Φ:Nat→Option CF)(h:Φ 167=some ao1)(h127:Φ 127=some (.orc (aJ nZ)))(op d a b i:Int)(hm:dP op d a b i=true)(ct:Nat):
 To Φ 167 [.g [.i .i64 op,.i .i64 d,.i .i64 a,.i .i64 b,.i .i64 i]] ct (.i .u32 (fp op d a b i:Nat)):=by
 refine dw h ?_
 obtain⟨b1,b2,b1003,b1004,b1005,b1006,b1007,b1008,b49,b82,b1011⟩:=kP hm
 obtain⟨f1,f2⟩:=MJ hm
 obtain⟨o,rfl⟩:=Int.eq_ofNat_of_zero_le (show 0≤op by omega)
 obtain⟨d,rfl⟩:=Int.eq_ofNat_of_zero_le b1003
 obtain⟨a,rfl⟩:=Int.eq_ofNat_of_zero_le b1005
 obtain⟨b,rfl⟩:=Int.eq_ofNat_of_zero_le b1007
 obtain⟨j,hj⟩:=Int.eq_ofNat_of_zero_le (show 0≤i%65536 by omega)
 have a1:=Aq i
 rw[hj]at a1
 have e1:=dF o (by omega)
 have e1004:=dF b (by omega)
 have e1005:=dF j (by omega)
 have m1:bX .mul (.i .i64 16) (.i .i64 (d:Int))=some (.i .i64 (16*(d:Int))):=mr 16 d (by omega) (by omega)
 have m2:bX .add (.i .i64 (16*(d:Int))) (.i .i64 (a:Int))=some (.i .i64 ((16*d+a:Nat):Int)):=by rw[aN _ _ (by omega) (by omega)];congr 2
 have e1006:=dF (16*d+a) (by omega)
 have m3:bX .mul (.i .u32 ((16*d+a:Nat):Int)) (.i .u32 256)=some (.i .u32 (((16*d+a)*256:Nat):Int)):=vj (16*d+a) 256 (by omega)
 have m4:bX .add (.i .u32 (o:Int)) (.i .u32 (((16*d+a)*256:Nat):Int))=some (.i .u32 ((o+(16*d+a)*256:Nat):Int)):=kU _ _ (by omega)
 have m5:bX .mul (.i .u32 (b:Int)) (.i .u32 65536)=some (.i .u32 ((b*65536:Nat):Int)):=vj b 65536 (by omega)
 have m6:bX .mul (.i .u32 (j:Int)) (.i .u32 65536)=some (.i .u32 ((j*65536:Nat):Int)):=vj j 65536 (by omega)
 have m7:bX .add (.i .u32 ((o+(16*d+a)*256:Nat):Int)) (.i .u32 ((b*65536:Nat):Int))=some (.i .u32 ((o+(16*d+a)*256+b*65536:Nat):Int)):=kU _ _ (by omega)
 have m8:bX .add (.i .u32 ((o+(16*d+a)*256:Nat):Int)) (.i .u32 ((j*65536:Nat):Int))=some (.i .u32 ((o+(16*d+a)*256+j*65536:Nat):Int)):=kU _ _ (by omega)
 simp only[WX,Nat.reduceAdd,cf8,h127,ql,e1,m1,m2,e1006,m3,m4]
 refine iZ (by simp only[WX];rfl) (fun h=>?_) (fun h=>?_)<;>simp only[WX,cf8,h,e1004,e1005,m5,m6,m7,m8,a1]
 ·have hf:bE o=5:=aY h;have:=f1 hf;subst this
  congr 2
  unfold fp;omega
 ·have hf:bE o≠5:=of_decide_eq_false h;have:=f2 hf
  congr 2
  unfold fp;omega
def Po:CC:=(.reg [(aa a2 (.al 100 [(.i .i64 0),(.i .i64 0),(.i .i64 0),(.i .i64 0),(.i .i64 0)])),(qq a3 (.mv (x6 0)))])
def Pp:CC:=(.reg [(qq a8 (.mv z0)),(qq a9 (.bi .and z8 (.c (.i .u32 255)))),(qq dp (.ci .i64 z9)),(qq dk (.bld [(.i .i64 0),(.i .i64 0),(.i .i64 0),(.i .i64 0),(.i .i64 0)] [(0,1,dx)])),(aa a4 (.al 100 [(.i .i64 0),(.i .i64 0),(.i .i64 0),(.i .i64 0),(.i .i64 0)])),(ez (.st 5 z4 dC))])
def Pq:CC:=(.reg [(qq dy (.fa 0 z4)),(qq dN (.ld1 dX)),(ee dL (.call 81 [dG])),(ee dS (.call 80 [eu])),(aa a5 (.al 134 [(.b false),(.b false),(.b false),(.b false)])),(ez (.st 4 z5 dM))])
def Ps:CC:=(.reg [(qq dY (.fa 0 z5)),(qq eE (.ld1 eF))])
def Pt:CC:=(.reg [(qq dT (.mv z0)),(qq eG (.bi .shr fm (.c (.i .u64 12)))),(qq fF (.bi .and fS (.c (.i .u32 15)))),(qq eR (.ci .i64 fD)),(qq fv (.fa 1 z4)),(ez (.st 1 gb gv))])
def Pu:CC:=(.seq Ps (.cond eD Pt .skip))
def Pv:CC:=(.reg [(qq fl (.fa 1 z5)),(qq dU (.ld1 gH))])
def Pw:CC:=(.reg [(qq eV (.mv z0)),(qq eb (.bi .shr gO (.c (.i .u64 8)))),(qq fG (.bi .and gw (.c (.i .u32 15)))),(qq gi (.ci .i64 gy)),(qq gg (.fa 2 z4)),(ez (.st 1 iA iz))])
def Px:CC:=(.seq Pv (.cond gM Pw .skip))
def GR:CC:=(.reg [(qq gQ (.fa 2 z5)),(qq j4 (.ld1 iE))])
def GS:CC:=(.reg [(qq gj (.mv z0)),(qq iG (.bi .shr jL (.c (.i .u64 16)))),(qq fT (.ci .i64 kz)),(qq j5 (.fa 3 z4)),(ez (.st 1 kD kC))])
def GT:CC:=(.seq GR (.cond jh GS .skip))
def GU:CC:=(.reg [(qq kv (.fa 3 z5)),(qq jq (.ld1 ll))])
def GV:CC:=(.reg [(qq gR (.mv z0)),(qq j6 (.bi .shr kW (.c (.i .u64 16)))),(qq jr (.ci .i16 lh)),(qq kF (.ci .i64 lm)),(qq jM (.fa 4 z4)),(ez (.st 1 lr lq))])
def GW:CC:=(.reg [(qq j7 (.fa 0 z4)),(qq ky (.ld1 mW)),(ee js (.call 117 [ny]))])
def GX:CC:=(.reg [(qq kX (.mv z0)),(qq kY (.bi .shr oD (.c (.i .u64 16)))),(qq kB (.ci .i64 nA)),(qq iB (.fa 4 z4)),(ez (.st 1 nH oE))])
def GY:CC:=(.seq GW (.cond nG GX .skip))
def GZ:CC:=(.cond kr (.seq GV GY) .skip)
def H0:CC:=(.reg [(qq kG (.ldn 5 z4)),(ee kH (.call 82 [pl])),(qq nC (.mv pS)),(qq j8 (.ex 0 oF)),(qq nK (.ex 1 oF)),(qq a6 (.mv pm)),(qq a7 (.mv pU))])
def H1:CC:=(.reg [(qq nL (.mv z7)),(qq kI (.bi .neq qO (x6 0))),(qq lx (.mv pn)),(aH lT (.mv z6) lx),(aH qa (.mv z0) lx),(aH oI (.bi .neq qU sB) lx),(qq qb (.pk qT xT sw))])
def H2:CC:=(.reg [(qq pq (.bld [(.i .i64 0),(.i .i64 0),(.i .i64 0),(.i .i64 0),(.i .i64 0)] [])),(ez (.st 5 z2 sy)),(qq a3 (.mv (x6 4)))])
def H3:CC:=(.cond ug (.seq H2 .ret) .skip)
def H4:CC:=(.reg [(qq pj (.ldn 5 z4)),(ez (.st 5 z2 tC)),(qq a3 (.mv (x6 0)))])
def H5:CC:=(.seq (.seq H0 (.seq H1 H3)) (.seq H4 .ret))
def H6:CC:=(.seq Px (.seq GT (.seq (.seq GU GZ) H5)))
def H7:CC:=(.seq Po (.seq Pp (.seq Pq (.seq Pu H6))))
def am7:CF:= .mk 7 [.cn a2 5,.t a3] H7
theorem dg7(v0:V):aU 7 [v0]=(.n sc (some v0) sc):=rfl
def by6:=ai @dg7 (ai (wu Po.eq_1) (ai (wu Pp.eq_1) (ai (wu Pq.eq_1) (ai (wu Ps.eq_1) (ai (wu Pt.eq_1) (ai (wu Pu.eq_1) (ai (wu Pv.eq_1) (ai (wu Pw.eq_1) (ai (wu Px.eq_1) (ai (wu GR.eq_1) (ai (wu GS.eq_1) (ai (wu GT.eq_1) (ai (wu GU.eq_1) (ai (wu GV.eq_1) (ai (wu GW.eq_1) (ai (wu GX.eq_1) (ai (wu GY.eq_1) (ai (wu GZ.eq_1) (ai (wu H0.eq_1) (ai (wu H1.eq_1) (ai (wu H2.eq_1) (ai (wu H3.eq_1) (ai (wu H4.eq_1) (ai (wu H5.eq_1) (ai (wu H6.eq_1) (wu H7.eq_1))))))))))))))))))))))))))
def w82(op d a b i:Int):Int:=if dP op d a b i=true then(fp op d a b i:Nat)else 0
def Ah(op d a b i:Int):Int:=if dP op d a b i=true then 0 else 2
def Ob:List V→Option V
 |[.g [.i .i64 op,.i .i64 d,.i .i64 a,.i .i64 b,.i .i64 i]]=>some (.t [.i .u32 (w82 op d a b i),.i .i64 (Ah op d a b i)])
 |_=>none
theorem XD(op d a b i:Int):Ob [.g [.i .i64 op,.i .i64 d,.i .i64 a,.i .i64 b,.i .i64 i]]=some (.t [.i .u32 (w82 op d a b i),.i .i64 (Ah op d a b i)]):=rfl
def uG(w:Nat):Int:=((w%256:Nat):Int)
def dW(w:Nat):Int:=if dI (bE (uG w))=true then((w/4096%16:Nat):Int)else 0
def aW(w:Nat):Int:=if aI (bE (uG w))=true then((w/256%16:Nat):Int)else 0
def bW(w:Nat):Int:=if bI (bE (uG w))=true then((w/65536:Nat):Int)else 0
def Dn(w:Nat):Int:=if 32768≤w/65536 then((w/65536:Nat):Int)-65536 else((w/65536:Nat):Int)
def iW(w:Nat):Int:=if iI (bE (uG w))=true then(if uG w=3∨uG w=6 then((w/65536:Nat):Int)else Dn w)else 0
def ML(w:Nat):V:=
 if dP (uG w) (dW w) (aW w) (bW w) (iW w)=true∧fp (uG w) (dW w) (aW w) (bW w) (iW w)=w then .t [.g [.i .i64 (uG w),.i .i64 (dW w),.i .i64 (aW w),.i .i64 (bW w),.i .i64 (iW w)],.i .i64 0]
 else .t [.g [.i .i64 0,.i .i64 0,.i .i64 0,.i .i64 0,.i .i64 0],.i .i64 4]
theorem qI(w:Nat)(hw:w<4294967296):bX .and (.i .u32 (w:Int)) (.i .u32 255)=some (.i .u32 ((w%256:Nat):Int)):=by
 have:=KK w 255 hw (by decide)
 rw[show(255:Nat)=2^8-1 from rfl,Nat.and_two_pow_sub_one_eq_mod]at this
 exact this
theorem pa(w:Nat)(hw:w<4294967296):bX .and (.i .u32 (w:Int)) (.i .u32 15)=some (.i .u32 ((w%16:Nat):Int)):=by
 have:=KK w 15 hw (by decide)
 rw[show(15:Nat)=2^4-1 from rfl,Nat.and_two_pow_sub_one_eq_mod]at this
 exact this
theorem zJ(w:Nat):bX .shr (.i .u32 (w:Int)) (.i .u64 12)=some (.i .u32 ((w/4096:Nat):Int)):=B2 w 12 (by decide)
theorem Da(w:Nat):bX .shr (.i .u32 (w:Int)) (.i .u64 8)=some (.i .u32 ((w/256:Nat):Int)):=B2 w 8 (by decide)
theorem zK(w:Nat):bX .shr (.i .u32 (w:Int)) (.i .u64 16)=some (.i .u32 ((w/65536:Nat):Int)):=B2 w 16 (by decide)
theorem bO0(w:Nat)(hw:w<4294967296):IntKind.i16.wrap ((w/65536:Nat):Int)=Dn w:=by
 rw[aa5]
 unfold Dn
 split<;>split<;>omega
theorem ay6(w:Nat)(hw:w<4294967296):IntKind.i64.wrap (Dn w)=Dn w:=by
 unfold Dn
 split<;>exact eQ (by omega) (by omega)
theorem dl5{op d a b i:Int}{w:Nat}(h:decide (Ah op d a b i≠0)=(!false)):¬(dP op d a b i=true∧fp op d a b i=w):=by
 have h':=aY (show decide (Ah op d a b i≠0)=true from h)
 unfold Ah at h'
 intro hh
 rw[ae hh.1]at h'
 exact h' rfl
theorem dl6{op d a b i:Int}{w:Nat}(h:decide (w82 op d a b i≠(w:Int))=true):¬(dP op d a b i=true∧fp op d a b i=w):=by
 have h':=aY h
 unfold w82 at h'
 intro hh
 rw[ae hh.1,hh.2]at h'
 exact h' rfl
theorem ofY{op d a b i:Int}{w:Nat}(h:decide (Ah op d a b i≠0)=false)(h2:decide (w82 op d a b i≠(w:Int))=false):dP op d a b i=true∧fp op d a b i=w:=by
 have h':=of_decide_eq_false h
 have h2':=of_decide_eq_false h2
 unfold Ah at h'
 unfold w82 at h2'
 by_cases hm:dP op d a b i=true
 ·rw[ae hm]at h2';refine⟨hm,?_⟩;have:=Classical.not_not.1 h2';omega
 ·rw[ab hm]at h';exact absurd (by decide) h'
theorem dw7(Φ:Nat→Option CF)(h:Φ 116=some am7)(nZ:Φ 81=some (.orc (aJ nZ)))(wt:Φ 80=some (.orc (aJ wt)))(nY:Φ 117=some (.orc (aJ nY)))(Ob:Φ 82=some (.orc (aJ Ob)))(w:Nat)(hw:w<4294967296)(ct:Nat):
 To Φ 116 [.i .u32 (w:Int)] ct (ML w):=by
 refine dw h ?_
 have q1:=qI w hw
 have q2:=ei (w%256) (by omega)
 have q3:=zJ w
 have q4:=pa (w/4096) (by omega)
 have q5:=ei (w/4096%16) (by omega)
 have q6:=Da w
 have q7:=pa (w/256) (by omega)
 have q8:=ei (w/256%16) (by omega)
 have q9:=zK w
 have q10:=ei (w/65536) (by omega)
 have q11:=bO0 w hw
 have q12:=ay6 w hw
 unfold ML dW aW bW iW
 have hop:uG w=((w%256:Nat):Int):=rfl
 rw[hop]
 generalize((w%256:Nat):Int)=op at *
 rcases nV op with hf|hf|hf|hf|hf|hf|hf
 all_goals
  simp only[WX,Nat.reduceBEq,Int.reduceEq,Nat.reduceAdd,Nat.reduceLeDiff,by6,nZ,ql,wt,ER,nY,Jv,hf,dI,aI,bI,iI,q1,q2,q3,q4,q5,q6,q7,q8,q9,q10,q11,q12,Ob,XD]
  repeat' first|(refine iZ (by simp only[WX];rfl) (fun h=>?_) (fun h=>?_)<;>simp only[WX,Nat.reduceBEq,Nat.reduceAdd,Nat.reduceLeDiff,by6,h,Ob,XD,q9,q10])|(refine yy (by simp only[WX];rfl) (fun h=>?_) (fun h=>?_)<;>simp only[WX,Nat.reduceAdd,Nat.reduceLeDiff,by6,h])
 all_goals first
  |rw[ae (show op=3∨op=6 from aY (by assumption))]
  |rw[ab (show¬(op=3∨op=6)from of_decide_eq_false (by assumption))]
  |skip
 all_goals first
  |rw[ae (ofY (by assumption) (by assumption))]
  |rw[ab (dl6 (by assumption))]
  |rw[ab (dl5 (by assumption))]
def Rd:CC:=(.reg [(aa a2 (.al 100 [(.i .i64 0),(.i .i64 0),(.i .i64 0),(.i .i64 0),(.i .i64 0)])),(qq a3 (.mv (x6 0)))])
def Re:CC:=(.reg [(qq a9 (.mv z0)),(qq dp (.bi .and z9 (.c (.i .u32 255)))),(qq dk (.ci .i64 dx)),(qq dy (.bld [(.i .i64 0),(.i .i64 0),(.i .i64 0),(.i .i64 0),(.i .i64 0)] [(0,1,dC)])),(aa a4 (.al 100 [(.i .i64 0),(.i .i64 0),(.i .i64 0),(.i .i64 0),(.i .i64 0)])),(ez (.st 5 z4 dX))])
def Rf:CC:=(.reg [(qq dL (.fa 0 z4)),(qq dS (.ld1 eu)),(ee dY (.call 127 [dM])),(ee eE (.call 126 [eF])),(qq dN (.mv eD)),(qq dT (.ex 0 dG)),(qq eG (.ex 1 dG)),(qq fF (.ex 2 dG)),(qq eR (.ex 3 dG)),(qq a5 (.mv fm)),(qq a6 (.mv fS)),(qq a7 (.mv fD)),(qq a8 (.mv gv))])
def Rg:CC:=(.reg [(qq fv (.mv z5))])
def Rh:CC:=(.reg [(qq fl (.mv z0)),(qq dU (.bi .shr gH (.c (.i .u64 12)))),(qq eV (.bi .and gM (.c (.i .u32 15)))),(qq eb (.ci .i64 gO)),(qq fG (.fa 1 z4)),(ez (.st 1 gy gw))])
def Ri:CC:=(.seq Rg (.cond gb Rh .skip))
def Rj:CC:=(.reg [(qq gi (.mv z6))])
def Rk:CC:=(.reg [(qq gg (.mv z0)),(qq gQ (.bi .shr iA (.c (.i .u64 8)))),(qq j4 (.bi .and iE (.c (.i .u32 15)))),(qq gj (.ci .i64 jh)),(qq iG (.fa 2 z4)),(ez (.st 1 kz jL))])
def Rl:CC:=(.seq Rj (.cond iz Rk .skip))
def IR:CC:=(.reg [(qq fT (.mv z7))])
def IU:CC:=(.reg [(qq j5 (.mv z0)),(qq kv (.bi .shr kD (.c (.i .u64 16)))),(qq jq (.bi .and ll (.c (.i .u32 255)))),(qq gR (.ci .i64 kr)),(qq j6 (.fa 3 z4)),(ez (.st 1 lh kW))])
def IV:CC:=(.seq IR (.cond kC IU .skip))
def IW:CC:=(.reg [(qq jr (.mv z8))])
def IX:CC:=(.reg [(qq kF (.mv z0)),(qq jM (.bi .shr lq (.c (.i .u64 16)))),(qq j7 (.ci .i64 lr)),(qq ky (.fa 4 z4)),(ez (.st 1 ny mW))])
def IY:CC:=(.reg [(qq js (.fa 0 z4)),(qq kX (.ld1 nG)),(qq kY (.bi .neq oD (x6 3))),(qq kB (.mv nA)),(av iB (.fa 0 z4) kB),(av nC (.ld1 nH) kB),(av kG (.bi .neq oF (x6 6)) kB),(qq kH (.pk oE pl xF)),(qq j8 (.mv pS)),(av nK (.fa 4 z4) j8),(av nL (.ld1 pU) j8),(av kI (.bi .gtr qO (x6 32767)) j8),(qq lx (.pk pm pn xF))])
def IZ:CC:=(.reg [(qq lT (.fa 4 z4)),(qq qa (.ld1 qU)),(qq oI (.bi .sub sB (x6 65536))),(qq qb (.fa 4 z4)),(ez (.st 1 ug sw))])
def J0:CC:=(.seq IY (.cond qT IZ .skip))
def J1:CC:=(.cond lm (.seq IX J0) .skip)
def J2:CC:=(.reg [(qq pq (.ldn 5 z4)),(ee pj (.call 166 [sy])),(qq qc (.un .not tC)),(qq qd (.mv yA)),(aH tG (.ldn 5 z4) qd),(Am tH (.call 167 [vn]) qd),(aH qQ (.mv z0) qd),(aH um (.bi .neq xX xY) qd),(qq uo (.pk uM xT ya))])
def J3:CC:=(.reg [(qq qX (.bld [(.i .i64 0),(.i .i64 0),(.i .i64 0),(.i .i64 0),(.i .i64 0)] [])),(ez (.st 5 z2 yc)),(qq a3 (.mv (x6 4)))])
def J4:CC:=(.cond yb (.seq J3 .ret) .skip)
def J5:CC:=(.reg [(qq vE (.ldn 5 z4)),(ez (.st 5 z2 Bz)),(qq a3 (.mv (x6 0)))])
def J6:CC:=(.seq (.seq IW J1) (.seq (.seq J2 J4) (.seq J5 .ret)))
def J7:CC:=(.seq Rf (.seq Ri (.seq Rl (.seq IV J6))))
def an6:CF:= .mk 7 [.cn a2 5,.t a3] (.seq Rd (.seq Re J7))
theorem di2(v0:V):aU 7 [v0]=(.n sc (some v0) sc):=rfl
def by8:=ai @di2 (ai (wu Rd.eq_1) (ai (wu Re.eq_1) (ai (wu Rf.eq_1) (ai (wu Rg.eq_1) (ai (wu Rh.eq_1) (ai (wu Ri.eq_1) (ai (wu Rj.eq_1) (ai (wu Rk.eq_1) (ai (wu Rl.eq_1) (ai (wu IR.eq_1) (ai (wu IU.eq_1) (ai (wu IV.eq_1) (ai (wu IW.eq_1) (ai (wu IX.eq_1) (ai (wu IY.eq_1) (ai (wu IZ.eq_1) (ai (wu J0.eq_1) (ai (wu J1.eq_1) (ai (wu J2.eq_1) (ai (wu J3.eq_1) (ai (wu J4.eq_1) (ai (wu J5.eq_1) (ai (wu J6.eq_1) (wu J7.eq_1))))))))))))))))))))))))
def sX:List V→Option V
 |[.g [.i .i64 op,.i .i64 d,.i .i64 a,.i .i64 b,.i .i64 i]]=>some (.b (dP op d a b i))
 |_=>none
theorem Ao(op d a b i:Int):sX [.g [.i .i64 op,.i .i64 d,.i .i64 a,.i .i64 b,.i .i64 i]]=some (.b (dP op d a b i)):=rfl
def wp:List V→Option V
 |[.g [.i .i64 op,.i .i64 d,.i .i64 a,.i .i64 b,.i .i64 i]]=>if dP op d a b i=true then some (.i .u32 (fp op d a b i:Nat))else none
 |_=>none
theorem as5{op d a b i:Int}(h:(!dP op d a b i)=false):wp [.g [.i .i64 op,.i .i64 d,.i .i64 a,.i .i64 b,.i .i64 i]]=some (.i .u32 (fp op d a b i:Nat)):=by
 show(if dP op d a b i=true then some (V.i .u32 (fp op d a b i:Nat))else none)=_
 rw[ae (by simpa using h)]
def bR(w:Nat):Int:=if bI (bE (uG w))=true then((w/65536%256:Nat):Int)else 0
def N9(w:Nat):V:=
 if dP (uG w) (dW w) (aW w) (bR w) (iW w)=true∧fp (uG w) (dW w) (aW w) (bR w) (iW w)=w then .t [.g [.i .i64 (uG w),.i .i64 (dW w),.i .i64 (aW w),.i .i64 (bR w),.i .i64 (iW w)],.i .i64 0]
 else .t [.g [.i .i64 0,.i .i64 0,.i .i64 0,.i .i64 0,.i .i64 0],.i .i64 4]
theorem dw1{op d a b i:Int}{w:Nat}(h:(!dP op d a b i)=(!false)):¬(dP op d a b i=true∧fp op d a b i=w):=by
 intro hh
 rw[hh.1]at h;cases h
theorem dw2{op d a b i:Int}{w:Nat}(h:decide (((fp op d a b i:Nat):Int)≠(w:Int))=true):¬(dP op d a b i=true∧fp op d a b i=w):=by
 have h':=aY h
 intro hh
 exact h' (by rw[hh.2])
theorem rfY{op d a b i:Int}{w:Nat}(h:(!dP op d a b i)=false)(h2:decide (((fp op d a b i:Nat):Int)≠(w:Int))=false):dP op d a b i=true∧fp op d a b i=w:=by
 have h':=of_decide_eq_false h2
 exact⟨by simpa using h,by have:=Classical.not_not.1 h';omega⟩
theorem dx4(Φ:Nat→Option CF)(h:Φ 153=some an6)(h127:Φ 127=some (.orc (aJ nZ)))(kb:Φ 126=some (.orc (aJ kb)))(sX:Φ 166=some (.orc (aJ sX)))(wp:Φ 167=some (.orc (aJ wp)))(w:Nat)(hw:w<4294967296)(ct:Nat):
 To Φ 153 [.i .u32 (w:Int)] ct (N9 w):=by
 refine dw h ?_
 have q1:=qI w hw
 have q2:=ei (w%256) (by omega)
 have q3:=zJ w
 have q4:=pa (w/4096) (by omega)
 have q5:=ei (w/4096%16) (by omega)
 have q6:=Da w
 have q7:=pa (w/256) (by omega)
 have q8:=ei (w/256%16) (by omega)
 have q9:=zK w
 have q10:=ei (w/65536) (by omega)
 have q11:=qI (w/65536) (by omega)
 have q12:=ei (w/65536%256) (by omega)
 have q13:IntKind.i64.wrap (((w/65536:Nat):Int)-65536)=((w/65536:Nat):Int)-65536:=eQ (by omega) (by omega)
 unfold N9 dW aW bR iW
 have hop:uG w=((w%256:Nat):Int):=rfl
 rw[hop]
 generalize((w%256:Nat):Int)=op at *
 rcases nV op with hf|hf|hf|hf|hf|hf|hf
 all_goals
  simp only[WX,Int.reduceEq,Nat.reduceAdd,Nat.reduceLeDiff,by8,h127,ql,kb,An,hf,dI,aI,bI,iI,q1,q2,q3,q4,q5,q6,q7,q8,q9,q10,q11,q12,sX,Ao]
  repeat' first|(refine iZ (by simp only[WX];rfl) (fun h=>?_) (fun h=>?_)<;>simp only[WX,Nat.reduceAdd,Nat.reduceLeDiff,by8,h,sX,Ao,q13])|(refine yy (by simp only[WX];rfl) (fun h=>?_) (fun h=>?_)<;>simp only[WX,Nat.reduceAdd,Nat.reduceLeDiff,by8,h,sX,Ao,wp,as5])
 all_goals first
  |(have e:(if op=3∨op=6 then((w/65536:Nat):Int)else Dn w)=((w/65536:Nat):Int):=by(simp only[decide_eq_true_eq,decide_eq_false_iff_not,Bool.not_true,Bool.not_false,ne_eq,Classical.not_not]at *;unfold Dn;(repeat' split)<;>omega)
    rw[e])
  |(have e:(if op=3∨op=6 then((w/65536:Nat):Int)else Dn w)=((w/65536:Nat):Int)-65536:=by(simp only[decide_eq_true_eq,decide_eq_false_iff_not,Bool.not_false,ne_eq,Classical.not_not]at *;unfold Dn;(repeat' split)<;>omega)
    rw[e])
  |skip
 all_goals first
  |rw[ae (rfY (by assumption) (by assumption))]
  |rw[ab (dw2 (by assumption))]
  |rw[ab (dw1 (by assumption))]
theorem Kj(w:Nat)(hw:w<4294967296):N9 w=ML w:=by
 unfold N9 ML
 by_cases hb:bI (bE (uG w))=true
 ·have e1:bW w=((w/65536:Nat):Int):=ae hb;have e2:bR w=((w/65536%256:Nat):Int):=ae hb;by_cases h:w/65536<256
  ·have:bR w=bW w:=by rw[e1,e2,Nat.mod_eq_of_lt h]
   rw[this]
  ·have hf:bE (uG w)=5:=aY hb;have hi:iW w=0:=ab (by rw[hf];decide);rw[ab,ab]
   ·rintro⟨hm,_⟩;have:=kP hm;rw[e1]at this;omega
   ·rintro⟨hm,hw2⟩;have hbd:=kP hm;unfold fp at hw2;rw[hi]at hw2;have:bR w<256:=by rw[e2];omega
    omega
 ·have e1:bW w=0:=ab hb;have e2:bR w=0:=ab hb;rw[e1,e2]
def okW(w:Nat):Bool:=decide (dP (uG w) (dW w) (aW w) (bW w) (iW w)=true∧fp (uG w) (dW w) (aW w) (bW w) (iW w)=w)
def okI(w:Nat)(x:Int):Int:=if okW w=true then x else 0
def erW(w:Nat):Int:=if okW w=true then 0 else 4
theorem o9(w:Nat):ML w= .t [.g [.i .i64 (okI w (uG w)),.i .i64 (okI w (dW w)),.i .i64 (okI w (aW w)),.i .i64 (okI w (bW w)),.i .i64 (okI w (iW w))],.i .i64 (erW w)]:=by
 unfold ML okI erW okW
 by_cases h:dP (uG w) (dW w) (aW w) (bW w) (iW w)=true∧fp (uG w) (dW w) (aW w) (bW w) (iW w)=w
 ·rw[ae h];simp only[af h,if_true]
 ·rw[ab h];simp only[ah h,bg,if_false]
def bg3:CC:=(.reg [(aa a2 (.al 100 [(.i .i64 0),(.i .i64 0),(.i .i64 0),(.i .i64 0),(.i .i64 0)])),(qq a3 (.mv (x6 0)))])
def bg4:CC:=(.reg [(qq a4 (.mv z0)),(qq a5 (.ln .slice z4)),(qq a6 (.bi .neq z5 (x6 4)))])
def bg5:CC:=(.reg [(qq a7 (.bld [(.i .i64 0),(.i .i64 0),(.i .i64 0),(.i .i64 0),(.i .i64 0)] [])),(ez (.st 5 z2 z7)),(qq a3 (.mv (x6 4)))])
def bg6:CC:=(.seq bg4 (.cond z6 (.seq bg5 .ret) .skip))
def bg7:CC:=(.dreg 27 [(0,0,(qq a8 (.mv z0))),(1,1,(qq a9 (.iaS 1 z8 (x6 0)))),(2,3,(qq dp (.ld1 z9))),(3,7,(qq dk (.ci .u32 dx))),(4,0,(qq dy (.mv z0))),(5,16,(qq dN (.iaS 1 dX (x6 1)))),(6,48,(qq dL (.ld1 dG))),(7,112,(qq dS (.ci .u32 eu))),(8,240,(qq dY (.bi .shl dM (.c (.i .u64 8))))),(9,511,(qq eE (.bi .or dC eF))),(10,0,(qq dT (.mv z0))),(11,1024,(qq eG (.iaS 1 fm (x6 2)))),(12,3072,(qq fF (.ld1 fS))),(13,7168,(qq eR (.ci .u32 fD))),(14,15360,(qq fv (.bi .shl gv (.c (.i .u64 16))))),(15,32767,(qq fl (.bi .or eD gb))),(16,0,(qq dU (.mv z0))),(17,65536,(qq eV (.iaS 1 gM (x6 3)))),(18,196608,(qq eb (.ld1 gO))),(19,458752,(qq fG (.ci .u32 gw))),(20,983040,(qq gi (.bi .shl gy (.c (.i .u64 24))))),(21,2097151,(qq gg (.bi .or gH iz))),(22,4194303,(ee gQ (.call 116 [iA]))),(23,8388607,(qq j4 (.ex 0 iE))),(24,8388607,(qq gj (.ex 1 iE))),(25,33554431,(ez (.st 5 z2 jh))),(26,67108863,(qq a3 (.mv jL)))])
def c90:CF:= .mk 6 [.cn a2 5,.t a3] (.seq bg3 (.seq bg6 (.seq bg7 .ret)))
theorem e90(v0:V):aU 6 [v0]=(.n mM (some v0) mM):=rfl
def B90:=ai @e90 (ai (wu bg3.eq_1) (ai (wu bg4.eq_1) (ai (wu bg5.eq_1) (ai (wu bg6.eq_1) (wu bg7.eq_1)))))
def h116:List V→Option V
 |[.i .u32 (.ofNat w)]=>if w<4294967296 then some (ML w)else none
 |_=>none
theorem ar8(w:Nat)(h:w<4294967296):h116 [.i .u32 (w:Int)]=some (ML w):=ae h
def wB:V:= .t [.g [.i .i64 0,.i .i64 0,.i .i64 0,.i .i64 0,.i .i64 0],.i .i64 4]
def Q8:CC:=(.reg [(aa a2 (.al 100 [(.i .i64 0),(.i .i64 0),(.i .i64 0),(.i .i64 0),(.i .i64 0)])),(qq a3 (.mv (x6 0)))])
def Q9:CC:=(.reg [(qq a4 (.mv z0)),(qq a5 (.ln .slice z4)),(qq a6 (.bi .neq z5 (x6 4)))])
def Qa:CC:=(.reg [(qq a7 (.bld [(.i .i64 0),(.i .i64 0),(.i .i64 0),(.i .i64 0),(.i .i64 0)] [])),(ez (.st 5 z2 z7)),(qq a3 (.mv (x6 4)))])
def Qb:CC:=(.seq Q9 (.cond z6 (.seq Qa .ret) .skip))
def Qc:CC:=(.dreg 27 [(0,0,(qq a8 (.mv z0))),(1,1,(qq a9 (.iaS 1 z8 (x6 0)))),(2,3,(qq dp (.ld1 z9))),(3,7,(qq dk (.ci .u32 dx))),(4,0,(qq dy (.mv z0))),(5,16,(qq dN (.iaS 1 dX (x6 1)))),(6,48,(qq dL (.ld1 dG))),(7,112,(qq dS (.ci .u32 eu))),(8,240,(qq dY (.bi .shl dM (.c (.i .u64 8))))),(9,511,(qq eE (.bi .add dC eF))),(10,0,(qq dT (.mv z0))),(11,1024,(qq eG (.iaS 1 fm (x6 2)))),(12,3072,(qq fF (.ld1 fS))),(13,7168,(qq eR (.ci .u32 fD))),(14,15360,(qq fv (.bi .shl gv (.c (.i .u64 16))))),(15,32767,(qq fl (.bi .add eD gb))),(16,0,(qq dU (.mv z0))),(17,65536,(qq eV (.iaS 1 gM (x6 3)))),(18,196608,(qq eb (.ld1 gO))),(19,458752,(qq fG (.ci .u32 gw))),(20,983040,(qq gi (.bi .shl gy (.c (.i .u64 24))))),(21,2097151,(qq gg (.bi .add gH iz))),(22,4194303,(ee gQ (.call 153 [iA]))),(23,8388607,(qq j4 (.ex 0 iE))),(24,8388607,(qq gj (.ex 1 iE))),(25,33554431,(ez (.st 5 z2 jh))),(26,67108863,(qq a3 (.mv jL)))])
def WS:CF:= .mk 6 [.cn a2 5,.t a3] (.seq Q8 (.seq Qb (.seq Qc .ret)))
theorem dh5(v0:V):aU 6 [v0]=(.n mM (some v0) mM):=rfl
def cf3:=ai @dh5 (ai (wu Q8.eq_1) (ai (wu Q9.eq_1) (ai (wu Qa.eq_1) (ai (wu Qb.eq_1) (wu Qc.eq_1)))))
def h153:List V→Option V
 |[.i .u32 (.ofNat w)]=>if w<4294967296 then some (N9 w)else none
 |_=>none
theorem as4(w:Nat)(h:w<4294967296):h153 [.i .u32 (w:Int)]=some (N9 w):=ae h
def CL:List UInt8→V
 |[a,b,c,d]=>ML (a.toNat+256*b.toNat+65536*c.toNat+16777216*d.toNat)
 |_=>wB
theorem CM(h:l.length≠4):CL l=wB:=by
 match l with
 |[]=>rfl
 |[_]=>rfl
 |[_,_]=>rfl
 |[_,_,_]=>rfl
 |[_,_,_,_]=>exact absurd rfl h
 |_::_::_::_::_::_=>rfl
theorem XW(h:l.length=4):∃a b c d,l=[a,b,c,d]:=by
 match l with
 |[a,b,c,d]=>exact⟨a,b,c,d,rfl⟩
theorem r90(Φ:Nat→Option CF)(h:Φ 90=some c90)(h116:Φ 116=some (.orc (aJ h116)))(ok:cO F M c)(hs:fC F M c v l):
 Calls Φ F 90 [v] M c fun r M' c'=>r=CL l∧Gr c M c' M':=by
 have hl:=hs.len
 refine ax h ?_
 by_cases h1004:l.length=4
 ·obtain⟨x0,x1,x2,x3,rfl⟩:=XW h1004;obtain⟨b0,o0,hb0,i0,r0⟩:=hs.get 0 (by simp);obtain⟨b1,o1,hb1,i1,r1⟩:=hs.get 1 (by simp);obtain⟨b2,o2,hb2,i2,r2⟩:=hs.get 2 (by simp);obtain⟨b1003,o1003,hb3,i3,r1003⟩:=hs.get 3 (by simp);have i0:gf 1 v (.i .i64 0)=some (.p b0 o0):=i0 _;have i1:gf 1 v (.i .i64 1)=some (.p b1 o1):=i1 _;have i2:gf 1 v (.i .i64 2)=some (.p b2 o2):=i2 _;have i3:gf 1 v (.i .i64 3)=some (.p b1003 o1003):=i3 _;have n0:b0≠c:=by omega
  have n1:b1≠c:=by omega
  have n2:b2≠c:=by omega
  have n3:b1003≠c:=by omega
  have hl:l6 v=some (.i .i64 4):=hl;have r0:load1 F M b0 o0=some (.i .u8 (x0.toNat:Int)):=r0;have r1:load1 F M b1 o1=some (.i .u8 (x1.toNat:Int)):=r1;have r2:load1 F M b2 o2=some (.i .u8 (x2.toNat:Int)):=r2;have r1003:load1 F M b1003 o1003=some (.i .u8 (x3.toNat:Int)):=r1003;have k0:=UInt8.toNat_lt x0;have k1:=UInt8.toNat_lt x1;have k2:=UInt8.toNat_lt x2;have k3:=UInt8.toNat_lt x3;have hfree:=ok.free_set;show Wp _ _ _ (dA F _ fun r M' c'=>r=ML (x0.toNat+256*x1.toNat+65536*x2.toNat+16777216*x3.toNat)∧Gr c M c' M');generalize x0.toNat=c0 at *;generalize x1.toNat=c1 at *;generalize x2.toNat=c2 at *;generalize x3.toNat=c1003 at *;have e0:=dF c0 (by omega);have e1:=dF c1 (by omega);have e2:=dF c2 (by omega);have e1003:=dF c1003 (by omega);have s1:=xM c1 (by omega);have s2:=pf c2 (by omega);have s3:=zI c1003 (by omega);have n1':(c0|||256*c1)=c0+256*c1:=K1 c0 c1 k0;have n2':(c0+256*c1|||65536*c2)=c0+256*c1+65536*c2:=wP _ c2 (by omega);have n3':(c0+256*c1+65536*c2|||16777216*c1003)=c0+256*c1+65536*c2+16777216*c1003:=by
   rw[Nat.or_comm,←Nat.two_pow_add_eq_or_of_lt (show c0+256*c1+65536*c2<2^24 by omega) c1003];omega
  have p1:=qK c0 (256*c1) (by omega) (by omega);have p2:=qK (c0+256*c1) (65536*c2) (by omega) (by omega);have p3:=qK (c0+256*c1+65536*c2) (16777216*c1003) (by omega) (by omega);rw[n1']at p1;rw[n2']at p2;rw[n3']at p3;have hq:=ar8 (c0+256*c1+65536*c2+16777216*c1003) (by omega);rw[o9]at hq;rw[o9];clear n1' n2' n3';generalize c0+256*c1+65536*c2+16777216*c1003=a3 at *;generalize c0+256*c1+65536*c2=a2 at *;generalize c0+256*c1=a1 at *;clear h1004 hs;simp only[WX,Nat.reducePow,Nat.reduceDiv,Nat.reduceMod,Nat.reduceBEq,Nat.reduceAdd,Nat.reduceLeDiff,jz,B90,not_true_eq_false,hl,i0,i1,i2,i3,r0,r1,r2,r1003,e0,e1,e2,e1003,s1,s2,s3,p1,p2,p3,h116,hq,hfree,n0,n1,n2,n3,ne_eq,not_false_eq_true];exact(Gr.refl ok).set c _ (ak _) (by omega) (by omega)
 ·have hd:decide ((l.length:Int)≠4)=true:=af (by omega);rw[CM h1004];simp only[WX,Nat.reduceAdd,Nat.reduceLeDiff,B90,hl,hd,wB];exact(Gr.refl ok).set c _ (ak _) (by omega) (by omega)
theorem dv4(Φ:Nat→Option CF)(h:Φ 125=some WS)(h153:Φ 153=some (.orc (aJ h153)))(ok:cO F M c)(hs:fC F M c v l):
 Calls Φ F 125 [v] M c fun r M' c'=>r=CL l∧Gr c M c' M':=by
 have hl:=hs.len
 refine ax h ?_
 by_cases h1004:l.length=4
 ·obtain⟨x0,x1,x2,x3,rfl⟩:=XW h1004;obtain⟨b0,o0,hb0,i0,r0⟩:=hs.get 0 (by simp);obtain⟨b1,o1,hb1,i1,r1⟩:=hs.get 1 (by simp);obtain⟨b2,o2,hb2,i2,r2⟩:=hs.get 2 (by simp);obtain⟨b1003,o1003,hb3,i3,r1003⟩:=hs.get 3 (by simp);have i0:gf 1 v (.i .i64 0)=some (.p b0 o0):=i0 _;have i1:gf 1 v (.i .i64 1)=some (.p b1 o1):=i1 _;have i2:gf 1 v (.i .i64 2)=some (.p b2 o2):=i2 _;have i3:gf 1 v (.i .i64 3)=some (.p b1003 o1003):=i3 _;have n0:b0≠c:=by omega
  have n1:b1≠c:=by omega
  have n2:b2≠c:=by omega
  have n3:b1003≠c:=by omega
  have hl:l6 v=some (.i .i64 4):=hl;have r0:load1 F M b0 o0=some (.i .u8 (x0.toNat:Int)):=r0;have r1:load1 F M b1 o1=some (.i .u8 (x1.toNat:Int)):=r1;have r2:load1 F M b2 o2=some (.i .u8 (x2.toNat:Int)):=r2;have r1003:load1 F M b1003 o1003=some (.i .u8 (x3.toNat:Int)):=r1003;have k0:=UInt8.toNat_lt x0;have k1:=UInt8.toNat_lt x1;have k2:=UInt8.toNat_lt x2;have k3:=UInt8.toNat_lt x3;have hfree:=ok.free_set;show Wp _ _ _ (dA F _ fun r M' c'=>r=ML (x0.toNat+256*x1.toNat+65536*x2.toNat+16777216*x3.toNat)∧Gr c M c' M');generalize x0.toNat=c0 at *;generalize x1.toNat=c1 at *;generalize x2.toNat=c2 at *;generalize x3.toNat=c1003 at *;have e0:=dF c0 (by omega);have e1:=dF c1 (by omega);have e2:=dF c2 (by omega);have e1003:=dF c1003 (by omega);have s1:=xM c1 (by omega);have s2:=pf c2 (by omega);have s3:=zI c1003 (by omega);have p1:=kU c0 (256*c1) (by omega);have p2:=kU (c0+256*c1) (65536*c2) (by omega);have p3:=kU (c0+256*c1+65536*c2) (16777216*c1003) (by omega);have hq:=as4 (c0+256*c1+65536*c2+16777216*c1003) (by omega);rw[Kj _ (by omega),o9]at hq;rw[o9];generalize c0+256*c1+65536*c2+16777216*c1003=a3 at *;generalize c0+256*c1+65536*c2=a2 at *;generalize c0+256*c1=a1 at *;clear h1004 hs;simp only[WX,Nat.reducePow,Nat.reduceDiv,Nat.reduceMod,Nat.reduceBEq,Nat.reduceAdd,Nat.reduceLeDiff,jz,cf3,not_true_eq_false,hl,i0,i1,i2,i3,r0,r1,r2,r1003,e0,e1,e2,e1003,s1,s2,s3,p1,p2,p3,h153,hq,hfree,n0,n1,n2,n3,ne_eq,not_false_eq_true];exact(Gr.refl ok).set c _ (ak _) (by omega) (by omega)
 ·have hd:decide ((l.length:Int)≠4)=true:=af (by omega);rw[CM h1004];simp only[WX,Nat.reduceAdd,Nat.reduceLeDiff,cf3,hl,hd,wB];exact(Gr.refl ok).set c _ (ak _) (by omega) (by omega)
def ba5:CC:=(.reg [(qq a5 (.bi .eql z3 (x6 3))),(qq a4 (.mv z5))])
def ba6:CC:=(.reg [(qq a7 (.bi .eql z3 (x6 23))),(qq a6 (.mv z7))])
def ba7:CC:=(.reg [(qq a9 (.bi .eql z3 (x6 24))),(qq a8 (.mv z9))])
def ba8:CC:=(.reg [(qq dk (.bi .eql z3 (x6 5))),(qq dp (.mv dC))])
def ba9:CC:=(.reg [(qq dy (.bi .eql z3 (x6 6))),(qq dp (.mv dX))])
def bb0:CC:=(.reg [(qq dN (.bi .eql z3 (x6 25))),(qq dp (.mv dG))])
def bb4:CC:=(.cond dx .skip (.seq ba9 (.cond dx .skip bb0)))
def bb7:CC:=(.seq (.seq ba8 bb4) (.cond dx (.exit 4) .skip))
def bb8:CC:=(.reg [(qq dS (.bi .eql z3 (x6 7))),(qq dL (.mv dM))])
def Vy:CC:=(.seq bb7 (.seq bb8 (.cond eu (.exit 5) .skip)))
def Vz:CC:=(.seq (.seq ba7 (.cond z8 (.exit 3) .skip)) Vy)
def VA:CC:=(.seq (.seq ba6 (.cond z6 (.exit 2) .skip)) Vz)
def VB:CC:=(.seq (.seq ba5 (.cond z4 (.exit 1) .skip)) VA)
def VD:CC:=(.seq (.reg [(qq a2 (.mv (x6 1)))]) .ret)
def VE:CC:=(.seq (.block 2 (.block 1 (.seq VB (.exit 0)))) (.seq VD (.exit 0)))
def VF:CC:=(.seq (.reg [(qq a2 (.mv (x6 2)))]) .ret)
def VG:CC:=(.seq (.reg [(qq a2 (.mv (x6 3)))]) .ret)
def VH:CC:=(.seq (.block 4 (.seq (.block 3 VE) (.seq VF (.exit 0)))) (.seq VG (.exit 0)))
def VI:CC:=(.seq (.reg [(qq a2 (.mv (x6 4)))]) .ret)
def VJ:CC:=(.seq (.reg [(qq a3 (.mv z0))]) (.block 0 (.seq (.block 5 VH) (.seq VI (.exit 0)))))
def VK:CC:=(.reg [(qq eE (.mv z0)),(qq dT (.bi .geq eD (x6 8))),(qq eG (.mv fm)),(av fF (.mv z0) eG),(av eR (.bi .leq fD (x6 17)) eG),(qq fv (.pk fS gv xF)),(qq dY (.mv gb))])
def VL:CC:=(.seq (.reg [(qq a2 (.mv (x6 5)))]) .ret)
def VM:CC:=(.reg [(qq dU (.mv z0)),(qq eV (.bi .geq gM (x6 18))),(qq eb (.mv gO)),(av fG (.mv z0) eb),(av gi (.bi .leq gy (x6 22)) eb),(qq gg (.pk gw iz xF)),(qq gQ (.mv iA)),(aH j4 (.mv z0) gQ),(aH gj (.bi .geq jh (x6 26)) gQ),(aH iG (.mv jL) gQ),(av fT (.mv z0) iG),(av j5 (.bi .leq kC (x6 28)) iG),(aH kv (.pk kz kD xF) gQ),(qq jq (.pk iE xT ll)),(qq fl (.mv kr))])
def VN:CC:=(.seq (.reg [(qq a2 (.mv (x6 6)))]) .ret)
def VP:CC:=(.seq VM (.cond gH VN .skip))
def VQ:CC:=(.seq VK (.cond eF VL VP))
def VS:CC:=(.seq (.reg [(qq a2 (.mv (x6 0)))]) .ret)
def VT:CC:=(.seq (.reg [(qq a2 (.mv (x6 0)))]) (.seq VJ (.seq (.block 6 VQ) VS)))
def c81:CF:= .mk 6 [.t a2] VT
theorem e81(v0:V):aU 6 [v0]=(.n mM (some v0) mM):=rfl
def B81:=ai @e81 (ai (wu ba5.eq_1) (ai (wu ba6.eq_1) (ai (wu ba7.eq_1) (ai (wu ba8.eq_1) (ai (wu ba9.eq_1) (ai (wu bb0.eq_1) (ai (wu bb4.eq_1) (ai (wu bb7.eq_1) (ai (wu bb8.eq_1) (ai (wu Vy.eq_1) (ai (wu Vz.eq_1) (ai (wu VA.eq_1) (ai (wu VB.eq_1) (ai (wu VD.eq_1) (ai (wu VE.eq_1) (ai (wu VF.eq_1) (ai (wu VG.eq_1) (ai (wu VH.eq_1) (ai (wu VI.eq_1) (ai (wu VJ.eq_1) (ai (wu VK.eq_1) (ai (wu VL.eq_1) (ai (wu VM.eq_1) (ai (wu VN.eq_1) (ai (wu VP.eq_1) (ai (wu VQ.eq_1) (ai (wu VS.eq_1) (wu VT.eq_1))))))))))))))))))))))))))))
def Qm:CC:=(.reg [(qq a5 (.bi .eql z3 (x6 3))),(qq a4 (.mv z5))])
def Qn:CC:=(.reg [(qq a6 (.bi .eql z3 (x6 23))),(qq a4 (.mv z6))])
def Qo:CC:=(.seq (.reg [(qq a2 (.mv (x6 1)))]) .ret)
def Qp:CC:=(.reg [(qq a8 (.bi .eql z3 (x6 24))),(qq a7 (.mv z8))])
def Qq:CC:=(.seq (.reg [(qq a2 (.mv (x6 2)))]) .ret)
def Qr:CC:=(.reg [(qq dp (.bi .eql z3 (x6 5))),(qq a9 (.mv dx))])
def Qs:CC:=(.reg [(qq dk (.bi .eql z3 (x6 6))),(qq a9 (.mv dC))])
def Qt:CC:=(.reg [(qq dy (.bi .eql z3 (x6 25))),(qq a9 (.mv dX))])
def Qu:CC:=(.cond z9 .skip (.seq Qs (.cond z9 .skip Qt)))
def HB:CC:=(.seq (.reg [(qq a2 (.mv (x6 3)))]) .ret)
def HC:CC:=(.reg [(qq dL (.bi .eql z3 (x6 7))),(qq dN (.mv eu))])
def HD:CC:=(.seq (.reg [(qq a2 (.mv (x6 4)))]) .ret)
def HE:CC:=(.reg [(qq dY (.bi .eql z3 (x6 8))),(qq dS (.mv eF))])
def HF:CC:=(.reg [(qq eE (.bi .eql z3 (x6 9))),(qq dS (.mv eD))])
def HG:CC:=(.reg [(qq dT (.bi .eql z3 (x6 10))),(qq dS (.mv fm))])
def HH:CC:=(.reg [(qq eG (.bi .eql z3 (x6 11))),(qq dS (.mv fS))])
def HI:CC:=(.reg [(qq fF (.bi .eql z3 (x6 12))),(qq dS (.mv fD))])
def HJ:CC:=(.reg [(qq eR (.bi .eql z3 (x6 13))),(qq dS (.mv gv))])
def HK:CC:=(.reg [(qq fv (.bi .eql z3 (x6 14))),(qq dS (.mv gb))])
def HL:CC:=(.reg [(qq fl (.bi .eql z3 (x6 15))),(qq dS (.mv gH))])
def HM:CC:=(.reg [(qq dU (.bi .eql z3 (x6 16))),(qq dS (.mv gM))])
def HN:CC:=(.reg [(qq eV (.bi .eql z3 (x6 17))),(qq dS (.mv gO))])
def HO:CC:=(.seq HM (.cond dM .skip HN))
def HP:CC:=(.seq HL (.cond dM .skip HO))
def HQ:CC:=(.seq HK (.cond dM .skip HP))
def HR:CC:=(.seq HJ (.cond dM .skip HQ))
def HS:CC:=(.seq HI (.cond dM .skip HR))
def HT:CC:=(.seq HH (.cond dM .skip HS))
def HU:CC:=(.seq HG (.cond dM .skip HT))
def HV:CC:=(.seq HF (.cond dM .skip HU))
def HW:CC:=(.seq HE (.cond dM .skip HV))
def HX:CC:=(.seq (.reg [(qq a2 (.mv (x6 5)))]) .ret)
def HY:CC:=(.reg [(qq fG (.bi .eql z3 (x6 18))),(qq eb (.mv gy))])
def HZ:CC:=(.reg [(qq gi (.bi .eql z3 (x6 19))),(qq eb (.mv iz))])
def I0:CC:=(.reg [(qq gg (.bi .eql z3 (x6 20))),(qq eb (.mv iA))])
def I3:CC:=(.reg [(qq gQ (.bi .eql z3 (x6 21))),(qq eb (.mv iE))])
def I4:CC:=(.reg [(qq j4 (.bi .eql z3 (x6 22))),(qq eb (.mv jh))])
def I5:CC:=(.reg [(qq gj (.bi .eql z3 (x6 26))),(qq eb (.mv jL))])
def I6:CC:=(.reg [(qq iG (.bi .eql z3 (x6 27))),(qq eb (.mv kz))])
def I7:CC:=(.reg [(qq fT (.bi .eql z3 (x6 28))),(qq eb (.mv kC))])
def I8:CC:=(.seq I6 (.cond gw .skip I7))
def I9:CC:=(.seq I5 (.cond gw .skip I8))
def Ia:CC:=(.seq I4 (.cond gw .skip I9))
def Ib:CC:=(.seq I3 (.cond gw .skip Ia))
def Ic:CC:=(.seq I0 (.cond gw .skip Ib))
def Id:CC:=(.seq HZ (.cond gw .skip Ic))
def Ie:CC:=(.seq HY (.cond gw .skip Id))
def Ig:CC:=(.seq (.reg [(qq a2 (.mv (x6 6)))]) .ret)
def Ih:CC:=(.seq Ie (.cond gw Ig .skip))
def Ii:CC:=(.seq HW (.cond dM HX Ih))
def Ij:CC:=(.seq HC (.cond dG HD Ii))
def Il:CC:=(.seq (.seq Qr Qu) (.cond z9 HB Ij))
def Im:CC:=(.cond z4 Qo (.seq Qp (.cond z7 Qq Il)))
def Io:CC:=(.seq (.seq Qm (.cond z4 .skip Qn)) Im)
def Ip:CC:=(.seq (.reg [(qq a3 (.mv z0))]) (.block 0 Io))
def Iq:CC:=(.seq (.reg [(qq a2 (.mv (x6 0)))]) .ret)
def Ir:CC:=(.seq (.reg [(qq a2 (.mv (x6 0)))]) (.seq Ip Iq))
def an3:CF:= .mk 6 [.t a2] Ir
theorem dh7(v0:V):aU 6 [v0]=(.n mM (some v0) mM):=rfl
def by7:=ai @dh7 (ai (wu Qm.eq_1) (ai (wu Qn.eq_1) (ai (wu Qo.eq_1) (ai (wu Qp.eq_1) (ai (wu Qq.eq_1) (ai (wu Qr.eq_1) (ai (wu Qs.eq_1) (ai (wu Qt.eq_1) (ai (wu Qu.eq_1) (ai (wu HB.eq_1) (ai (wu HC.eq_1) (ai (wu HD.eq_1) (ai (wu HE.eq_1) (ai (wu HF.eq_1) (ai (wu HG.eq_1) (ai (wu HH.eq_1) (ai (wu HI.eq_1) (ai (wu HJ.eq_1) (ai (wu HK.eq_1) (ai (wu HL.eq_1) (ai (wu HM.eq_1) (ai (wu HN.eq_1) (ai (wu HO.eq_1) (ai (wu HP.eq_1) (ai (wu HQ.eq_1) (ai (wu HR.eq_1) (ai (wu HS.eq_1) (ai (wu HT.eq_1) (ai (wu HU.eq_1) (ai (wu HV.eq_1) (ai (wu HW.eq_1) (ai (wu HX.eq_1) (ai (wu HY.eq_1) (ai (wu HZ.eq_1) (ai (wu I0.eq_1) (ai (wu I3.eq_1) (ai (wu I4.eq_1) (ai (wu I5.eq_1) (ai (wu I6.eq_1) (ai (wu I7.eq_1) (ai (wu I8.eq_1) (ai (wu I9.eq_1) (ai (wu Ia.eq_1) (ai (wu Ib.eq_1) (ai (wu Ic.eq_1) (ai (wu Id.eq_1) (ai (wu Ie.eq_1) (ai (wu Ig.eq_1) (ai (wu Ih.eq_1) (ai (wu Ii.eq_1) (ai (wu Ij.eq_1) (ai (wu Il.eq_1) (ai (wu Im.eq_1) (ai (wu Io.eq_1) (ai (wu Ip.eq_1) (ai (wu Iq.eq_1) (wu Ir.eq_1)))))))))))))))))))))))))))))))))))))))))))))))))))))))))
theorem t81(Φ:Nat→Option CF)(h:Φ 81=some c81)(op:Int)(ct:Nat):To Φ 81 [.i .i64 op] ct (.i .i64 (bE op)):=by
 refine dw h ?_
 simp only[WX,B81]
 repeat' first|(refine iZ (by simp only[WX];rfl) (fun h=>?_) (fun h=>?_)<;>simp only[WX,Nat.reduceEqDiff,reduceCtorEq,B81,h])|(refine yy (by simp only[WX];rfl) (fun h=>?_) (fun h=>?_)<;>simp only[WX,B81,h])
 all_goals (simp only[decide_eq_true_eq,decide_eq_false_iff_not,Bool.not_true,Bool.not_false]at *;congr 1;unfold bE;repeat' split)
 all_goals first|rfl|omega
theorem dx2(Φ:Nat→Option CF)(h:Φ 127=some an3)(op:Int)(ct:Nat):To Φ 127 [.i .i64 op] ct (.i .i64 (bE op)):=by
 refine dw h ?_
 simp only[WX,by7]
 repeat' first|(refine iZ (by simp only[WX];rfl) (fun h=>?_) (fun h=>?_)<;>simp only[WX,by7,h])|(refine yy (by simp only[WX,Nat.reducePow,Nat.reduceDiv,Nat.reduceMod,Nat.reduceBEq,Nat.reduceEqDiff,Int.reduceEq,Int.reduceLT,Int.reduceLE,reduceIte,reduceCtorEq,Nat.reduceAdd,Nat.reduceLeDiff,jz];rfl) (fun h=>?_) (fun h=>?_)<;>simp only[WX,Nat.reducePow,Nat.reduceDiv,Nat.reduceMod,Nat.reduceBEq,Nat.reduceEqDiff,Int.reduceEq,Int.reduceLT,Int.reduceLE,reduceIte,reduceCtorEq,Nat.reduceAdd,Nat.reduceLeDiff,jz,by7,h])
 all_goals (simp only[decide_eq_true_eq,decide_eq_false_iff_not]at *;congr 1;unfold bE;repeat' split)
 all_goals first|rfl|omega
theorem wK:i9 (fun _=>False) io:=by unfold io;simp[i9,bd]
theorem Y3(op:Int):bd (fun _=>False) (nj op):=by
 unfold nj
 split
 ·cases hn:io[op.toNat]? with
  |none=>trivial
  |some x=>exact(kK _ _).1 wK x (List.mem_of_getElem? hn)
 ·trivial
theorem dy1(Φ:Nat→Option CF)(h:Φ 82=some c82)(uA:Φ 91=some (.orc (aJ uA)))(op d a b i:Int)(ct:Nat):
 To Φ 82 [.g [.i .i64 op,.i .i64 d,.i .i64 a,.i .i64 b,.i .i64 i]] ct (.t [.i .u32 (w82 op d a b i),.i .i64 (Ah op d a b i)]):=by
 have:=t82 Φ h uA op d a b i ct
 unfold w82 Ah
 by_cases hm:dP op d a b i=true
 ·simp only[hm,if_true]at this⊢;exact this
 ·simp only[hm]at this⊢;exact this
section
variable{P:Program}(hm:P.follows .mixedOrders=true){Φ:Nat→Option CF}(hΦ:fo P Φ)
include hm hΦ
theorem o81(h:Φ 81=some c81):bY P 81 (aJ nZ):=dv hm hΦ (by
 intro args v ct hv hct;unfold nZ at hv;split at hv
 ·obtain rfl:=ag hv;exact⟨trivial,t81 Φ h _ _⟩
 ·cases hv)
theorem dk6(h:Φ 127=some an3):bY P 127 (aJ nZ):=dv hm hΦ (by
 intro args v ct hv hct;unfold nZ at hv;split at hv
 ·obtain rfl:=ag hv;exact⟨trivial,dx2 Φ h _ _⟩
 ·cases hv)
theorem o80(h:Φ 80=some c80):bY P 80 (aJ wt):=dv hm hΦ (by
 intro args v ct hv hct;unfold wt at hv;split at hv
 ·obtain rfl:=ag hv;exact⟨⟨trivial,trivial,trivial,trivial,trivial⟩,t80 Φ h _ _⟩
 ·cases hv)
theorem dk5(h:Φ 126=some an2):bY P 126 (aJ kb):=dv hm hΦ (by
 intro args v ct hv hct;unfold kb at hv;split at hv
 ·obtain rfl:=ag hv;exact⟨⟨trivial,trivial,trivial,trivial,trivial⟩,dx1 Φ h _ _⟩
 ·cases hv)
theorem dk2(h:Φ 118=some am9):bY P 118 (aJ wl):=dv hm hΦ (by
 intro args v ct hv hct;unfold wl at hv;split at hv
 ·obtain rfl:=ag hv;exact⟨trivial,dw9 Φ h _ _⟩
 ·cases hv)
theorem dk1(h:Φ 117=some am8):bY P 117 (aJ nY):=dv hm hΦ (by
 intro args v ct hv hct;unfold nY at hv;split at hv
 ·obtain rfl:=ag hv;exact⟨trivial,dw8 Φ h _ _⟩
 ·cases hv)
theorem dl4(h:Φ 173=some ao2):bY P 173 (aJ wq):=dv hm hΦ (by
 intro args v ct hv hct;unfold wq at hv;split at hv
 ·obtain rfl:=ag hv;exact⟨trivial,dy0 Φ h _ _ _⟩
 ·cases hv)
theorem dk3(h:Φ 119=some an0):bY P 119 (aJ wm):=dv hm hΦ (by
 intro args v ct hv hct;unfold wm at hv;split at hv
 ·obtain rfl:=ag hv;exact⟨wK,dx0 Φ h _⟩
 ·cases hv)
theorem o92(h:Φ 92=some c92)(wm:Φ 119=some (.orc (aJ wm))):bY P 92 (aJ Cl):=dv hm hΦ (by
 intro args v ct hv hct;unfold Cl at hv;split at hv
 ·obtain rfl:=ag hv;exact⟨Y3 _,t92 Φ h wm _ _⟩
 ·cases hv)
theorem dl2(h:Φ 166=some ao0)(h127:Φ 127=some (.orc (aJ nZ)))(kb:Φ 126=some (.orc (aJ kb)))(wq:Φ 173=some (.orc (aJ wq))):bY P 166 (aJ sX):=dv hm hΦ (by
 intro args v ct hv hct;unfold sX at hv;split at hv
 ·obtain rfl:=ag hv;exact⟨trivial,dx8 Φ h h127 kb wq _ _ _ _ _ _⟩
 ·cases hv)
theorem o91(h:Φ 91=some c91)(nZ:Φ 81=some (.orc (aJ nZ)))(wt:Φ 80=some (.orc (aJ wt)))(nY:Φ 117=some (.orc (aJ nY)))(wl:Φ 118=some (.orc (aJ wl)))(Cl:Φ 92=some (.orc (aJ Cl))):bY P 91 (aJ uA):=dv hm hΦ (by
 intro args v ct hv hct;unfold uA at hv;split at hv
 ·obtain rfl:=ag hv;exact⟨trivial,t91 Φ h nZ wt nY wl Cl _ _ _ _ _ _⟩
 ·cases hv)
theorem o82(h:Φ 82=some c82)(uA:Φ 91=some (.orc (aJ uA))):bY P 82 (aJ Ob):=dv hm hΦ (by
 intro args v ct hv hct;unfold Ob at hv;split at hv
 ·obtain rfl:=ag hv;exact⟨⟨trivial,trivial,trivial⟩,dy1 Φ h uA _ _ _ _ _ _⟩
 ·cases hv)
theorem dl3(h:Φ 167=some ao1)(h127:Φ 127=some (.orc (aJ nZ))):bY P 167 (aJ wp):=dv hm hΦ (by
 intro args v ct hv hct;unfold wp at hv;split at hv
 ·split at hv
  ·obtain rfl:=ag hv;exact⟨trivial,dx9 Φ h h127 _ _ _ _ _ (by assumption) _⟩
  ·cases hv
 ·cases hv)
theorem dk0(h:Φ 116=some am7)(nZ:Φ 81=some (.orc (aJ nZ)))(wt:Φ 80=some (.orc (aJ wt)))(nY:Φ 117=some (.orc (aJ nY)))(Ob:Φ 82=some (.orc (aJ Ob))):bY P 116 (aJ h116):=dv hm hΦ (by
 intro args v ct hv hct;unfold h116 at hv;split at hv
 ·split at hv
  ·obtain rfl:=ag hv;refine⟨?_,dw7 Φ h nZ wt nY Ob _ (by assumption) _⟩;rw[o9];exact⟨⟨trivial,trivial,trivial,trivial,trivial,trivial⟩,trivial,trivial⟩
  ·cases hv
 ·cases hv)
theorem dk9(h:Φ 153=some an6)(h127:Φ 127=some (.orc (aJ nZ)))(kb:Φ 126=some (.orc (aJ kb)))(sX:Φ 166=some (.orc (aJ sX)))(wp:Φ 167=some (.orc (aJ wp))):bY P 153 (aJ h153):=dv hm hΦ (by
 intro args v ct hv hct;unfold h153 at hv;split at hv
 ·split at hv
  ·obtain rfl:=ag hv;refine⟨?_,dx4 Φ h h127 kb sX wp _ (by assumption) _⟩;rw[Kj _ (by assumption),o9];exact⟨⟨trivial,trivial,trivial,trivial,trivial,trivial⟩,trivial,trivial⟩
  ·cases hv
 ·cases hv)
end
def au4(x:Ins):Bool:=dP x.op x.d x.a x.b x.i
def d88(x:Ins):Nat:=fp x.op x.d x.a x.b x.i
theorem XH{l:List Ins}(hs:bG F M c 5 v (l.map qn))(i:Nat)(hi:i<l.length):
 ∃b o,b<c∧(∀k,gf 5 v (.i k (i:Int))=some (.p b o))∧loadN F M b o 5=some [.i .i64 l[i].op,.i .i64 l[i].d,.i .i64 l[i].a,.i .i64 l[i].b,.i .i64 l[i].i]:=by
 obtain⟨b,o,h1,h2,h1003⟩:=hs.at i (by simpa using hi)
 refine⟨b,o,h1,h2,?_⟩
 rw[List.getElem_map]at h1003
 exact h1003.load (by unfold qn;simp)
def bc4:CC:=(.reg [(qq a3 (.mv z0)),(qq a4 (.eq false .slice true z3 (.c .l0)))])
def bc5:CC:=(.seq (.reg [(qq a2 (.mv (.c .l0)))]) .ret)
def bc6:CC:=(.reg [(aa a5 (.bsl 5 0 1 [(.i .u8 0)] [])),(qq a6 (.mv z0)),(ee a7 (.app 5 1 1 z5 z6)),(qq a2 (.mv z7))])
def bc7:CC:=(.seq (.seq bc4 (.cond z4 bc5 .skip)) (.seq bc6 .ret))
def bc8:CC:=(.seq (.reg [(qq a2 (.mv (.c .l0)))]) bc7)
def c88:CF:= .mk 4 [.t a2] bc8
theorem e88(v0:V):aU 4 [v0]=(.n iy (some v0) iy):=rfl
def B88:=ai @e88 (ai (wu bc4.eq_1) (ai (wu bc5.eq_1) (ai (wu bc6.eq_1) (ai (wu bc7.eq_1) (wu bc8.eq_1)))))
def aW8:CC:=(.reg [(qq a4 (.mv z0)),(ee a5 (.call 88 [z4])),(aa a3 (.al 26 [.l0])),(ez (.st 1 z3 z5))])
def aW9:CC:=(.reg [(qq a6 (.mkf 89 [] [z3])),(qq a2 (.mv z6))])
def aX0:CC:=(.seq (.reg [(qq a2 (.mv (.c .f0)))]) (.seq aW8 (.seq aW9 .ret)))
def c52:CF:= .mk 3 [.t a2] aX0
theorem e52(v0:V):aU 3 [v0]=(.n nF (some v0) nF):=rfl
def B52:=ai @e52 (ai (wu aW8.eq_1) (ai (wu aW9.eq_1) (wu aX0.eq_1)))
theorem bL6(h:bG F M c sz v es):(v= .l0∧es=[])∨(v≠ .l0∧uE v=some false):=by
 rcases h with⟨_,⟨rfl,rfl|⟨b,o0,o,rfl⟩⟩|⟨b,o,⟨cap,_,rfl⟩|⟨el,kn,_,rfl⟩,_⟩⟩
 ·exact .inl ⟨rfl,rfl⟩
 ·exact .inr ⟨(by intro h;cases h),rfl⟩
 ·exact .inr ⟨(by intro h;cases h),rfl⟩
 ·exact .inr ⟨(by intro h;cases h),rfl⟩
theorem Xu(lit:Bool)(M:Mem):yR F M .slice lit .l0 .l0=some true:=rfl
theorem Xt(h:uE v=some false)(lit:Bool)(M:Mem):yR F M .slice lit v .l0=some false:=by
 show jx true (uE v) (uE .l0)=_
 rw[h];rfl
theorem ag8{bytes:Nat}{y:V}{ns:List (List V)}(hg:Gr c0 M0 c M)(hsz:0<sz)(hy:bG F M c sz y ns)(h1:bj ns.flatten=true)(hr:jJ ns.length bytes=true)(hb:b<c):
 tF (kZ F M c ty sz bytes (.l b 0 0 0) y) fun v' M' c'=>gh F M' b c' sz v' ns∧Gr c0 M0 c' M'∧c≤c'∧v'≠ .l0:=by
 unfold kZ
 rw[ov hsz hy]
 have hnl:=gk hy.1
 have e1:mm F M c ty sz bytes (.l b 0 0 0) (some (ns.length,ns.flatten))=app F M c ty sz bytes (.l b 0 0 0) ns.length ns.flatten:=by
  show(bif bj ns.flatten&&Nat.beq ns.flatten.length (Nat.mul ns.length sz)then _ else _)=_;rw[h1,bK,af (show ns.flatten.length=Nat.mul ns.length sz from hnl)];rfl
 rw[e1]
 by_cases hz:ns=[]
 ·subst hz;refine⟨.l b 0 0 0,M,c,rfl,fun M' _=>⟨fun e he=>(by cases he),.inr ⟨b,0,.inl ⟨0,ak _,rfl⟩,hb,fun k hk=>(by cases hk)⟩⟩,hg,ak _,(by intro h;cases h)⟩
 ·have hn0:ns.length≠0:=fun e=>hz (List.length_eq_zero_iff.1 e);have e2:app F M c ty sz bytes (.l b 0 0 0) ns.length ns.flatten=ju M c ty bytes ns.length 0 false ns.flatten:=by
   unfold app;rw[bK,ah hn0,cond_false];show pu F M c ty sz bytes b 0 0 0 ns.length ns.flatten=_;unfold pu;rw[cE,ah (show¬Nat.add 0 ns.length≤0 by show¬0+ns.length≤0;omega),cond_false];show sW M c ty bytes (0+ns.length) 0 false ns.flatten (some ([],none))=_;rw[Nat.zero_add];rfl
  refine⟨_,_,_,e2.trans (nX M c ty bytes ns.length ns.flatten hr),fun M' hM'=>⟨hy.1,.inr ⟨c,0,.inr ⟨0,ns.length,by omega,rfl⟩,by omega,(AR (by rw[hM' c (by omega) (by omega)];exact am _ _ _)).cells⟩⟩,hg.set c _ hg.le (by omega) (by omega),by omega,(by intro h;cases h)⟩
theorem r88(Φ:Nat→Option CF)(h:Φ 88=some c88)(ok:cO F M c)(hs:fC F M c v l)(hl:l.length≤9000):
 Calls Φ F 88 [v] M c fun r M' c'=>gh F M' c c' 1 r (l.map fun x=>[bV x])∧Gr c M c' M':=by
 refine ax h ?_
 rcases bL6 hs with⟨rfl,hn⟩|⟨hv,hn⟩
 ·simp only[WX,B88,Xu];exact⟨fun M' _=>⟨hs.1,.inl ⟨hn,.inl rfl⟩⟩,Gr.refl ok⟩
 ·have q:=fun lit M=>Xt (F:=F) hn lit M;simp only[WX,B88,q];have hg:=fun x=>(Gr.refl ok).set c x (ak _) (aD _) (aA _);refine aw ((ag8 (M0:=M) (c0:=c) (hg _) Nat.one_pos (hs.grow (hg _)) (ly l) (db (by simp;omega) (by simp;omega)) (aD _)).mono ?_);rintro v1 M1 c1 ⟨h1,h2,_,_⟩;simp only[WX];exact⟨h1,h2⟩
theorem r52(Φ:Nat→Option CF)(h:Φ 52=some c52)(h88:Φ 88=some c88)(ok:cO F M c)(hs:fC F M c v l)(hl:l.length≤9000):
 Calls Φ F 52 [v] M c fun r M' c'=>∃pb w,r= .f 89 [] [.p pb 0]∧c≤pb∧pb<c'∧M'.get pb=some (au 26 [w])∧gh F M' c c' 1 w (l.map fun x=>[bV x])∧Gr c M c' M':=by
 refine ax h ?_
 simp only[WX,B52]
 refine aw ((r88 Φ h88 ok hs hl).mono ?_)
 rintro v1 M1 c1 ⟨hs1,hg1⟩
 have h1:dD v1=true:=by
  rcases hs1.sl with⟨_,⟨_,rfl|⟨b,o0,o,rfl⟩⟩|⟨b,o,⟨cap,_,rfl⟩|⟨el,kn,_,rfl⟩,_⟩⟩<;>rfl
 have h2:flatten v1=[v1]:=by
  rcases hs1.sl with⟨_,⟨_,rfl|⟨b,o0,o,rfl⟩⟩|⟨b,o,⟨cap,_,rfl⟩|⟨el,kn,_,rfl⟩,_⟩⟩<;>rfl
 simp only[WX,Nat.reduceLeDiff,B52,h1,h2]
 have hg2:=hg1.set c1 (au 26 [v1]) hg1.le (aD _) (aA _)
 exact⟨c1,v1,rfl,hg1.le,aD _,am _ _ _,hs1.gr ((Gr.refl (hg1.ok ok)).set c1 _ (ak _) (aD _) (aA _)),hg2⟩
def iD(a b c d:UInt8):Nat:=a.toNat+256*b.toNat+65536*c.toNat+16777216*d.toNat
def uC(w:Nat):Ins:=⟨uG w,dW w,aW w,bW w,iW w⟩
def aS:List UInt8→List Ins
 |a::b::c::d::r=>if okW (iD a b c d)=true then uC (iD a b c d)::aS r else[]
 |_=>[]
theorem rQ(a b c d:UInt8)(r:List UInt8):aS (a::b::c::d::r)=if okW (iD a b c d)=true then uC (iD a b c d)::aS r else[]:=by rw[aS]
theorem fX(h:l.length<4):aS l=[]:=by
 match l,h with
 |[],_=>rfl
 |[_],_=>rfl
 |[_,_],_=>rfl
 |[_,_,_],_=>rfl
theorem CP{a b c d:UInt8}(h:okW (iD a b c d)=true):CL [a,b,c,d]= .t [.g (qn (uC (iD a b c d))),.i .i64 0]:=by
 show ML (iD a b c d)=_
 rw[o9]
 simp only[okI,erW,h,if_true]
 rfl
theorem CN{a b c d:UInt8}(h:¬okW (iD a b c d)=true):CL [a,b,c,d]=wB:=by
 show ML (iD a b c d)=_
 rw[o9]
 simp only[okI,erW,h]
 rfl
theorem Js{k:Nat}(h:4*k+4≤l.length):∃a b c d,(l.take (4*k+4)).drop (4*k)=[a,b,c,d]∧l.drop (4*k)=a::b::c::d::l.drop (4*(k+1)):=by
 have h1:((l.take (4*k+4)).drop (4*k)).length=4:=by simp;omega
 obtain⟨a,b,c,d,e⟩:=XW h1
 refine⟨a,b,c,d,e,?_⟩
 have e2:l.drop (4*k)=(l.drop (4*k)).take 4++(l.drop (4*k)).drop 4:=(List.take_append_drop _ _).symm
 rw[List.drop_take,show 4*k+4-4*k=4 by omega]at e
 rw[e,List.drop_drop]at e2
 rw[e2,show 4*(k+1)=4*k+4 by omega];rfl
theorem mz:∀(n:Nat) (l:List UInt8),l.length≤n→4*(aS l).length≤l.length
 |0,l,h=>by
  rw[fX (by omega)];simp
 |n+1,l,h=>by
  by_cases h1004:l.length<4
  ·rw[fX h1004];simp
  ·obtain⟨a,b,c,d,r,rfl⟩:∃a b c d r,l=a::b::c::d::r:=by
    match l,h1004 with
    |a::b::c::d::r,_=>exact⟨a,b,c,d,r,rfl⟩
    |[],h1004=>exact absurd (by decide) h1004
    |[_],h1004=>exact absurd (by simp) h1004
    |[_,_],h1004=>exact absurd (by simp) h1004
    |[_,_,_],h1004=>exact absurd (by simp) h1004
   rw[rQ];split
   ·have:=mz n r (by simp at h;omega);simp only[aP];omega
   ·simp
abbrev aA4(u:List (Option V))(x0 x3 x4:V):T:=(.n (.n (.n (fu u 15 7 23) (some x3) (fu u 19 11 27)) (uO u 1) (aq u 17 9 25 5 21 13 29)) (some x0) (.n (.n (fu u 16 8 24) (some x4) (fu u 20 12 28)) (uO u 2) (aq u 18 10 26 6 22 14 30)))
def P3:CC:=(.reg [(qq a4 (.mv (x6 0)))])
def P4:CC:=(.reg [(qq a7 (.mv z4)),(qq a8 (.bi .add z7 (x6 4))),(qq a9 (.mv z0)),(qq dp (.ln .slice z9)),(qq dk (.bi .leq z8 dx))])
def P5:CC:=(.seq P4 (.cond dC .skip (.exit 0)))
def P6:CC:=(.reg [(qq dS (.mv z0)),(qq dY (.mv z4)),(qq eE (.mv z4)),(qq dT (.bi .add eD (x6 4))),(qq eG (.slL 1 dM (some eF) (some fm) none)),(ee fF (.call 125 [fS])),(qq dL (.mv fD)),(qq eR (.ex 0 eu)),(qq fv (.ex 1 eu)),(aa a5 (.al 100 [(.i .i64 0),(.i .i64 0),(.i .i64 0),(.i .i64 0),(.i .i64 0)])),(ez (.st 5 z5 gv)),(qq a6 (.mv gb))])
def P7:CC:=(.reg [(qq fl (.mv z6)),(qq dU (.bi .neq gH (x6 0)))])
def P8:CC:=(.reg [(qq eV (.mv z3)),(qq a2 (.mv gO))])
def P9:CC:=(.cond gM (.seq P8 .ret) .skip)
def Pa:CC:=(.reg [(qq eb (.mv z3)),(qq fG (.ldn 5 z5)),(aa gi (.bsl 100 1 5 [(.i .i64 0),(.i .i64 0),(.i .i64 0),(.i .i64 0),(.i .i64 0)] [(0,gy)])),(ee gg (.app 100 5 40 gw iz)),(qq a3 (.mv iA))])
def Pb:CC:=(.reg [(qq dy (.mv z4)),(qq dN (.bi .add dX (x6 4))),(qq a4 (.mv dG))])
def GG:CC:=(.seq (.block 1 (.seq P6 (.seq (.seq P7 P9) Pa))) Pb)
def GH:CC:=(.reg [(qq gQ (.mv z3)),(qq a2 (.mv iE))])
def GI:CC:=(.seq (.seq P3 (.block 0 (.loop (.seq P5 GG)))) (.seq GH .ret))
def GJ:CC:=(.seq (.reg [(qq a3 (.mv (.c .l0)))]) GI)
def GK:CC:=(.seq (.reg [(qq a2 (.mv (.c .l0)))]) GJ)
def am5:CF:= .mk 5 [.t a2] GK
theorem dg6(v0:V):aU 5 [v0]=(.n lj (some v0) lj):=rfl
def Lg:=ai @dg6 (ai (wu P3.eq_1) (ai (wu P4.eq_1) (ai (wu P5.eq_1) (ai (wu P6.eq_1) (ai (wu P7.eq_1) (ai (wu P8.eq_1) (ai (wu P9.eq_1) (ai (wu Pa.eq_1) (ai (wu Pb.eq_1) (ai (wu GG.eq_1) (ai (wu GH.eq_1) (ai (wu GI.eq_1) (ai (wu GJ.eq_1) (wu GK.eq_1))))))))))))))
theorem du8(Φ:Nat→Option CF)(h:Φ 100=some am5)(h153:Φ 153=some (.orc (aJ h153)))(h125:Φ 125=some WS)(ok:cO F M c)(hs:fC F M c v l)(hl:l.length≤9000):
 Calls Φ F 100 [v] M c fun r M' c'=>gh F M' c c' 5 r ((aS l).map qn)∧Gr c M c' M':=by
 refine ax h ?_
 have hln:=hs.len
 simp only[WX,Lg]
 obtain⟨I,hI⟩:∃I:Nat→St→Prop,∀n s,I n s↔(∃(k:Nat) (M1:Mem) (c1 bw:Nat) (acc:V) (pre:List Ins) (u:List (Option V)),n=l.length-4*k∧4*k≤l.length∧s= .mk ((aA4 u v acc (.i .i64 ((4*k:Nat):Int)))) [] M1 c1∧pre.length=k∧pre++aS (l.drop (4*k))=aS l∧Gr c M c1 M1∧cA M1 c c1 bw 100 5 acc (pre.map qn)):=⟨fun n s=>_,fun _ _=>Iff.rfl⟩
 refine bD I ?_ l.length _ ((hI _ _).2 ⟨0,_,_,c,_,[],(G1 (X2 (G2 (cj (X8 (X2 [])))))),rfl,aE _,rfl,rfl,rfl,Gr.refl ok,cA.nil⟩)
 intro n s hIs
 obtain⟨k,M1,c1,bw,acc,pre,u,rfl,hk,rfl,hpl,hpre,hg,hacc⟩:=(hI _ _).1 hIs
 clear hIs
 have q8:bX .add (.i .i64 ((4*k:Nat):Int)) (.i .i64 4)=some (.i .i64 ((4*k+4:Nat):Int)):=by rw[aN _ _ (by omega) (by omega)];simp
 by_cases hlt:4*k+4≤l.length
 ·have hd:decide (((4*k+4:Nat):Int)≤(l.length:Int))=true:=af (by omega);obtain⟨a0,a1,a2,a3,hfour,hdrop⟩:=Js hlt;obtain⟨v',e1,-,-,-,hs'⟩:=Kv (hs.grow hg) (show 4*k≤4*k+4 by omega) (by rw[List.length_map];exact hlt);have hs':fC F M1 c1 v' [a0,a1,a2,a3]:=by
   rw[←hfour];unfold fC;rw[List.map_drop,List.map_take];exact hs'
  simp only[WX,Lg,hln,hd,q8,e1];refine aw ((dv4 Φ h125 h153 (hg.ok ok) hs').mono ?_);rintro v2 M2 c2 ⟨rfl,hg2⟩;rw[hdrop,rQ]at hpre;have hgg:=hg.trans hg2;have hacc2:=hacc.gr hg2;have hgx:=fun x=>hgg.set c2 x hgg.le (aD _) (aA _);by_cases hok:okW (iD a0 a1 a2 a3)=true
  ·rw[CP hok];rw[ae hok]at hpre;have hins:qn (uC (iD a0 a1 a2 a3))=[.i .i64 (uC (iD a0 a1 a2 a3)).op,.i .i64 (uC (iD a0 a1 a2 a3)).d,.i .i64 (uC (iD a0 a1 a2 a3)).a,.i .i64 (uC (iD a0 a1 a2 a3)).b,.i .i64 (uC (iD a0 a1 a2 a3)).i]:=rfl;have hlen2:4*pre.length≤l.length:=by omega
   generalize uC (iD a0 a1 a2 a3)=x at hpre hins;simp only[WX,Nat.reduceAdd,Nat.reduceLeDiff,Lg,hins,ne_eq,not_true_eq_false];have hacc3:=fun y z=>hacc2.up (M':=(M2.set c2 y).set (c2+1) z) (c':=c2+2) (by omega) (fun hb=>by rw[az _ _ (by omega),az _ _ (by omega)]);have hgy:=fun y z=>(hgx y).set (c2+1) z (by have:=hgg.le;omega) (aD _) (aA _);have hy:bG F ((M2.set c2 (au 100 (qn x))).set (c2+1) (cQ [V.i .i64 0,.i .i64 0,.i .i64 0,.i .i64 0,.i .i64 0] 100 (qn x))) (c2+2) 5 (.l (c2+1) 0 1 1) [qn x]:=qS (d:=[V.i .i64 0,.i .i64 0,.i .i64 0,.i .i64 0,.i .i64 0]) (ty:=100) (by rw[am];simp) (by omega) (by simp[qn]) rfl;unfold qn at hy;refine aw ((eH (bytes:=40) (ns:=[qn x]) (hacc3 _ _) (hgy _ _) (by decide) hy rfl (db (by simp;omega) (by simp;omega))).mono ?_);rintro v6 M6 c1006 ⟨bw',hacc6,hg6,-,-,-⟩;simp only[WX,Lg,q8];refine⟨l.length-4*(k+1),by omega,(hI _ _).2 ⟨k+1,M6,c1006,bw',v6,pre++[x],(G1 (X2 (G2 (cj (X8 (X2 [])))))),rfl,by omega,rfl,by simp[hpl],?_,hg6,by rw[List.map_append];exact hacc6⟩⟩;rw[cB];exact hpre
  ·rw[CN hok];rw[ab hok,cu]at hpre;simp only[WX,Int.reduceEq,Nat.reduceAdd,Nat.reduceLeDiff,Lg,wB,ne_eq,not_false_eq_true];subst hpre;exact⟨(hacc2.up (c':=c2+1) (by omega) (fun hb=>az _ _ (by omega))).own,hgx _⟩
 ·have hd:decide (((4*k+4:Nat):Int)≤(l.length:Int))=false:=ah (by omega);simp only[WX,Lg,hln,hd,q8];rw[fX (by rw[eL];omega),cu]at hpre;subst hpre;exact⟨hacc.own,hg⟩
abbrev bO8(u:List (Option V))(x0 x1 x3:V):T:=(.n (.n (.n (fu u 15 7 23) (some x3) (fu u 19 11 27)) (some x1) (aq u 17 9 25 5 21 13 29)) (some x0) (.n (aq u 16 8 24 4 20 12 28) (uO u 2) (aq u 18 10 26 6 22 14 30)))
def bc9:CC:=(.reg [(qq a3 (.mv (x6 0)))])
def bd0:CC:=(.reg [(qq a6 (.mv z3)),(qq a7 (.bi .add z6 (x6 4))),(qq a8 (.ld1 z1)),(qq a9 (.ln .slice z8)),(qq dp (.bi .leq z7 z9))])
def bd1:CC:=(.reg [(qq dL (.ld1 z1)),(qq dS (.mv z3)),(qq dY (.mv z3)),(qq eE (.bi .add eF (x6 4))),(qq dT (.slL 1 eu (some dM) (some eD) none)),(ee eG (.call 90 [fm])),(qq dN (.mv fS)),(qq fF (.ex 0 dG)),(qq eR (.ex 1 dG)),(aa a4 (.al 100 [(.i .i64 0),(.i .i64 0),(.i .i64 0),(.i .i64 0),(.i .i64 0)])),(ez (.st 5 z4 fD)),(qq a5 (.mv gv))])
def bd2:CC:=(.reg [(qq fv (.mv z5)),(qq fl (.bi .neq gb (x6 0))),(qq dU (.mv gH)),(aH eV (.mv z0) dU),(aH eb (.mv z3) dU),(aH fG (.ldn 5 z4) dU),(Am gi (.cv gO [gw,gy]) dU),(aH gg (.un .not iz) dU),(qq gQ (.pk gM xT iA))])
def bd3:CC:=(.seq bd1 (.seq bd2 (.cond iE .ret .skip)))
def bd4:CC:=(.reg [(qq dk (.mv z3)),(qq dy (.bi .add dC (x6 4))),(qq a3 (.mv dX))])
def bd5:CC:=(.seq (.seq bd0 (.cond dx .skip (.exit 0))) (.seq (.block 1 bd3) bd4))
def c89:CF:= .mk 5 [] (.seq bc9 (.block 0 (.loop bd5)))
theorem e89(v0 v1:V):aU 5 [v0,v1]=(.n (.n iy (some v1) iy) (some v0) lj):=rfl
def B89:=ai @e89 (ai (wu bc9.eq_1) (ai (wu bd0.eq_1) (ai (wu bd1.eq_1) (ai (wu bd2.eq_1) (ai (wu bd3.eq_1) (ai (wu bd4.eq_1) (wu bd5.eq_1)))))))
theorem r89(Φ:Nat→Option CF)(h:Φ 89=some c89)(h116:Φ 116=some (.orc (aJ h116)))(h90:Φ 90=some c90){y w:Nat}{pb:Nat}(hl:l.length≤9000){I:Nat→Mem→Nat→Prop}{J:Mem→Nat→Prop}(h0:I 0 M c)
 (hI:∀k M c,I k M c→cO F M c∧pb<c∧M.get pb=some (au 26 [v])∧fC F M c v l)
 (hG:∀k M c M' c',I k M c→Gr c M c' M'→I k M' c')
 (hY:∀k M c,(hk:k<(aS l).length)→I k M c→tF (nb (K Φ none 89 F) (.y y) [.i .i64 ((4*k:Nat):Int),.g (qn (aS l)[k])] M c) fun r M' c'=>(r= .b true∧I (k+1) M' c')∨(r= .b false∧J M' c')):
 Calls Φ F 89 [.y y,.p pb 0] M c fun _ M' c'=>I (aS l).length M' c'∨J M' c':=by
 refine ax h ?_
 simp only[WX,B89]
 obtain⟨Iv,hIv⟩:∃Iv:Nat→St→Prop,∀n s,Iv n s↔(∃(k:Nat) (M1:Mem) (c1:Nat) (u:List (Option V)),n=l.length-4*k∧4*k≤l.length∧s= .mk ((bO8 u (.y y) (.p pb 0) (.i .i64 ((4*k:Nat):Int)))) [] M1 c1∧k≤(aS l).length∧aS (l.drop (4*k))=(aS l).drop k∧I k M1 c1):=⟨fun n s=>_,fun _ _=>Iff.rfl⟩
 refine bD Iv ?_ l.length _ ((hIv _ _).2 ⟨0,_,_,(G2 (X1 (G1 (cj (X8 (X2 (X1 []))))))),rfl,aE _,rfl,aE _,rfl,h0⟩)
 intro n s hIs
 obtain⟨k,M1,c1,u,rfl,hk,rfl,hkp,hpre,hi⟩:=(hIv _ _).1 hIs
 clear hIs
 obtain⟨cW,hpb,hbox,hs1⟩:=hI k M1 c1 hi
 have hld:load1 F M1 pb 0=some v:=by rw[ot hbox,qy];rfl
 have hln:=hs1.len
 have q8:bX .add (.i .i64 ((4*k:Nat):Int)) (.i .i64 4)=some (.i .i64 ((4*k+4:Nat):Int)):=by rw[aN _ _ (by omega) (by omega)];simp
 by_cases hlt:4*k+4≤l.length
 ·have hd:decide (((4*k+4:Nat):Int)≤(l.length:Int))=true:=af (by omega);obtain⟨a0,a1,a2,a3,hfour,hdrop⟩:=Js hlt;obtain⟨v',e1,-,-,-,hs'⟩:=Kv hs1 (show 4*k≤4*k+4 by omega) (by rw[List.length_map];exact hlt);have hs':fC F M1 c1 v' [a0,a1,a2,a3]:=by
   rw[←hfour];unfold fC;rw[List.map_drop,List.map_take];exact hs'
  simp only[WX,B89,hld,hln,hd,q8,e1];refine aw ((r90 Φ h90 h116 cW hs').mono ?_);rintro v2 M2 c2 ⟨rfl,hg2⟩;rw[hdrop,rQ]at hpre;have hgx:=fun x=>hg2.set c2 x hg2.le (aD _) (aA _);by_cases hok:okW (iD a0 a1 a2 a3)=true
  ·rw[CP hok];rw[ae hok]at hpre;have hklt:k<(aS l).length:=by
    by_cases hh:k<(aS l).length
    ·exact hh
    ·rw[List.drop_eq_nil_of_le (show(aS l).length≤k by omega)]at hpre;cases hpre
   rw[qY hklt]at hpre;injection hpre with hx hrest
   rw[hx];have hins:qn (aS l)[k]=[.i .i64 (aS l)[k].op,.i .i64 (aS l)[k].d,.i .i64 (aS l)[k].a,.i .i64 (aS l)[k].b,.i .i64 (aS l)[k].i]:=rfl;have hy:=fun x=>hY k (M2.set c2 x) (c2+1) hklt (hG k M1 c1 _ _ hi (hgx x));rw[hins]at hy⊢;simp only[WX,Nat.reduceAdd,Nat.reduceLeDiff,B89,ne_eq,not_true_eq_false];refine aw ((hy _).mono ?_);rintro r M3 c1003 (⟨rfl,hi3⟩|⟨rfl,hj⟩)
   ·simp only[WX,B89,q8];exact⟨l.length-4*(k+1),by omega,(hIv _ _).2 ⟨k+1,M3,c1003,(G2 (X1 (G1 (cj (X8 (X2 (X1 []))))))),rfl,by omega,rfl,hklt,hrest,hi3⟩⟩
   ·simp only[WX];exact .inr hj
  ·rw[CN hok];rw[ab hok]at hpre;have hke:k=(aS l).length:=by
    by_cases hh:k<(aS l).length
    ·rw[qY hh]at hpre;cases hpre
    ·omega
   simp only[WX,Int.reduceEq,Nat.reduceAdd,Nat.reduceLeDiff,B89,wB,ne_eq,not_false_eq_true];exact .inl (hke▸hG k M1 c1 _ _ hi (hgx _))
 ·have hd:decide (((4*k+4:Nat):Int)≤(l.length:Int))=false:=ah (by omega);simp only[WX,B89,hld,hln,hd,q8];rw[fX (by rw[eL];omega)]at hpre;have hke:k=(aS l).length:=by
   by_cases hh:k<(aS l).length
   ·rw[qY hh]at hpre;cases hpre
   ·omega
  exact .inl (hke▸hi)
end
end Go.Proofs.YtcnblipfcihcpaaGreatDoor.Ev
