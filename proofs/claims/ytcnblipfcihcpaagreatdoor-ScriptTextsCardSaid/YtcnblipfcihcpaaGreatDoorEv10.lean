/- What is proved here: pieces of the evaluator's soundness: if the evaluator comes to a value, the model's run comes to it, for every world and tape; no conditions beyond the hypotheses of each theorem. -/
import Derived.Test.YtcnblipfcihcpaaGreatDoorEv9
set_option linter.unusedSimpArgs false
set_option linter.unusedVariables false
set_option linter.defProp false
set_option maxRecDepth 10000
set_option maxHeartbeats 16000000
namespace Go.Proofs.YtcnblipfcihcpaaGreatDoor.Ev
open Go
noncomputable section
variable{Φ:Nat→Option CF}{F:RO}{L:List uN}{M M0 M':Mem}{c c0 c' c1 b n sz ty ct:Nat}{v va vp vi vt:V}{s:SC}{y:AC}{l:List UInt8}{es:List (List V)}{vs:List V}{α:Type}
def Qv:CC:=(.reg [(aa a1 (.bsl 9 29 1 [(.s 0 0)] [(0,(.c (.s 0 0))),(1,(.c (.s 3 7368558))),(2,(.c (.s 4 1886352499))),(3,(.c (.s 4 1819042147))),(4,(.c (.s 4 1801675106))),(5,(.c (.s 5 500152823651))),(6,(.c (.s 4 1751607656))),(7,(.c (.s 4 2037411683))),(8,(.c (.s 3 6579297))),(9,(.c (.s 3 6452595))),(10,(.c (.s 3 7107949))),(11,(.c (.s 3 7760228))),(12,(.c (.s 3 6582125))),(13,(.c (.s 3 6581857))),(14,(.c (.s 2 29295))),(15,(.c (.s 3 7499640))),(16,(.c (.s 3 7104627))),(17,(.c (.s 3 7497843))),(18,(.c (.s 4 1768186977))),(19,(.c (.s 4 1684107116))),(20,(.c (.s 5 435711603827))),(21,(.c (.s 5 422590902124))),(22,(.c (.s 6 108187851125875))),(23,(.c (.s 4 1886221674))),(24,(.c (.s 5 491512493418))),(25,(.c (.s 4 1802398060))),(26,(.c (.s 3 7431522))),(27,(.c (.s 3 6647394))),(28,(.c (.s 3 7629922)))])),(qq a0 (.mv z1))])
def Qw:CC:=(.seq (.reg [(qq a0 (.mv (.c .l0)))]) (.seq Qv .ret))
def WT:CF:= .mk 2 [.t a0] Qw
theorem dh8:aU 2 []=nF:=rfl
def dd9:=ai @dh8 (ai (wu Qv.eq_1) (wu Qw.eq_1))
def bA8:CC:=(.seq (.reg [(qq a0 (.mv (.c (.f 143 [] []))))]) .ret)
def cx1:CF:= .mk 1 [.t a0] (.seq (.reg [(qq a0 (.mv (.c .f0)))]) bA8)
def bC2:CC:=(.reg [(ee a4 (.call 119 [])),(qq a5 (.mv (x6 0)))])
def bC3:CC:=(.reg [(qq a6 (.bi .lss z5 (x6 29)))])
def bC4:CC:=(.reg [(qq a7 (.mv z5)),(qq a8 (.ixA1 29 1 z4 z5)),(qq a2 (.mv z7)),(qq a3 (.mv z8))])
def bC5:CC:=(.reg [(qq a9 (.mv z2)),(qq dp (.bi .gtr z9 (x6 0))),(qq dk (.mv dx)),(av dy (.mv z0) dk),(av dN (.mv z2) dk),(av dL (.mv z3) dk),(eU dS (.cv dX [dG,eu]) dk),(av dY (.un .not dM) dk),(qq eE (.pk dC eF xF))])
def bC6:CC:=(.seq bC5 (.cond eD .ret .skip))
def bC7:CC:=(.reg [(qq dT (.bi .add z5 (x6 1))),(qq a5 (.mv fm))])
def bC8:CC:=(.seq (.cond z6 .skip (.exit 0)) (.seq (.block 1 (.seq bC4 bC6)) bC7))
def cx6:CF:= .mk 5 [] (.seq bC2 (.block 0 (.loop (.seq bC3 bC8))))
def o7:List (List UInt8):=[[],[110,111,112],[115,116,111,112],[99,97,108,108],[98,97,99,107],[99,111,110,115,116],[104,105,103,104],[99,111,112,121],[97,100,100],[115,117,98],[109,117,108],[100,105,118],[109,111,100],[97,110,100],[111,114],[120,111,114],[115,104,108],[115,104,114],[97,100,100,105],[108,111,97,100],[115,116,111,114,101],[108,111,97,100,98],[115,116,111,114,101,98],[106,117,109,112],[106,117,109,112,114],[108,105,110,107],[98,101,113],[98,110,101],[98,108,116]]
theorem Y6:io=o7.map sV:=rfl
theorem oT:o7.length=29:=rfl
theorem MK{k:Nat}(h:k<29):io[k]?=some (sV (o7[k]'h)):=by
 rw[Y6,List.getElem?_map,List.getElem?_eq_getElem (show k<o7.length from h)];rfl
def cr7:CC:=(.reg [(aa a1 (.bx 9 1 z0)),(aa a2 (.al 98 [(.i .i64 0)])),(aa a3 (.al 4 [(.b false)]))])
def cr8:CC:=(.reg [(qq a4 (.mv z7))])
def cr9:CC:=(.reg [(qq a5 (.mv z8))])
def cs0:CC:=(.reg [(qq a9 (.mv z5)),(qq dp (.ld1 z1)),(qq dk (.bi .eql z9 dx))])
def cs1:CC:=(.reg [(qq dy (.mv z4)),(ez (.st 1 z2 dX)),(ez (.st 1 z3 xT))])
def cs2:CC:=(.seq cs0 (.cond dC (.seq cs1 .ret) .skip))
def cs3:CC:=(.rf z6 [a7,a8] (.seq cr8 cr9) (.block 1 cs2))
def cs4:CC:=(.seq (.reg [(ee a6 (.call 112 []))]) (.block 0 cs3))
def cs5:CC:=(.reg [(ez (.st 1 z2 (x6 0))),(ez (.st 1 z3 xF))])
def c79:CF:= .mk 4 [.c1 a2,.c1 a3] (.seq cr7 (.seq cs4 (.seq cs5 .ret)))
abbrev cP4(u:List (Option V))(x1 x4 x5 x34 x35:V):T:=(.n (.n (.n (aq u 31 15 47 7 39 23 55) (uO u 3) (.n (.n (.n .e (some x35) .e) (uO u 19) (ia u 51)) (uO u 11) (fu u 43 27 59))) (some x1) (.n (aq u 33 17 49 9 41 25 57) (some x5) (aq u 37 21 53 13 45 29 61))) (uO u 0) (.n (.n (aq u 32 16 48 8 40 24 56) (some x4) (aq u 36 20 52 12 44 28 60)) (uO u 2) (.n (.n (.n (.n .e (some x34) .e) (uO u 18) (ia u 50)) (uO u 10) (fu u 42 26 58)) (uO u 6) (aq u 38 22 54 14 46 30 62))))
def aX1:CC:=(.reg [(aa a1 (.bx 100 5 z0)),(qq a2 (.mv (.c (.s 0 0)))),(qq a3 (.mv (x6 0)))])
def aX2:CC:=(.reg [(qq a8 (.ldn 5 z1)),(ee a9 (.call 91 [z8])),(qq dp (.un .not z9))])
def aX3:CC:=(.reg [(qq a2 (.mv (.c (.s 0 0)))),(qq a3 (.mv (x6 2)))])
def aX4:CC:=(.seq aX2 (.cond dx (.seq aX3 .ret) .skip))
def aX5:CC:=(.reg [(qq dk (.fa 0 z1)),(qq dy (.ld1 dC)),(ee dN (.call 81 [dX])),(ee dL (.call 80 [dG])),(aa a4 (.al 134 [(.b false),(.b false),(.b false),(.b false)])),(ez (.st 4 z4 eu))])
def aX6:CC:=(.reg [(qq dS (.fa 0 z1)),(qq dY (.ld1 dM)),(ee eE (.call 92 [eF])),(aa dT (.bsl 9 1 1 [(.s 0 0)] [(0,eD)])),(qq a5 (.mv fm))])
def aX7:CC:=(.reg [(qq eG (.fa 0 z4)),(qq fF (.ld1 fS)),(qq eR (.fa 1 z1)),(qq fv (.ld1 gv)),(qq fl (.bld [(.b false),(.i .i64 0)] [(0,1,fD),(1,1,gb)])),(qq dU (.fa 1 z4)),(qq eV (.ld1 gM)),(qq eb (.fa 2 z1)),(qq fG (.ld1 gw)),(qq gi (.bld [(.b false),(.i .i64 0)] [(0,1,gO),(1,1,gy)])),(qq gg (.fa 2 z4)),(qq gQ (.ld1 iA)),(qq j4 (.fa 3 z1)),(qq gj (.ld1 jh)),(qq iG (.bld [(.b false),(.i .i64 0)] [(0,1,iE),(1,1,jL)])),(qq fT (.bld [(.b false),(.i .i64 0),(.b false),(.i .i64 0),(.b false),(.i .i64 0)] [(0,2,gH),(2,2,iz),(4,2,kz)])),(qq j5 (.mv (x6 0)))])
def aX8:CC:=(.reg [(qq kv (.bi .lss kD (x6 3)))])
def aX9:CC:=(.reg [(qq jq (.ixAn 3 2 kC kD)),(aa a7 (.al 150 [(.b false),(.i .i64 0)])),(ez (.st 2 z7 kr))])
def Ud:CC:=(.reg [(qq gR (.fa 0 z7)),(qq j6 (.ld1 kW))])
def Ue:CC:=(.reg [(qq jr (.mv z5)),(qq kF (.fa 1 z7)),(qq jM (.ld1 lq)),(ee j7 (.call 56 [lr])),(qq ky (.bi .add (.c (.s 1 114)) mW)),(aa js (.bsl 9 1 1 [(.s 0 0)] [(0,ny)])),(ee kX (.app 9 1 16 lm nG)),(qq a5 (.mv oD))])
def Uf:CC:=(.seq Ud (.cond lh Ue .skip))
def Ug:CC:=(.reg [(qq kY (.bi .add kD (x6 1))),(qq j5 (.mv nA))])
def Uh:CC:=(.seq (.cond ll .skip (.exit 0)) (.seq (.block 1 (.seq aX9 Uf)) Ug))
def Ui:CC:=(.reg [(qq kB (.fa 3 z4)),(qq iB (.ld1 oE))])
def Uj:CC:=(.reg [(qq nC (.mv z5)),(qq kG (.fa 4 z1)),(qq kH (.ld1 pl)),(ee j8 (.call 56 [pS])),(aa nK (.bsl 9 1 1 [(.s 0 0)] [(0,pm)])),(ee nL (.app 9 1 16 oF pU)),(qq a5 (.mv qO))])
def Uk:CC:=(.seq Ui (.cond nH Uj .skip))
def Ul:CC:=(.reg [(qq kI (.mv z5)),(ee lx (.call 54 [pn,(.c (.s 1 32))])),(qq a2 (.mv qT)),(qq a3 (.mv (x6 0)))])
def Um:CC:=(.seq (.seq aX7 (.block 0 (.loop (.seq aX8 Uh)))) (.seq Uk (.seq Ul .ret)))
def c53:CF:= .mk 6 [.t a2,.t a3] (.seq aX1 (.seq aX4 (.seq aX5 (.seq aX6 Um))))
theorem e53(v0:V):aU 6 [v0]=(.n mM (some v0) mM):=rfl
def B53:=ai @e53 (ai (wu aX1.eq_1) (ai (wu aX2.eq_1) (ai (wu aX3.eq_1) (ai (wu aX4.eq_1) (ai (wu aX5.eq_1) (ai (wu aX6.eq_1) (ai (wu aX7.eq_1) (ai (wu aX8.eq_1) (ai (wu aX9.eq_1) (ai (wu Ud.eq_1) (ai (wu Ue.eq_1) (ai (wu Uf.eq_1) (ai (wu Ug.eq_1) (ai (wu Uh.eq_1) (ai (wu Ui.eq_1) (ai (wu Uj.eq_1) (ai (wu Uk.eq_1) (ai (wu Ul.eq_1) (wu Um.eq_1)))))))))))))))))))
def yd(F:RO)(M:Mem)(c0 c b ty sz:Nat)(v:V)(es:List (List V)):Prop:=
 (c0≤b∧b<c∧v= .l b 0 es.length es.length∧(∀e∈es,e.length=sz)∧cK F M b 0 es.flatten)∨cA M c0 c b ty sz v es
theorem yd.sl(h:yd F M c0 c b ty sz v es):bG F M c sz v es:=by
 rcases h with⟨h1,h2,rfl,h1003,h1004⟩|h
 ·exact⟨h1003,.inr ⟨b,0,.inl ⟨_,ak _,rfl⟩,h2,h1004⟩⟩
 ·exact h.sl
theorem yd.up(h:yd F M c0 c b ty sz v es)(hc:c≤c')(hb:∀x,x<c→M'.get x=M.get x):yd F M' c0 c' b ty sz v es:=by
 rcases h with⟨h1,h2,rfl,h1003,h1004⟩|h
 ·exact .inl ⟨h1,by omega,rfl,h1003,h1004.of_get (hb b h2)⟩
 ·exact .inr (h.up hc fun hx=>hb b hx)
theorem Jt{bytes:Nat}{y:V}{ns:List (List V)}(h:yd F M c0 c b ty sz v es)(hg:Gr c0 M0 c M)(hsz:0<sz)(hy:bG F M c sz y ns)(hn0:ns≠[])(h1:bj ns.flatten=true)(hr:jJ (es.length+ns.length) bytes=true):
 tF (kZ F M c ty sz bytes v y) fun v' M' c'=>∃b',yd F M' c0 c' b' ty sz v' (es++ns)∧Gr c0 M0 c' M'∧c≤c'∧(∀x,x<c→x≠b→M'.get x=M.get x)∧(b'=b∨c≤b'):=by
 rcases h with⟨k1,k2,rfl,k3,k4⟩|h
 ·unfold kZ;rw[ov hsz hy];have hnl:=gk hy.1;have hlen:ns.length≠0:=fun e=>hn0 (List.length_eq_zero_iff.1 e);obtain⟨r,hrd⟩:=lQ hsz k3 k4;have e1:mm F M c ty sz bytes (.l b 0 es.length es.length) (some (ns.length,ns.flatten))=ju M c ty bytes (es.length+ns.length) 0 false (es.flatten++ns.flatten):=by
   show(bif bj ns.flatten&&Nat.beq ns.flatten.length (Nat.mul ns.length sz)then app F M c ty sz bytes (.l b 0 es.length es.length) ns.length ns.flatten else _)=_;rw[h1,bK,af (show ns.flatten.length=Nat.mul ns.length sz from hnl)];show app F M c ty sz bytes (.l b 0 es.length es.length) ns.length ns.flatten=_;unfold app;rw[bK,ah hlen,cond_false];show pu F M c ty sz bytes b 0 es.length es.length ns.length ns.flatten=_;unfold pu;rw[cE,ah (show¬Nat.add es.length ns.length≤es.length by show¬es.length+ns.length≤es.length;omega),cond_false,hrd];rfl
  refine⟨_,_,_,e1.trans (nX M c ty bytes _ _ hr),c,.inr ⟨?_,.inr ⟨hg.le,by omega,by rw[aG],?_⟩⟩,hg.set c _ hg.le (by omega) (by omega),by omega,fun x hx _=>az _ _ (by omega),.inr (ak _)⟩
  ·intro e he;rcases List.mem_append.1 he with he|he
   ·exact k3 e he
   ·exact hy.1 e he
  ·rw[Tr.get_set,ae rfl,List.flatten_append]
 ·refine(eH h hg hsz hy h1 hr).mono ?_;rintro v' M' c' ⟨b',a1,a2,a3,a4,a5⟩;exact⟨b',.inr a1,a2,a3,a4,a5⟩
theorem XB{d:List V}(h:M.get b=some (cQ d ty es.flatten))(h0:c0≤b)(hb:b<c)(h1:∀e∈es,e.length=sz)(hn:es.length=n):yd F M c0 c b ty sz (.l b 0 n n) es:=by
 subst hn
 exact .inl ⟨h0,hb,rfl,h1,(Ko h).cells⟩
def kQ(op:Int):List UInt8:=if 1≤op∧op≤28 then(o7[op.toNat]?).getD []else[]
theorem au6(op:Int):nj op=sV (kQ op):=by
 unfold nj kQ
 by_cases h:1≤op∧op≤28
 ·rw[ae h,ae h,MK (by omega),List.getElem?_eq_getElem (show op.toNat<o7.length by rw[oT];omega)];rfl
 ·rw[ab h,ab h];rfl
def yS(op:Int)(i:Nat):Bool:=if i=0 then dI (bE op)else if i=1 then aI (bE op)else bI (bE op)
def l9(d a b:Int)(i:Nat):Int:=if i=0 then d else if i=1 then a else b
def wk(op d a b:Int):Nat→List (List UInt8)
 |0=>[kQ op]
 |i+1=>wk op d a b i++(if yS op i=true then[114::bT (l9 d a b i)]else[])
def mV(op d a b i:Int):List (List UInt8):=wk op d a b 3++(if iI (bE op)=true then[bT i]else[])
def kl(op d a b i:Int):List UInt8:=dE [32] (mV op d a b i)
theorem Y8:∀(f n:Nat),Y7 f n≤f+1
 |0,n=>by unfold Y7;omega
 |f+1,n=>by
  have:=Y8 f (n/10);rw[Y7];split<;>omega
theorem yY(n:Nat):(jc n).length≤21:=by
 unfold jc
 rw[ig]
 exact Y8 20 n
theorem fL(n:Int):(bT n).length≤22:=by
 cases n with
 |ofNat n=>have:=yY n;show(jc n).length≤22;omega
 |negSucc n=>have:=yY (n+1);show(45::jc (n+1)).length≤22;rw[aP];omega
theorem zj(op:Int):(kQ op).length≤6:=by
 unfold kQ
 split
 ·have:∀k,k<29→((o7[k]?).getD []).length≤6:=by decide+kernel
  exact this _ (by omega)
 ·simp
theorem Gf(op d a b:Int):∀i,(wk op d a b i).length≤i+1
 |0=>ak _
 |i+1=>by
  have:=Gf op d a b i;rw[wk,aG];split<;>simp<;>omega
theorem aa1(op d a b:Int):∀i,jS (wk op d a b i)≤7+24*i
 |0=>by have:=zj op;show(kQ op).length+1+0≤7;omega
 |i+1=>by
  have:=aa1 op d a b i;have h2:=fL (l9 d a b i);rw[wk,iS];split
  ·rw[jS,jS,aP];omega
  ·rw[jS];omega
def bn5(len sz:Nat)(x i:V):Option V:=(dh (.ixAn len sz (.c x) (.c i)) [] .e .e).val
theorem Zm(len sz:Nat)(x i:X)(M:Mem)(t:T):(dh (.ixAn len sz x i) F M t).val=bn5 len sz (x.ev t) (i.ev t):=Eq.trans rfl (Eq.refl _)
theorem bK4(x0 x1 x2:Bool)(y0 y1 y2:Int)(i:Nat)(h:i<3):bn5 3 2 (.g [.b x0,.i .i64 y0,.b x1,.i .i64 y1,.b x2,.i .i64 y2]) (.i .i64 (i:Int))=some (.g [.b (if i=0 then x0 else if i=1 then x1 else x2),.i .i64 (if i=0 then y0 else if i=1 then y1 else y2)]):=by
 have:i=0∨i=1∨i=2:=by omega
 rcases this with rfl|rfl|rfl<;>rfl
theorem oS{op d a b i:Int}(h:dP op d a b i=true):1≤op∧op≤28∧(∀k,0≤l9 d a b k∧l9 d a b k<16)∧ -32768≤i∧i≤65535:=by
 unfold dP at h
 simp only[aC,Bool.or_eq_true,decide_eq_true_eq]at h
 obtain⟨h1,h2,h1003,h1004,h1005,h1006⟩:=h
 have key:∀b n,qD b n=true→0≤n∧n<16:=by
  intro b n hh;unfold qD at hh;have:=aY hh;omega
 refine⟨h1,h2,fun k=>?_,by omega,by omega⟩
 unfold l9
 repeat' split
 ·exact key _ _ h1003
 ·exact key _ _ h1004
 ·exact key _ _ h1005
theorem dv8(Φ:Nat→Option CF)(h:Φ 53=some c53)(uA:Φ 91=some (.orc (aJ uA)))(op d a b i:Int)(hm:dP op d a b i=false):
 Calls Φ F 53 [.g [.i .i64 op,.i .i64 d,.i .i64 a,.i .i64 b,.i .i64 i]] M c fun r _ _=>r= .t [.s 0 0,.i .i64 2]:=by
 refine ax h ?_
 simp only[WX,Nat.reduceAdd,Nat.reduceLeDiff,B53,uA,Ap,hm]
theorem r53(Φ:Nat→Option CF)(h:Φ 53=some c53)(uA:Φ 91=some (.orc (aJ uA)))(nZ:Φ 81=some (.orc (aJ nZ)))(wt:Φ 80=some (.orc (aJ wt)))(Cl:Φ 92=some (.orc (aJ Cl)))(h56:Φ 56=some (.orc (cI L qR)))
 (h54:Φ 54=some c54) (h93:Φ 93=some c93) (h23:Φ 23=some O9) (h28:Φ 28=some WW) (h60:Φ 60=some En) (h120:Φ 120=some vP) (ok:cO F M c) (ht:bn F L=true) (op d a b i:Int) (hm:dP op d a b i=true):
 Calls Φ F 53 [.g [.i .i64 op,.i .i64 d,.i .i64 a,.i .i64 b,.i .i64 i]] M c fun r _ _=>r= .t [sV (kl op d a b i),.i .i64 0]:=by
 refine ax h ?_
 have hT:=fun h args M c=>cP ht h args M c
 obtain⟨n1,n2,n3,n4,n5⟩:=oS hm
 simp only[WX,Nat.reduceBEq,Nat.reduceAdd,Nat.reduceLeDiff,B53,uA,Ap,hm,nZ,ql,wt,ER,Cl,XE,au6,show∀l,dD (sV l)=true from fun _=>rfl,show∀l,flatten (sV l)=[sV l]from fun _=>rfl]
 have rI:bL:=au 100 [.i .i64 op,.i .i64 d,.i .i64 a,.i .i64 b,.i .i64 i]
 obtain⟨X,hX⟩:∃X:Mem,X=((M.set c (au 100 [V.i IntKind.i64 op,V.i IntKind.i64 d,V.i IntKind.i64 a,V.i IntKind.i64 b,V.i IntKind.i64 i])).set (c+1) (au 134 [V.b (dI (bE op)),V.b (aI (bE op)),V.b (bI (bE op)),V.b (iI (bE op))])).set (c+2) (cQ [V.s 0 0] 9 [sV (kQ op)]):=⟨_,rfl⟩
 rw[←hX]
 have grX:Gr c M (c+3) X:=by
  rw[hX];exact(((Gr.refl ok).set c _ (ak _) (aD _) (aA _)).set (c+1) _ (by omega) (show c+1<c+2 by omega) (by omega)).set (c+2) _ (by omega) (by omega) (by omega)
 have xI:X.get c=some (au 100 [.i .i64 op,.i .i64 d,.i .i64 a,.i .i64 b,.i .i64 i]):=by rw[hX,az _ _ (by omega),az _ _ (by omega),am]
 have xB:X.get (c+1)=some (au 134 [.b (dI (bE op)),.b (aI (bE op)),.b (bI (bE op)),.b (iI (bE op))]):=by rw[hX,az _ _ (by omega),am]
 have xA:yd F X c (c+3) (c+2) 9 1 (.l (c+2) 0 1 1) (cR (wk op d a b 0)):=XB (d:=[.s 0 0]) (by rw[hX,am];rfl) (by omega) (aD _) (fun e he=>by obtain⟨x,_,rfl⟩:=List.mem_map.1 he;rfl) rfl
 clear hX rI
 obtain⟨I1,hI1⟩:∃I:Nat→St→Prop,∀n s',I n s'↔(∃(k:Nat) (M1:Mem) (c1 b1:Nat) (v:V) (u:List (Option V)),n=3-k∧k≤3∧s'= .mk ((cP4 u (.p c 0) (.p (c+1) 0) v (.g [.b (dI (bE op)),.i .i64 d,.b (aI (bE op)),.i .i64 a,.b (bI (bE op)),.i .i64 b]) (.i .i64 (k:Int)))) [] M1 c1∧Gr c M c1 M1∧yd F M1 c c1 b1 9 1 v (cR (wk op d a b k))∧c+2≤b1∧c+3≤c1∧M1.get c=some (au 100 [.i .i64 op,.i .i64 d,.i .i64 a,.i .i64 b,.i .i64 i])∧M1.get (c+1)=some (au 134 [.b (dI (bE op)),.b (aI (bE op)),.b (bI (bE op)),.b (iI (bE op))])):=⟨fun n s'=>_,fun _ _=>Iff.rfl⟩
 refine bD I1 ?_ 3 _ ((hI1 _ _).2 ⟨0,X,c+3,c+2,.l (c+2) 0 1 1,(X1 (G1 (X2 (G2 (cj (X8 (X4 (G2 (cj (X8 (X2 (X1 [])))))))))))),rfl,aE _,rfl,grX,xA,ak _,ak _,xI,xB⟩)
 intro n s' hIs
 obtain⟨k,M1,c1,b1,v,u,rfl,hk,rfl,gr1,hA,hb1,hc1,gI,gB⟩:=(hI1 _ _).1 hIs
 clear hIs
 have cW:=gr1.ok ok
 have hS:∀l,dD (sV l)=true:=fun _=>rfl
 have hF:∀l,flatten (sV l)=[sV l]:=fun _=>rfl
 have hwl:=Gf op d a b k
 by_cases hlt:k<3
 ·have d1:decide ((k:Int)<3)=true:=af (by omega);have hix:=bK4 (dI (bE op)) (aI (bE op)) (bI (bE op)) d a b k hlt;have q8:bX .add (.i .i64 (k:Int)) (.i .i64 1)=some (.i .i64 ((k+1:Nat):Int)):=by rw[aN _ _ (by omega) (by omega)];simp
  rw[show(if k=0 then dI (bE op)else if k=1 then aI (bE op)else bI (bE op))=yS op k from rfl,show(if k=0 then d else if k=1 then a else b)=l9 d a b k from rfl]at hix;have hbo:=fun x:Bool=>show dD (.b x)=true from rfl;cases hfl:yS op k with
  |true=>
   rw[hfl]at hix;have hcat:bX .add (.s 1 114) (sV (bT (l9 d a b k)))=some (sV (114::bT (l9 d a b k))):=cL [114] _ (by have:=fL (l9 d a b k);simp;omega);have hnk:=n3 k;simp only[WX,Nat.reduceAdd,Nat.reduceLeDiff,B53,d1,Zm,hix,h56,hT,fg (show -9223372036854775808≤l9 d a b k by omega) (show l9 d a b k≤9223372036854775807 by omega),hcat,hS,hF];obtain⟨Y,hY⟩:∃Y:Mem,Y=(M1.set c1 (au 150 [V.b true,V.i IntKind.i64 (l9 d a b k)])).set (c1+1) (cQ [V.s 0 0] 9 [sV (114::bT (l9 d a b k))]):=⟨_,rfl⟩
   rw[←hY];have grY:Gr c M (c1+2) Y:=by
    rw[hY];exact(gr1.set (c2:=c1+1) c1 _ gr1.le (by omega) (by omega)).set (c1+1) _ (by omega) (by omega) (by omega)
   have hYo:∀x,x<c1→Y.get x=M1.get x:=fun x hx=>by rw[hY,az _ _ (by omega),az _ _ (by omega)]
   have hy:bG F Y (c1+2) 1 (.l (c1+1) 0 1 1) (cR [114::bT (l9 d a b k)]):=qS (d:=[.s 0 0]) (ty:=9) (by rw[hY,am];rfl) (by omega) (fun e he=>by obtain⟨x,_,rfl⟩:=List.mem_map.1 he;rfl) rfl;refine aw ((Jt (bytes:=16) (hA.up (show c1≤c1+2 by omega) hYo) grY Nat.one_pos hy (by simp[cR]) rfl (db (by simp[cR];omega) (by simp[cR];omega))).mono ?_);rintro v' M2 c2 ⟨b2,hA2,gr2,hle2,hfr2,hbb2⟩;simp only[WX,B53,q8];refine⟨3-(k+1),by omega,(hI1 _ _).2 ⟨k+1,M2,c2,b2,v',(X1 (G1 (X2 (G2 (cj (X8 (X4 (G2 (cj (X8 (X2 (X1 [])))))))))))),rfl,by omega,rfl,gr2,?_,by omega,by omega,?_,?_⟩⟩
   ·rw[wk,hfl,ae rfl,cR,List.map_append];exact hA2
   ·rw[hfr2 c (by omega) (by omega),hYo c (by omega)];exact gI
   ·rw[hfr2 (c+1) (by omega) (by omega),hYo (c+1) (by omega)];exact gB
  |false=>
   rw[hfl]at hix;simp only[WX,Nat.reduceAdd,Nat.reduceLeDiff,B53,d1,Zm,hix,q8];have hYo:∀x,x<c1→(M1.set c1 (au 150 [V.b false,V.i IntKind.i64 (l9 d a b k)])).get x=M1.get x:=fun x hx=>az _ _ (by omega);refine⟨3-(k+1),by omega,(hI1 _ _).2 ⟨k+1,_,c1+1,b1,v,(X1 (G1 (X2 (G2 (cj (X8 (X4 (G2 (cj (X8 (X2 (X1 [])))))))))))),rfl,by omega,rfl,gr1.set c1 _ gr1.le (by omega) (by omega),?_,hb1,by omega,(hYo c (by omega)).trans gI,(hYo (c+1) (by omega)).trans gB⟩⟩;rw[wk,hfl,ab (by decide),cu];exact hA.up (by omega) hYo
 ·have d1:decide ((k:Int)<3)=false:=ah (by omega);obtain rfl:k=3:=by omega
  have lB:load1 F M1 (c+1) 3=some (.b (iI (bE op))):=aj gB 3;have lI:load1 F M1 c 4=some (.i .i64 i):=aj gI 4;have hsz:=aa1 op d a b 3;cases hfl:iI (bE op)with
  |true=>
   rw[hfl]at lB;simp only[WX,B53,d1,lB,lI,h56,hT,fg (show -9223372036854775808≤i by omega) (show i≤9223372036854775807 by omega),hS,hF];have grY:Gr c M (c1+1) (M1.set c1 (cQ [V.s 0 0] 9 [sV (bT i)])):=gr1.set c1 _ gr1.le (by omega) (by omega);have hy:bG F (M1.set c1 (cQ [V.s 0 0] 9 [sV (bT i)])) (c1+1) 1 (.l c1 0 1 1) (cR [bT i]):=qS (d:=[.s 0 0]) (ty:=9) (by rw[am];rfl) (by omega) (fun e he=>by obtain⟨x,_,rfl⟩:=List.mem_map.1 he;rfl) rfl;refine aw ((Jt (bytes:=16) (hA.up (show c1≤c1+1 by omega) (fun x hx=>az _ _ (by omega))) grY Nat.one_pos hy (by simp[cR]) rfl (db (by simp[cR];omega) (by simp[cR];omega))).mono ?_);rintro v' M2 c2 ⟨b2,hA2,gr2,hle2,hfr2,hbb2⟩;have ok2:=gr2.ok ok;have hA3:bG F M2 c2 1 v' (cR (mV op d a b i)):=by
    have:=hA2.sl;rw[mV,hfl,ae rfl,cR,List.map_append];exact this
   have hil:=fL i;simp only[WX,B53];refine aw ((r54 (s:=[32]) Φ h54 h93 h23 h28 h60 h120 ok2 hA3 (by rw[mV,iS,hfl,ae rfl,jS,jS];omega) (by decide) (by decide)).mono ?_);rintro r M3 c1003 ⟨rfl,_⟩;simp only[WX];rfl
  |false=>
   rw[hfl]at lB;have hA3:bG F M1 c1 1 v (cR (mV op d a b i)):=by
    rw[mV,hfl,ab (by decide),cu];exact hA.sl
   simp only[WX,B53,d1,lB];refine aw ((r54 (s:=[32]) Φ h54 h93 h23 h28 h60 h120 cW hA3 (by rw[mV,iS,hfl,ab (by decide),jS];omega) (by decide) (by decide)).mono ?_);rintro r M3 c1003 ⟨rfl,_⟩;simp only[WX];rfl
def R4(op i:Int):List (List UInt8):=if iI (bE op)=true then[bT i]else[]
def R3(op b i:Int):List (List UInt8):=(if bI (bE op)=true then[114::bT b]else[])++R4 op i
def R2(op a b i:Int):List (List UInt8):=(if aI (bE op)=true then[114::bT a]else[])++R3 op b i
def R1(op d a b i:Int):List (List UInt8):=(if dI (bE op)=true then[114::bT d]else[])++R2 op a b i
theorem aa2(op d a b i:Int):mV op d a b i=kQ op::R1 op d a b i:=by
 show(([kQ op]++(if yS op 0=true then[114::bT (l9 d a b 0)]else[]))++(if yS op 1=true then[114::bT (l9 d a b 1)]else[]))++(if yS op 2=true then[114::bT (l9 d a b 2)]else[])++_=_
 show(([kQ op]++(if dI (bE op)=true then[114::bT d]else[]))++(if aI (bE op)=true then[114::bT a]else[]))++(if bI (bE op)=true then[114::bT b]else[])++(if iI (bE op)=true then[bT i]else[])=_
 unfold R1 R2 R3 R4
 simp only[cB,List.cons_append,List.nil_append]
def h53:List V→Option V
 |[.g [.i .i64 op,.i .i64 d,.i .i64 a,.i .i64 b,.i .i64 i]]=>some (if dP op d a b i=true then .t [sV (kl op d a b i),.i .i64 0]else .t [.s 0 0,.i .i64 2])
 |_=>none
theorem bK3(op d a b i:Int):h53 [.g [.i .i64 op,.i .i64 d,.i .i64 a,.i .i64 b,.i .i64 i]]=some (if dP op d a b i=true then .t [sV (kl op d a b i),.i .i64 0]else .t [.s 0 0,.i .i64 2]):=rfl
abbrev KB(u:List (Option V))(x1 x3 x4 x5 x6 x7:V):T:=(.n (.n (.n (.n (fu u 31 15 47) (some x7) (fu u 39 23 55)) (some x3) (aq u 35 19 51 11 43 27 59)) (some x1) (.n (aq u 33 17 49 9 41 25 57) (some x5) (aq u 37 21 53 13 45 29 61))) (uO u 0) (.n (.n (aq u 32 16 48 8 40 24 56) (some x4) (aq u 36 20 52 12 44 28 60)) (uO u 2) (.n (aq u 34 18 50 10 42 26 58) (some x6) (aq u 38 22 54 14 46 30 62))))
def Pc:CC:=(.reg [(aa a1 (.bx 100 5 z0)),(qq a2 (.mv (.c (.s 0 0))))])
def Zn:=wu Pc.eq_1
def Pd:CC:=(.reg [(qq a9 (.fa 0 z1)),(qq dp (.ld1 z9)),(ee dk (.call 127 [dx])),(ee dy (.call 126 [dC])),(qq a8 (.mv dX)),(qq dN (.ex 0 z8)),(qq dL (.ex 1 z8)),(qq dS (.ex 2 z8)),(qq dY (.ex 3 z8)),(qq a3 (.mv dG)),(qq a4 (.mv eu)),(qq a5 (.mv dM)),(qq a6 (.mv eF))])
def Zo:=wu Pd.eq_1
def Pe:CC:=(.dreg 6 [(1,0,(qq dT (.fa 0 z1))),(2,2,(qq eG (.ld1 fm))),(0,0,(ee eE (.call 128 []))),(3,7,(qq fF (.iaS 1 eD fS))),(4,15,(qq eR (.ld1 fD))),(5,31,(qq a7 (.mv gv)))])
def Zp:=wu Pe.eq_1
def Pf:CC:=(.reg [(qq fv (.mv z3))])
def FH:=wu Pf.eq_1
def Pg:CC:=(.reg [(qq fl (.mv z7)),(qq dU (.bi .add gH (.c (.s 2 29216)))),(qq eV (.fa 1 z1)),(qq eb (.ld1 gO)),(ee fG (.call 56 [gw])),(qq gi (.bi .add gM gy)),(qq a7 (.mv iz))])
def Zq:=wu Pg.eq_1
def DQ:CC:=(.seq Pf (.cond gb Pg .skip))
def FI:=wu DQ.eq_1
def Ph:CC:=(.reg [(qq gg (.mv z4))])
def FJ:=wu Ph.eq_1
def Pi:CC:=(.reg [(qq gQ (.mv z7)),(qq j4 (.bi .add iE (.c (.s 2 29216)))),(qq gj (.fa 2 z1)),(qq iG (.ld1 jL)),(ee fT (.call 56 [kz])),(qq j5 (.bi .add jh kC)),(qq a7 (.mv kD))])
def Zr:=wu Pi.eq_1
def zY:CC:=(.seq Ph (.cond iA Pi .skip))
def FK:=wu zY.eq_1
def GL:CC:=(.reg [(qq kv (.mv z5))])
def Bb:=wu GL.eq_1
def GM:CC:=(.reg [(qq jq (.mv z7)),(qq gR (.bi .add kr (.c (.s 2 29216)))),(qq j6 (.fa 3 z1)),(qq jr (.ld1 lh)),(ee kF (.call 56 [lm])),(qq jM (.bi .add kW lq)),(qq a7 (.mv lr))])
def KM:=wu GM.eq_1
def rc:CC:=(.seq GL (.cond ll GM .skip))
def Bc:=wu rc.eq_1
def GN:CC:=(.reg [(qq j7 (.mv z6))])
def aB1:=wu GN.eq_1
def GO:CC:=(.reg [(qq ky (.mv z7)),(qq js (.bi .add ny (.c (.s 1 32)))),(qq kX (.fa 4 z1)),(qq kY (.ld1 oD)),(ee kB (.call 56 [nA])),(qq iB (.bi .add nG oE)),(qq a7 (.mv nH))])
def aB2:=wu GO.eq_1
def oJ:CC:=(.seq GN (.cond mW GO .skip))
def aB3:=wu oJ.eq_1
def oK:CC:=(.reg [(qq nC (.mv z7)),(qq a2 (.mv oF))])
def aB4:=wu oK.eq_1
def GP:CC:=(.seq zY (.seq rc (.seq oJ (.seq oK .ret))))
def aB5:=wu GP.eq_1
def GQ:CC:=(.seq Pc (.seq Pd (.seq Pe (.seq DQ GP))))
def KO:=wu GQ.eq_1
def am6:CF:= .mk 6 [.t a2] GQ
theorem cA9(v0:V):aU 6 [v0]=(.n mM (some v0) mM):=rfl
def cf2:=ai @cA9 (ai @Zn (ai @Zo (ai @Zp (ai @FH (ai @Zq (ai @FI (ai @FJ (ai @Zr (ai @FK (ai @Bb (ai @KM (ai @Bc (ai @aB1 (ai @aB2 (ai @aB3 (ai @aB4 (ai @aB5 (@KO))))))))))))))))))
def rJ:bL:=cQ [.s 0 0] 9 (o7.map sV)
theorem cM4(Φ:Nat→Option CF)(h:Φ 128=some WT):eX (lU Φ) F 128 [] M c (Φ 128)= .k (.l c 0 29 29) (M.set c rJ) (c+1):=by
 have hk:Calls Φ F 128 [] M c fun r M' c'=>r= .l c 0 29 29∧M'=M.set c rJ∧c'=c+1:=by
  refine ax h ?_;simp only[WX,Nat.reduceAdd,dd9];rfl
 obtain⟨v,M',c',e,rfl,rfl,rfl⟩:=hk
 exact e
theorem Y5(h:M.get b=some rJ)(hb:b<c):bG F M c 1 (.l b 0 29 29) (cR o7):=by
 refine qS (d:=[.s 0 0]) (ty:=9) ?_ hb (fun e he=>by obtain⟨x,_,rfl⟩:=List.mem_map.1 he;rfl) rfl
 rw[h];rfl
def jK(l:List (List UInt8)):List UInt8:=(l.map fun x=>[32]++x).flatten
theorem oy(a b:List (List UInt8)):jK (a++b)=jK a++jK b:=by simp[jK]
theorem Z8:jK []=[]:=rfl
theorem si(x:List UInt8):jK [x]=32::x:=by simp[jK]
theorem bp1(Φ:Nat→Option CF)(h56:Φ 56=some (.orc (cI L qR))){cb:Nat}(ht:bn F L=true){op d a b i:Int}(hM:M.get cb=some (au 100 [.i .i64 op,.i .i64 d,.i .i64 a,.i .i64 b,.i .i64 i]))(hm:dP op d a b i=true){fd fa fb fi:Bool}(hfd:fd=dI (bE op))(hfa:fa=aI (bE op))(hfb:fb=bI (bE op))(hfi:fi=iI (bE op))(w:List UInt8)(hw:w.length≤100)(u:List (Option V)):
 Wp oJ (K Φ none 101 F) (.mk ((KB u (.p cb 0) (.b fd) (.b fa) (.b fb) (.b fi) (sV w))) [] M c1) (lR (.seq oK .ret) (K Φ none 101 F) (dA F [.t (.r .h)] fun r _ _=>r=sV (w++jK (R4 op i)))):=by
 have hT:=fun h args M c=>cP ht h args M c
 obtain⟨n1,n2,n3,n4,n5⟩:=oS hm
 have lf:load1 F M cb 4=some (.i .i64 i):=aj hM 4
 have hr: -9223372036854775808≤i∧i≤9223372036854775807:=by omega
 have hc1:bX .add (sV w) (.s 1 32)=some (sV (w++[32])):=cL w [32] (by simp;omega)
 have hc2:bX .add (sV (w++[32])) (sV (bT i))=some (sV (w++[32]++bT i)):=cL _ _ (by have:=fL i;simp;omega)
 cases fi with
 |true=>
  simp only[WX,cf2,lf,hc1,h56,hT,fg hr.1 hr.2,hc2];rw[R4,←hfi,ae rfl,si,cB];rfl
 |false=>
  simp only[WX,cf2];rw[R4,←hfi,ab (by decide),Z8,cu]
theorem bp0(Φ:Nat→Option CF)(h56:Φ 56=some (.orc (cI L qR))){cb:Nat}(ht:bn F L=true){op d a b i:Int}(hM:M.get cb=some (au 100 [.i .i64 op,.i .i64 d,.i .i64 a,.i .i64 b,.i .i64 i]))(hm:dP op d a b i=true){fd fa fb fi:Bool}(hfd:fd=dI (bE op))(hfa:fa=aI (bE op))(hfb:fb=bI (bE op))(hfi:fi=iI (bE op))(w:List UInt8)(hw:w.length≤70)(u:List (Option V)):
 Wp rc (K Φ none 101 F) (.mk ((KB u (.p cb 0) (.b fd) (.b fa) (.b fb) (.b fi) (sV w))) [] M c1) (lR (.seq oJ (.seq oK .ret)) (K Φ none 101 F) (dA F [.t (.r .h)] fun r _ _=>r=sV (w++jK (R3 op b i)))):=by
 have hT:=fun h args M c=>cP ht h args M c
 obtain⟨n1,n2,n3,n4,n5⟩:=oS hm
 have lf:load1 F M cb 3=some (.i .i64 b):=aj hM 3
 have hr: -9223372036854775808≤b∧b≤9223372036854775807:=by have:=n3 2;rw[show l9 d a b 2=b from rfl]at this;omega
 have hc1:bX .add (sV w) (.s 2 29216)=some (sV (w++[32,114])):=cL w [32,114] (by simp;omega)
 have hc2:bX .add (sV (w++[32,114])) (sV (bT b))=some (sV (w++[32,114]++bT b)):=cL _ _ (by have:=fL b;simp;omega)
 cases fb with
 |true=>
  simp only[WX,Bb,KM,Bc,lf,hc1,h56,hT,fg hr.1 hr.2,hc2];rw[show w++jK (R3 op b i)=(w++[32,114]++bT b)++jK (R4 op i) by rw[R3,←hfb,ae rfl,oy,si];simp];exact bp1 (c1:=c1) Φ h56 ht hM hm hfd hfa hfb hfi (w++[32,114]++bT b) (by have:=fL b;simp;omega) (X1 (G1 (X1 (G4 (G1 (cw (cj (X4 (X2 (X1 []))))))))))
 |false=>
  simp only[WX,Bb,Bc];rw[show w++jK (R3 op b i)=w++jK (R4 op i) by rw[R3,←hfb,ab (by decide),List.nil_append]];exact bp1 (c1:=c1) Φ h56 ht hM hm hfd hfa hfb hfi w (by omega) (X1 (G1 (X1 (G4 (G1 (cw (cj (X4 (X2 (X1 []))))))))))
theorem bo9(Φ:Nat→Option CF)(h56:Φ 56=some (.orc (cI L qR))){cb:Nat}(ht:bn F L=true){op d a b i:Int}(hM:M.get cb=some (au 100 [.i .i64 op,.i .i64 d,.i .i64 a,.i .i64 b,.i .i64 i]))(hm:dP op d a b i=true){fd fa fb fi:Bool}(hfd:fd=dI (bE op))(hfa:fa=aI (bE op))(hfb:fb=bI (bE op))(hfi:fi=iI (bE op))(w:List UInt8)(hw:w.length≤40)(u:List (Option V)):
 Wp zY (K Φ none 101 F) (.mk ((KB u (.p cb 0) (.b fd) (.b fa) (.b fb) (.b fi) (sV w))) [] M c1) (lR (.seq rc (.seq oJ (.seq oK .ret))) (K Φ none 101 F) (dA F [.t (.r .h)] fun r _ _=>r=sV (w++jK (R2 op a b i)))):=by
 have hT:=fun h args M c=>cP ht h args M c
 obtain⟨n1,n2,n3,n4,n5⟩:=oS hm
 have lf:load1 F M cb 2=some (.i .i64 a):=aj hM 2
 have hr: -9223372036854775808≤a∧a≤9223372036854775807:=by have:=n3 1;rw[show l9 d a b 1=a from rfl]at this;omega
 have hc1:bX .add (sV w) (.s 2 29216)=some (sV (w++[32,114])):=cL w [32,114] (by simp;omega)
 have hc2:bX .add (sV (w++[32,114])) (sV (bT a))=some (sV (w++[32,114]++bT a)):=cL _ _ (by have:=fL a;simp;omega)
 cases fa with
 |true=>
  simp only[WX,FJ,Zr,FK,lf,hc1,h56,hT,fg hr.1 hr.2,hc2];rw[show w++jK (R2 op a b i)=(w++[32,114]++bT a)++jK (R3 op b i) by rw[R2,←hfa,ae rfl,oy,si];simp];exact bp0 (c1:=c1) Φ h56 ht hM hm hfd hfa hfb hfi (w++[32,114]++bT a) (by have:=fL a;simp;omega) (X1 (G1 (X1 (G4 (G1 (cw (cj (X4 (X2 (X1 []))))))))))
 |false=>
  simp only[WX,FJ,FK];rw[show w++jK (R2 op a b i)=w++jK (R3 op b i) by rw[R2,←hfa,ab (by decide),List.nil_append]];exact bp0 (c1:=c1) Φ h56 ht hM hm hfd hfa hfb hfi w (by omega) (X1 (G1 (X1 (G4 (G1 (cw (cj (X4 (X2 (X1 []))))))))))
theorem cO0(Φ:Nat→Option CF)(h56:Φ 56=some (.orc (cI L qR))){cb:Nat}(ht:bn F L=true){op d a b i:Int}(hM:M.get cb=some (au 100 [.i .i64 op,.i .i64 d,.i .i64 a,.i .i64 b,.i .i64 i]))(hm:dP op d a b i=true){fd fa fb fi:Bool}(hfd:fd=dI (bE op))(hfa:fa=aI (bE op))(hfb:fb=bI (bE op))(hfi:fi=iI (bE op))(w:List UInt8)(hw:w.length≤10)(u:List (Option V)):
 Wp DQ (K Φ none 101 F) (.mk ((KB u (.p cb 0) (.b fd) (.b fa) (.b fb) (.b fi) (sV w))) [] M c1) (lR (.seq zY (.seq rc (.seq oJ (.seq oK .ret)))) (K Φ none 101 F) (dA F [.t (.r .h)] fun r _ _=>r=sV (w++jK (R1 op d a b i)))):=by
 have hT:=fun h args M c=>cP ht h args M c
 obtain⟨n1,n2,n3,n4,n5⟩:=oS hm
 have lf:load1 F M cb 1=some (.i .i64 d):=aj hM 1
 have hr: -9223372036854775808≤d∧d≤9223372036854775807:=by have:=n3 0;rw[show l9 d a b 0=d from rfl]at this;omega
 have hc1:bX .add (sV w) (.s 2 29216)=some (sV (w++[32,114])):=cL w [32,114] (by simp;omega)
 have hc2:bX .add (sV (w++[32,114])) (sV (bT d))=some (sV (w++[32,114]++bT d)):=cL _ _ (by have:=fL d;simp;omega)
 cases fd with
 |true=>
  simp only[WX,FH,Zq,FI,lf,hc1,h56,hT,fg hr.1 hr.2,hc2];rw[show w++jK (R1 op d a b i)=(w++[32,114]++bT d)++jK (R2 op a b i) by rw[R1,←hfd,ae rfl,oy,si];simp];exact bo9 (c1:=c1) Φ h56 ht hM hm hfd hfa hfb hfi (w++[32,114]++bT d) (by have:=fL d;simp;omega) (X1 (G1 (X1 (G4 (G1 (cw (cj (X4 (X2 (X1 []))))))))))
 |false=>
  simp only[WX,FH,FI];rw[show w++jK (R1 op d a b i)=w++jK (R2 op a b i) by rw[R1,←hfd,ab (by decide),List.nil_append]];exact bo9 (c1:=c1) Φ h56 ht hM hm hfd hfa hfb hfi w (by omega) (X1 (G1 (X1 (G4 (G1 (cw (cj (X4 (X2 (X1 []))))))))))
theorem du9(Φ:Nat→Option CF)(h:Φ 101=some am6)(h56:Φ 56=some (.orc (cI L qR)))(h127:Φ 127=some (.orc (aJ nZ)))(kb:Φ 126=some (.orc (aJ kb)))(h128:Φ 128=some WT)(ok:cO F M c)(ht:bn F L=true)(op d a b i:Int)(hm:dP op d a b i=true):
 Calls Φ F 101 [.g [.i .i64 op,.i .i64 d,.i .i64 a,.i .i64 b,.i .i64 i]] M c fun r _ _=>r=sV (kl op d a b i):=by
 refine ax h ?_
 obtain⟨n1,n2,n3,n4,n5⟩:=oS hm
 have grX:Gr c M (c+1) (M.set c (au 100 [.i .i64 op,.i .i64 d,.i .i64 a,.i .i64 b,.i .i64 i])):=(Gr.refl ok).set c _ (ak _) (aD _) (aA _)
 simp only[WX,Nat.reduceAdd,cA9,Zn,Zo,Zp,KO,h127,ql,kb,An]
 have okX:cO F (M.set c (au 100 [.i .i64 op,.i .i64 d,.i .i64 a,.i .i64 b,.i .i64 i])) (c+1+6):=(grX.up (by omega)).ok ok
 refine a09 (v:= .l (c+1+6) 0 29 29) (blk:=rJ) _ _ _ _ _ _ _ _ _ _ _ okX (fun F' M'=>cM4 Φ h128) ?_
 intro N hN hNo
 obtain⟨bb,oo,_,hia,hld⟩:=tq (Y5 (F:=F) (c:=c+1+6+1) hN (by omega)) op.toNat (by rw[oT];omega)
 have hia:=hia .i64
 rw[show((op.toNat:Nat):Int)=op by omega]at hia
 have hnb:o7[op.toNat]'(by rw[oT];omega)=kQ op:=by
  unfold kQ;rw[ae ⟨n1,n2⟩,List.getElem?_eq_getElem (show op.toNat<o7.length by rw[oT];omega)];rfl
 rw[hnb]at hld
 simp only[WX,Nat.reduceAdd,hia,hld]
 have hNc:N.get c=some (au 100 [.i .i64 op,.i .i64 d,.i .i64 a,.i .i64 b,.i .i64 i]):=by rw[hNo c (by omega),am]
 rw[show kl op d a b i=kQ op++jK (R1 op d a b i) by rw[kl,aa2];rfl]
 exact cO0 Φ h56 ht hNc hm rfl rfl rfl rfl (kQ op) (by have:=zj op;omega) (X1 (G1 (X1 (G4 (G1 (cw (cj (X4 (X2 (X1 []))))))))))
def h101:List V→Option V
 |[.g [.i .i64 op,.i .i64 d,.i .i64 a,.i .i64 b,.i .i64 i]]=>if dP op d a b i=true then some (sV (kl op d a b i))else none
 |_=>none
theorem Ju{op d a b i:Int}(h:dP op d a b i=true):h101 [.g [.i .i64 op,.i .i64 d,.i .i64 a,.i .i64 b,.i .i64 i]]=some (sV (kl op d a b i)):=ae h
def xL(x:Ins):List UInt8:=kl x.op x.d x.a x.b x.i
def gc(l:List UInt8):List UInt8:=if 8192<l.length then[]else if aS l=[]∨4*(aS l).length≠l.length then 58::fh l else dE [44,32] ((aS l).map xL)
theorem Yj{w:Nat}(h:okW w=true):au4 (uC w)=true∧d88 (uC w)=w:=by
 have:=aY (show decide (dP (uG w) (dW w) (aW w) (bW w) (iW w)=true∧fp (uG w) (dW w) (aW w) (bW w) (iW w)=w)=true from h)
 exact this
theorem jR:∀(n:Nat) (l:List UInt8),l.length≤n→ ∀x∈aS l,au4 x=true
 |0,l,hl,x,hx=>by rw[fX (by omega)]at hx;cases hx
 |n+1,l,hl,x,hx=>by
  by_cases h5:l.length<4
  ·rw[fX h5]at hx;cases hx
  ·match l,hl,h5,hx with
   |a::b::c::d::r,hl,_,hx=>
    rw[rQ]at hx;split at hx
    ·rename_i hok;rcases bv.1 hx with rfl|hx
     ·exact(Yj hok).1
     ·exact jR n r (by simp at hl;omega) x hx
    ·cases hx
   |[],_,h5,_=>simp at h5
   |[_],_,h5,_=>simp at h5
   |[_,_],_,h5,_=>simp at h5
   |[_,_,_],_,h5,_=>simp at h5
abbrev Za(u:List (Option V))(x0 x2 x3:V):T:=(.n (.n (.n (aq u 31 15 47 7 39 23 55) (some x3) (aq u 35 19 51 11 43 27 59)) (uO u 1) (.n (aq u 33 17 49 9 41 25 57) (uO u 5) (aq u 37 21 53 13 45 29 61))) (some x0) (.n (.n (aq u 32 16 48 8 40 24 56) (uO u 4) (aq u 36 20 52 12 44 28 60)) (some x2) (.n (aq u 34 18 50 10 42 26 58) (uO u 6) (aq u 38 22 54 14 46 30 62))))
abbrev bO9(u:List (Option V))(x0 x2 x3 x11 x12:V):T:=(.n (.n (.n (aq u 31 15 47 7 39 23 55) (some x3) (.n (fu u 35 19 51) (some x11) (fu u 43 27 59))) (uO u 1) (.n (aq u 33 17 49 9 41 25 57) (uO u 5) (aq u 37 21 53 13 45 29 61))) (some x0) (.n (.n (aq u 32 16 48 8 40 24 56) (uO u 4) (.n (fu u 36 20 52) (some x12) (fu u 44 28 60))) (some x2) (.n (aq u 34 18 50 10 42 26 58) (uO u 6) (aq u 38 22 54 14 46 30 62))))
def aL0:CC:=(.reg [(qq a8 (.mv z0)),(qq a9 (.ln .slice z8)),(qq dp (.bi .gtr z9 (x6 8192)))])
def bs7:=wu aL0.eq_1
def aL1:CC:=(.seq (.reg [(qq a2 (.mv (.c (.s 0 0))))]) .ret)
def cV1:=wu aL1.eq_1
def S4:CC:=(.reg [(qq dk (.mv z0)),(ee dy (.call 52 [dC]))])
def bs8:=wu S4.eq_1
def S5:CC:=(.reg [(aa a5 (.al 100 [(.i .i64 0),(.i .i64 0),(.i .i64 0),(.i .i64 0),(.i .i64 0)])),(ez (.st 5 z5 eu))])
def cV2:=wu S5.eq_1
def S6:CC:=(.reg [(qq dY (.ldn 5 z5)),(ee eE (.call 53 [eF])),(qq dS (.mv eD)),(qq dT (.ex 0 dM)),(qq eG (.ex 1 dM)),(qq a6 (.mv fm)),(qq a7 (.mv fS))])
def cV3:=wu S6.eq_1
def S7:CC:=(.reg [(qq fF (.ld1 z3)),(qq eR (.mv z6)),(aa fv (.bsl 9 1 1 [(.s 0 0)] [(0,gv)])),(ee fl (.app 9 1 16 fD gb)),(ez (.st 1 z3 gH))])
def cV4:=wu S7.eq_1
def S8:CC:=(.rf dX [dN,dL] S5 (.block 1 (.seq S6 S7)))
def cV5:=wu S8.eq_1
def aL2:CC:=(.reg [(qq dU (.ld1 z3)),(qq eV (.ln .slice gM)),(qq eb (.bi .eql gO (x6 0))),(qq fG (.mv gw)),(aH gi (.ld1 z3) fG),(aH gg (.ln .slice iz) fG),(aH gQ (.bi .mul (x6 4) iA) fG),(aH j4 (.mv z0) fG),(aH gj (.ln .slice jh) fG),(aH iG (.bi .neq iE jL) fG),(qq fT (.pk gy xT kz))])
def cV6:=wu aL2.eq_1
def aL3:CC:=(.reg [(qq j5 (.mv z0)),(ee kv (.call 26 [kD])),(qq jq (.bi .add (.c (.s 1 58)) ll)),(qq a2 (.mv kr))])
def cV7:=wu aL3.eq_1
def RY:CC:=(.cond kC (.seq aL3 .ret) .skip)
def bS9:=wu RY.eq_1
def RZ:CC:=(.reg [(qq gR (.ld1 z3)),(ee j6 (.call 54 [kW,(.c (.s 2 8236))])),(qq a2 (.mv lh))])
def bT0:=wu RZ.eq_1
def S0:CC:=(.seq (.seq S4 (.block 0 S8)) (.seq (.seq aL2 RY) (.seq RZ .ret)))
def Zx:=wu S0.eq_1
def S1:CC:=(.seq (.reg [(aa a3 (.al 86 [.l0]))]) S0)
def Zy:=wu S1.eq_1
def S2:CC:=(.seq (.seq aL0 (.cond dx aL1 .skip)) S1)
def Zz:=wu S2.eq_1
def S3:CC:=(.seq (.reg [(qq a2 (.mv (.c (.s 0 0))))]) S2)
def ZA:=wu S3.eq_1
def c20:CF:= .mk 6 [.t a2] S3
theorem e20(v0:V):aU 6 [v0]=(.n mM (some v0) mM):=rfl
def B20:=ai @e20 (ai @bs7 (ai @cV1 (ai @bs8 (ai @cV2 (ai @cV3 (ai @cV4 (ai @cV5 (ai @cV6 (ai @cV7 (ai @bS9 (ai @bT0 (ai @Zx (ai @Zy (ai @Zz (@ZA)))))))))))))))
theorem B1{x:Ins}(hm:au4 x=true):(xL x).length≤120:=by
 unfold xL kl
 refine bF (jQ _ _) ?_
 unfold mV
 rw[iS]
 have h1:=Gf x.op x.d x.a x.b 3
 have h2:=aa1 x.op x.d x.a x.b 3
 have h1003:=fL x.i
 rw[aG,show[(32:UInt8)].length=1 from rfl]
 split
 ·simp only[jS,List.length_singleton];omega
 ·simp only[jS,bo];omega
theorem xD:∀(L:List Ins),(∀x∈L,au4 x=true)→jS (L.map xL)≤121*L.length
 |[],_=>by simp[jS]
 |x::L,h=>by
  have:=xD L fun y hy=>h y (bN _ hy);have:=B1 (h x (ck ..));rw[List.map_cons,jS,aP];omega
structure LP(Φ:Nat→Option CF)(L:List uN):Prop where
 h52:Φ 52=some c52
 h88:Φ 88=some c88
 h89:Φ 89=some c89
 h116:Φ 116=some (.orc (aJ h116))
 h90:Φ 90=some c90
 h53:Φ 53=some (.orc (cI L h53))
 h26:Φ 26=some WV
 h54:Φ 54=some c54
 h93:Φ 93=some c93
 h23:Φ 23=some O9
 h28:Φ 28=some WW
 h60:Φ 60=some En
 h120:Φ 120=some vP
theorem dj7(Φ:Nat→Option CF)(p:LP Φ L)(ok:cO F M (c+1))(hge:1000≤c)(ht:bn F L=true)(hs:fC F M (c+1) v l)(hl:l.length≤8192)(hc:M.get c=some (au 86 [.l0]))(h0:∀x,x<c→M.get x=M0.get x)(u:List (Option V))(Q:Ex→St→Prop)
 (hQ:∀(u:List (Option V)) (acc:V) (d:Nat) M' c',c+1≤d→d<c'→cO F M' c'→(∀x,x<c→M'.get x=M0.get x)→M'.get c=some (au 86 [acc])→M'.get d=some (.defs false)→gh F M' (d+1) c' 1 acc (cR ((aS l).map xL))→Q .nrm (.mk ((Za u v (.s 0 0) (.p c 0))) [d] M' c')):
 Wp (S4.seq (.block 0 S8)) (K Φ none 20 F) (.mk ((Za u v (.s 0 0) (.p c 0))) [] M (c+1)) Q:=by
 simp only[WX,bs8]
 refine aw ((r52 Φ p.h52 p.h88 ok hs (by omega)).mono ?_)
 rintro r M1 c1 ⟨pb,w,rfl,p1,p2,p3,hw,g1⟩
 have g1l:=g1.le
 have cW:=g1.ok ok
 simp only[WX,B20]
 refine cc4 ?_
 simp only[WX,ao8]
 obtain⟨BL,hBL⟩:∃BL:LS→pW→bL,BL=fun s' q=>bL.loop s' q 20 ((bO9 u v (.s 0 0) (.p c 0) v (.f 89 [] [.p pb 0]))) [(.l (.r (.r .h))),(.r (.r (.r .h)))] S5 (.block 1 (S6.seq S7)) c1:=⟨_,rfl⟩
 have hTL:(aS l).length≤8192:=by have:=mz _ l (ak _);omega
 have hm:=jR _ l (ak _)
 obtain⟨Ik,hIk⟩:∃I:Nat→Mem→Nat→Prop,∀k M' cc,I k M' cc↔(∃acc b1,cO F M' cc∧c1+2≤cc∧(∀x,x<c→M'.get x=M0.get x)∧M'.get c=some (au 86 [acc])∧(∀x,c<x→x<c1→M'.get x=M1.get x)∧M'.get c1=some (.defs false)∧M'.get (c1+1)=some (BL .ready .none)∧cA M' (c1+2) cc b1 9 1 acc (cR (((aS l).take k).map xL))∧k≤(aS l).length):=⟨fun k M' cc=>_,fun _ _ _=>Iff.rfl⟩
 have gZ:Gr (c+1) M (c1+2) ((M1.set c1 (.defs false)).set (c1+1) (BL .ready .none)):=((g1.set c1 _ (by omega) (show c1<c1+1 by omega) (by omega)).set (c1+1) _ (by omega) (by omega) (by omega))
 have okZ:=gZ.ok ok
 refine(r89 Φ p.h89 p.h116 p.h90 (y:=c1+1) (w:=c1) (pb:=pb) (v:=w) (l:=l) (by omega) (I:=Ik) (J:=fun _ _=>False) ?_ ?_ ?_ ?_).mono ?_
 ·refine(hIk _ _ _).2 ⟨.l0,0,?_,ak _,fun x hx=>?_,?_,fun x x1 x2=>?_,?_,?_,?_,aE _⟩
  ·rw[hBL]at okZ;exact okZ
  ·rw[az _ _ (by omega),az _ _ (by omega),g1.old x (by omega),h0 x hx]
  ·rw[az _ _ (by omega),az _ _ (by omega),g1.old c (by omega)];exact hc
  ·rw[az _ _ (by omega),az _ _ (by omega)]
  ·rw[az _ _ (by omega)];exact am _ _ _
  ·rw[hBL];exact am _ _ _
  ·exact cA.nil
 ·intro k M2 cc hi;obtain⟨acc,b1,a1,a2,a3,a4,a5,a6,a7,a8,a9⟩:=(hIk _ _ _).1 hi;exact⟨a1,by omega,(a5 pb (by omega) p2).trans p3,(hw.up (lo':=c+1) (c':=cc) (by omega) (ak _) fun b x1 x2=>a5 b (by omega) x2).sl⟩
 ·intro k M2 cc M3 c1003 hi hg;obtain⟨acc,b1,a1,a2,a3,a4,a5,a6,a7,a8,a9⟩:=(hIk _ _ _).1 hi;have:=hg.le;exact(hIk _ _ _).2 ⟨acc,b1,hg.ok a1,by omega,fun x hx=>(hg.old x (by omega)).trans (a3 x hx),(hg.old _ (by omega)).trans a4,fun x x1 x2=>(hg.old x (by omega)).trans (a5 x x1 x2),(hg.old _ (by omega)).trans a6,(hg.old _ (by omega)).trans a7,a8.gr hg,a9⟩
 ·intro k M2 cc hk hi;obtain⟨acc,b1,a1,a2,a3,a4,a5,a6,a7,a8,a9⟩:=(hIk _ _ _).1 hi;have hl5:=a7;rw[hBL]at hl5;refine ab1 hl5 (yu _ _ _ _ _) ?_;have hx:=hm _ (List.getElem_mem hk);have hins:qn (aS l)[k]=[.i .i64 (aS l)[k].op,.i .i64 (aS l)[k].d,.i .i64 (aS l)[k].a,.i .i64 (aS l)[k].b,.i .i64 (aS l)[k].i]:=rfl;rw[hins];have e53:=(bK3 (aS l)[k].op (aS l)[k].d (aS l)[k].a (aS l)[k].b (aS l)[k].i).trans (congrArg some (ae hx));have htk:(aS l).take (k+1)=(aS l).take k++[(aS l)[k]]:=cq hk;generalize hzz:(aS l)[k]=z at hx hins e53 htk⊢;have hc0:(M2.set cc (au 100 [.i .i64 0,.i .i64 0,.i .i64 0,.i .i64 0,.i .i64 0])).get cc=some (au 100 [.i .i64 0,.i .i64 0,.i .i64 0,.i .i64 0,.i .i64 0]):=am _ _ _;have hs1:=bS hc0 0 [.i .i64 z.op,.i .i64 z.d,.i .i64 z.a,.i .i64 z.b,.i .i64 z.i] (by simp) rfl;simp only[WX,Nat.reduceAdd,B20,hs1];refine ah1 (by rw[az _ _ (by omega),az _ _ (by omega)];exact hl5) ?_;rw[show bL.loop LS.busy _ _ _ _ _ _ _=BL .busy .none by rw[hBL]];generalize hMB:Tr.set (Tr.set (Tr.set M2 cc _) cc _) (c1+1) (BL .busy .none)=MB;have okB:cO F MB (cc+1):=by
   rw[←hMB];refine cO.put (((Gr.refl a1).set cc _ (ak _) (show cc<cc+1 by omega) (by omega)).set cc _ (ak _) (show cc<cc+1 by omega) (ak _)|>.ok a1) (by omega) (x:=BL .ready .none) ?_;rw[az _ _ (by omega),az _ _ (by omega)];exact a7
  have mo:∀x,x<cc→x≠c1+1→MB.get x=M2.get x:=fun x x1 x2=>by rw[←hMB,az _ _ x2,az _ _ (by omega),az _ _ (by omega)]
  have mc:MB.get cc=some (au 100 [.i .i64 z.op,.i .i64 z.d,.i .i64 z.a,.i .i64 z.b,.i .i64 z.i]):=by rw[←hMB,az _ _ (by omega)];exact am _ _ _
  have ml:MB.get (c1+1)=some (BL .busy .none):=by rw[←hMB];exact am _ _ _
  have l126:=lK (F:=F) mc 5 rfl;have l78:=aj (F:=F) ((mo c (by omega) (by omega)).trans a4) 0;have hT:=fun h args M c=>cP ht h args M c;obtain⟨hA1,hA2,hA3⟩:=DK a8;clear hMB;have hf1:∀t:List UInt8,flatten (sV t)=[sV t]:=fun _=>rfl;have hf2:∀t:List UInt8,bj [sV t]=true:=fun _=>rfl;have hf3:∀t:List UInt8,dD (sV t)=true:=fun _=>rfl;have hty:xL z=kl z.op z.d z.a z.b z.i:=rfl;have htl:=B1 hx;rw[hty]at htl;generalize kl z.op z.d z.a z.b z.i=tz at e53 hty htl⊢;simp only[WX,Nat.reduceAdd,B20,l126,l78,p.h53,hT,e53,hf1,hf2];have g3:=(Gr.refl okB).set (cc+1) (cQ [.s 0 0] 9 [sV tz]) (ak _) (show cc+1<cc+2 by omega) (by omega);have hy:bG F (MB.set (cc+1) (cQ [.s 0 0] 9 [sV tz])) (cc+2) 1 (.l (cc+1) 0 1 1) (cR [tz]):=qS (d:=[.s 0 0]) (ty:=9) (am _ _ _) (by omega) (fun e he=>by obtain⟨x,_,rfl⟩:=List.mem_map.1 he;rfl) rfl;have hA8:=a8.keep (M':=MB.set (cc+1) (cQ [.s 0 0] 9 [sV tz])) (c':=cc+2) (by omega) fun x x1 x2=>(g3.old x (by omega)).trans (mo x (by omega) (by omega));have hkl:(cR (((aS l).take k).map xL)).length≤8192:=by unfold cR;rw[List.length_map,List.length_map,List.length_take];omega
  refine aw ((ag0 (c0:=c1+2) (bytes:=16) hA8 (g3.ok okB) (by omega) (by decide) hy rfl (db (by rw[show(cR [tz]).length=1 from rfl];omega) (by rw[show(cR [tz]).length=1 from rfl];omega))).mono ?_);rintro v' M4 c5 ⟨b5,hA4,Ye,hle4,hold4⟩;have mo4:∀x,x<c1+2→x≠c1+1→M4.get x=M2.get x:=fun x x1 x2=>(hold4 x x1).trans ((g3.old x (by omega)).trans (mo x (by omega) x2));have hsc:=bS ((mo4 c (by omega) (by omega)).trans a4) 0 [v'] (by simp) (by obtain⟨_,_,h1003⟩:=DK hA4;exact h1003);obtain⟨hB1,hB2,hB3⟩:=DK hA4;simp only[WX,hsc,hB2];have ml4:(M4.set c (au 86 [v'])).get (c1+1)=some (BL .busy .none):=(az _ _ (by omega)).trans ((hold4 _ (by omega)).trans ((g3.old _ (by omega)).trans ml));have hly:=ml4;rw[hBL]at hly;refine cd2 hly ?_;refine⟨rfl,(hIk _ _ _).2 ⟨v',b5,?_,by omega,fun x hx=>?_,?_,fun x x1 x2=>?_,?_,?_,?_,hk⟩⟩
  ·exact(Ye.put (by omega) ((mo4 c (by omega) (by omega)).trans a4)).put (by omega) ml4
  ·rw[az _ _ (by omega),az _ _ (by omega),mo4 x (by omega) (by omega),a3 x hx]
  ·rw[az _ _ (by omega)];exact am _ _ _
  ·rw[az _ _ (by omega),az _ _ (by omega),mo4 x (by omega) (by omega),a5 x x1 x2]
  ·rw[az _ _ (by omega),az _ _ (by omega),mo4 c1 (by omega) (by omega),a6]
  ·rw[hBL];exact am _ _ _
  ·rw[htk,List.map_append,show List.map xL [z]=[tz] by rw[←hty];rfl];unfold cR at hA4⊢;rw[List.map_append];exact hA4.keep (ak _) fun x x1 x2=>by rw[az _ _ (by omega),az _ _ (by omega)]
 ·intro v' M2 cc hij;rcases hij with hi|hj
  rotate_left
  ·exact hj.elim
  obtain⟨acc,b1,a1,a2,a3,a4,a5,a6,a7,a8,a9⟩:=(hIk _ _ _).1 hi;rw[List.take_length]at a8;have hl5:=a7;rw[hBL]at hl5;refine⟨_,_,_,_,_,_,_,_,hl5,(by intro h;cases h),?_⟩;rw[show bL.loop LS.exhausted _ _ _ _ _ _ _=BL .exhausted .none by rw[hBL]];simp only[WX,CA];refine hQ (G1 (X1 (G2 (cw (cj (X8 (X2 (X1 [])))))))) acc c1 _ cc (by omega) (by omega) (a1.put (by omega) a7) (fun x hx=>?_) ?_ ?_ ?_
  ·rw[az _ _ (by omega),a3 x hx]
  ·rw[az _ _ (by omega)];exact a4
  ·rw[az _ _ (by omega)];exact a6
  ·exact a8.own.up (ak _) (by omega) fun x x1 x2=>az _ _ (by omega)
theorem r20(Φ:Nat→Option CF)(h:Φ 20=some c20)(p:LP Φ L)
 (ok:cO F M c) (ht:bn F L=true) (hs:fC F M c v l):
 Calls Φ F 20 [v] M c fun r M' c'=>r=sV (gc l)∧Gr c M c' M':=by
 refine ax h ?_
 have hge:=ok.ge
 have hln:=hs.len
 by_cases hl:8192<l.length
 ·have d1:decide ((8192:Int)<(l.length:Int))=true:=af (by omega);simp only[WX,B20,hln,d1];exact⟨by unfold gc;rw[ae hl];rfl,Gr.refl ok⟩
 have d1:decide ((8192:Int)<(l.length:Int))=false:=ah (by omega)
 simp only[WX,e20,bs7,Zx,Zy,Zz,ZA,hln,d1]
 have g0:=(Gr.refl ok).set c (au 86 [.l0]) (ak _) (aD _) (aA _)
 have hm:=jR _ l (ak _)
 have hpl:=mz _ l (ak _)
 rw[←bP]
 refine dj7 Φ p (g0.ok ok) hge ht (hs.grow g0) (by omega) (am _ _ _) (fun x hx=>g0.old x hx) (G1 (X1 (G2 (cw (cj (X8 (X2 (X1 [])))))))) _ ?_
 intro u acc d M1 c1 k1 k2 k3 k4 k5 k6 k7
 have l78:=aj (F:=F) k5 0
 have hsl:=AX k7.sl
 rw[List.length_map]at hsl
 have gr1:Gr c M c1 M1:=⟨by omega,k4,k3.hiM⟩
 have ht1:∀M2 c2,Gr c1 M1 c2 M2→cV [d] M2=some (M2.set d (.defs true)):=fun M2 c2 g=>by rw[B0 (by rw[g.old d k2];exact k6)];rfl
 have grd:∀M2 c2,Gr c1 M1 c2 M2→Gr c M c2 (M2.set d (.defs true)):=fun M2 c2 g=>(gr1.trans g).set d _ (by omega) (by have:=g.le;omega) (ak _)
 have q4:bX .mul (.i .i64 4) (.i .i64 ((aS l).length:Int))=some (.i .i64 ((4*(aS l).length:Nat):Int)):=by
  rw[mr _ _ (by omega) (by omega)];simp
 have hpe:(aS l=[]∨4*(aS l).length≠l.length)→gc l=58::fh l:=fun hn=>by unfold gc;rw[ab hl,ae hn]
 have hcat:bX .add (.s 1 58) (sV (fh l))=some (sV (58::fh l)):=by
  have:=cL [58] (fh l) (by have:(fh l).length≤20000:=(by(unfold fh;split;exact Nat.le_of_ble_eq_true rfl;rw[kc];omega));rw[List.length_singleton];omega)
  exact this
 by_cases hz:(aS l).length=0
 ·have dz:decide (((aS l).length:Int)=0)=true:=af (by omega);simp only[WX,B20,l78,hsl,dz];refine aw ((r26 Φ p.h26 p.h23 p.h28 p.h60 k3 (hs.grow gr1) (by omega)).mono ?_);rintro r M2 c2 ⟨rfl,g2⟩;simp only[WX,hcat,sR,ht1 _ _ g2,sQ];exact⟨by rw[hpe (.inl (List.length_eq_zero_iff.1 hz))],grd _ _ g2⟩
 ·have dz:decide (((aS l).length:Int)=0)=false:=ah (by omega);by_cases hn:4*(aS l).length=l.length
  ·have dn:decide (((4*(aS l).length:Nat):Int)≠(l.length:Int))=false:=ah (by omega);simp only[WX,B20,l78,hsl,q4,hln,dz,dn];refine aw ((r54 (s:=[44,32]) Φ p.h54 p.h93 p.h23 p.h28 p.h60 p.h120 k3 k7.sl (by have:=xD _ hm;omega) (by decide) (by decide)).mono ?_);rintro r M2 c2 ⟨rfl,g2⟩;simp only[WX,sR,ht1 _ _ g2,sQ];refine⟨?_,grd _ _ g2⟩;unfold gc;rw[ab hl,ab];rintro(e|e)
   ·rw[e]at hz;exact hz rfl
   ·exact e hn
  ·have dn:decide (((4*(aS l).length:Nat):Int)≠(l.length:Int))=true:=af (by omega);simp only[WX,B20,l78,hsl,q4,hln,dz,dn];refine aw ((r26 Φ p.h26 p.h23 p.h28 p.h60 k3 (hs.grow gr1) (by omega)).mono ?_);rintro r M2 c2 ⟨rfl,g2⟩;simp only[WX,hcat,sR,ht1 _ _ g2,sQ];exact⟨by rw[hpe (.inr hn)],grd _ _ g2⟩
abbrev bP0(u:List (Option V))(x0 x3 x4 x5:V):T:=(.n (.n (.n (aq u 31 15 47 7 39 23 55) (some x3) (aq u 35 19 51 11 43 27 59)) (uO u 1) (.n (aq u 33 17 49 9 41 25 57) (some x5) (aq u 37 21 53 13 45 29 61))) (some x0) (.n (.n (aq u 32 16 48 8 40 24 56) (some x4) (aq u 36 20 52 12 44 28 60)) (uO u 2) (.n (aq u 34 18 50 10 42 26 58) (uO u 6) (aq u 38 22 54 14 46 30 62))))
def b46:CC:=(.reg [(qq a6 (.mv z0)),(qq a7 (.ln .slice z6)),(qq a8 (.bi .gtr z7 (x6 8192)))])
def b47:CC:=(.seq (.reg [(qq a2 (.mv (.c (.s 0 0))))]) .ret)
def b48:CC:=(.reg [(qq a9 (.mv z0)),(ee dp (.call 100 [z9])),(qq a3 (.mv dx))])
def b50:CC:=(.reg [(qq dk (.mv z3)),(qq dy (.ln .slice dC)),(qq dN (.bi .eql dX (x6 0))),(qq dL (.mv dG)),(aH dS (.mv z3) dL),(aH dY (.ln .slice dM) dL),(aH eE (.bi .mul (x6 4) eF) dL),(aH dT (.mv z0) dL),(aH eG (.ln .slice fm) dL),(aH fF (.bi .neq eD fS) dL),(qq eR (.pk eu xT fD))])
def b51:CC:=(.reg [(qq fv (.mv z0)),(ee fl (.call 66 [gb])),(qq dU (.bi .add (.c (.s 1 58)) gH)),(qq a2 (.mv gM))])
def b52:CC:=(.seq b50 (.cond gv (.seq b51 .ret) .skip))
def b53:CC:=(.reg [(qq eV (.mv z3)),(qq eb (.iaS 5 gO (x6 0))),(qq fG (.ldn 5 gw)),(ee gi (.call 101 [gy])),(qq a4 (.mv iz))])
def b54:CC:=(.reg [(qq a5 (.mv (x6 1)))])
def b55:CC:=(.reg [(qq gg (.mv z5)),(qq gQ (.mv z3)),(qq j4 (.ln .slice iE)),(qq gj (.bi .lss iA jh))])
def V1:CC:=(.seq b55 (.cond jL .skip (.exit 0)))
def V2:CC:=(.reg [(qq j5 (.mv z4)),(qq kv (.bi .add kD (.c (.s 2 8236)))),(qq jq (.mv z3)),(qq gR (.mv z5)),(qq j6 (.iaS 5 kr kW)),(qq jr (.ldn 5 lh)),(ee kF (.call 101 [lm])),(qq jM (.bi .add ll lq)),(qq a4 (.mv lr))])
def V3:CC:=(.reg [(qq iG (.mv z5)),(qq fT (.bi .add kz (x6 1))),(qq a5 (.mv kC))])
def V4:CC:=(.block 0 (.loop (.seq V1 (.seq (.block 1 V2) V3))))
def V5:CC:=(.reg [(qq j7 (.mv z4)),(qq a2 (.mv mW))])
def V6:CC:=(.seq b52 (.seq b53 (.seq (.seq b54 V4) (.seq V5 .ret))))
def V7:CC:=(.seq (.seq b46 (.cond z8 b47 .skip)) (.seq b48 V6))
def V8:CC:=(.seq (.reg [(qq a2 (.mv (.c (.s 0 0))))]) V7)
def c65:CF:= .mk 6 [.t a2] V8
theorem e65(v0:V):aU 6 [v0]=(.n mM (some v0) mM):=rfl
def B65:=ai @e65 (ai (wu b46.eq_1) (ai (wu b47.eq_1) (ai (wu b48.eq_1) (ai (wu b50.eq_1) (ai (wu b51.eq_1) (ai (wu b52.eq_1) (ai (wu b53.eq_1) (ai (wu b54.eq_1) (ai (wu b55.eq_1) (ai (wu V1.eq_1) (ai (wu V2.eq_1) (ai (wu V3.eq_1) (ai (wu V4.eq_1) (ai (wu V5.eq_1) (ai (wu V6.eq_1) (ai (wu V7.eq_1) (wu V8.eq_1)))))))))))))))))
structure RP(Φ:Nat→Option CF)(L:List uN):Prop where
 h65:Φ 65=some c65
 h100:Φ 100=some am5
 h66:Φ 66=some LM
 h101:Φ 101=some (.orc (cI L h101))
 h125:Φ 125=some WS
 h153:Φ 153=some (.orc (aJ h153))
theorem r65(Φ:Nat→Option CF)(p:RP Φ L)(ok:cO F M c)(ht:bn F L=true)(hs:fC F M c v l):
 Calls Φ F 65 [v] M c fun r M' c'=>r=sV (gc l)∧Gr c M c' M':=by
 refine ax p.h65 ?_
 have hge:=ok.ge
 have hln:=hs.len
 by_cases hl:8192<l.length
 ·have d1:decide ((8192:Int)<(l.length:Int))=true:=af (by omega);simp only[WX,B65,hln,d1];exact⟨by unfold gc;rw[ae hl];rfl,Gr.refl ok⟩
 have d1:decide ((8192:Int)<(l.length:Int))=false:=ah (by omega)
 simp only[WX,B65,hln,d1]
 refine aw ((du8 Φ p.h100 p.h153 p.h125 ok hs (by omega)).mono ?_)
 rintro w M1 c1 ⟨hw,gr1⟩
 have hm:=jR _ l (ak _)
 have hpl:=mz _ l (ak _)
 have cW:=gr1.ok ok
 have hsl:l6 w=some (.i .i64 ((aS l).length:Int)):=by have:=hw.sl.len;rwa [List.length_map]at this
 have q4:bX .mul (.i .i64 4) (.i .i64 ((aS l).length:Int))=some (.i .i64 ((4*(aS l).length:Nat):Int)):=by
  rw[mr _ _ (by omega) (by omega)];simp
 have hpe:(aS l=[]∨4*(aS l).length≠l.length)→gc l=58::fh l:=fun hn=>by unfold gc;rw[ab hl,ae hn]
 have hcat:bX .add (.s 1 58) (sV (fh l))=some (sV (58::fh l)):=by
  have:=cL [58] (fh l) (by have:(fh l).length≤20000:=(by(unfold fh;split;exact Nat.le_of_ble_eq_true rfl;rw[kc];omega));rw[List.length_singleton];omega)
  exact this
 by_cases hz:(aS l).length=0
 ·have dz:decide (((aS l).length:Int)=0)=true:=af (by omega);simp only[WX,B65,hsl,dz];refine aw ((r66 Φ p.h66 cW (hs.grow gr1) (by omega)).mono ?_);rintro r M2 c2 ⟨rfl,g2⟩;simp only[WX,hcat];exact⟨by rw[hpe (.inl (List.length_eq_zero_iff.1 hz))],gr1.trans g2⟩
 ·have dz:decide (((aS l).length:Int)=0)=false:=ah (by omega);by_cases hn:4*(aS l).length=l.length
  ·have dn:decide (((4*(aS l).length:Nat):Int)≠(l.length:Int))=false:=ah (by omega);have hT:=fun h args M c=>cP ht h args M c;have hp:gc l=dE [44,32] ((aS l).map xL):=by
    unfold gc;rw[ab hl,ab];rintro(e|e)
    ·rw[e]at hz;exact hz rfl
    ·exact e hn
   rw[hp];generalize aS l=P at hw hm hpl hsl q4 hz dz hn dn⊢;obtain⟨b0,o0,hb0,hia0,hld0⟩:=XH hw.sl 0 (by omega);have hia0:=hia0 .i64;rw[Int.ofNat_zero]at hia0;have htx0:=Ju (hm _ (List.getElem_mem (show 0<P.length by omega)));have hP0:dE [44,32] ((P.take 1).map xL)=kl (P[0]'(by omega)).op (P[0]'(by omega)).d (P[0]'(by omega)).a (P[0]'(by omega)).b (P[0]'(by omega)).i:=by rw[cq (show 0<P.length by omega)];simp[dE];rfl
   simp only[WX,B65,hsl,q4,hln,dz,dn,hia0,hld0,p.h101,hT,htx0];obtain⟨I,hI⟩:∃I:Nat→St→Prop,∀n s',I n s'↔(∃(i:Nat) (u:List (Option V)),n=P.length-i∧i≤P.length∧1≤i∧s'= .mk ((bP0 u v w (sV (dE [44,32] ((P.take i).map xL))) (.i .i64 (i:Int)))) [] M1 c1):=⟨fun n s'=>_,fun _ _=>Iff.rfl⟩
   refine bD I ?_ (P.length-1) _ ((hI _ _).2 ⟨1,(G1 (X2 (G2 (G1 (cw (cj (X8 (X1 [])))))))),rfl,by omega,by omega,by rw[hP0];rfl⟩);intro n s' hIs;obtain⟨i,u,rfl,hi,hi1,rfl⟩:=(hI _ _).1 hIs;clear hIs;have q8:bX .add (.i .i64 (i:Int)) (.i .i64 1)=some (.i .i64 ((i+1:Nat):Int)):=by rw[aN _ _ (by omega) (by omega)];simp
   have hjl:(dE [44,32] ((P.take i).map xL)).length≤1000000:=by
    have h1:=jQ [44,32] ((P.take i).map xL);have h2:=xD (P.take i) fun x hx=>hm x (List.mem_of_mem_take hx);rw[List.length_map,List.length_take]at h1;rw[List.length_take]at h2;rw[show[(44:UInt8),32].length=2 from rfl]at h1;omega
   by_cases hlt:i<P.length
   ·have d5:decide ((i:Int)<(P.length:Int))=true:=af (by omega);obtain⟨b0,o0,hb0,hia,hld⟩:=XH hw.sl i hlt;have hia:=hia .i64;have hmx:=hm _ (List.getElem_mem hlt);have htx:=Ju hmx;have htl:=B1 hmx;have hjn:dE [44,32] ((P.take (i+1)).map xL)=dE [44,32] ((P.take i).map xL)++[44,32]++xL P[i]:=by
     obtain⟨k,rfl⟩:∃k,i=k+1:=⟨i-1,by omega⟩
     have:=zc [44,32] (P.map xL) k (by rw[List.length_map];exact hlt);rw[List.map_take,List.map_take,this,List.getElem_map]
    rw[show xL P[i]=kl P[i].op P[i].d P[i].a P[i].b P[i].i from rfl]at hjn htl;generalize kl P[i].op P[i].d P[i].a P[i].b P[i].i=tz at htx hjn htl;have k1:=cL (dE [44,32] ((P.take i).map xL)) [44,32] (by rw[show[(44:UInt8),32].length=2 from rfl];omega);have k2:=cL (dE [44,32] ((P.take i).map xL)++[44,32]) tz (by rw[aG,show[(44:UInt8),32].length=2 from rfl];omega);rw[show sV [44,32]= .s 2 8236 from rfl]at k1;rw[←hjn]at k2;simp only[WX,B65,hsl,d5,hia,hld,p.h101,hT,htx,k1,k2,q8];exact⟨P.length-(i+1),by omega,(hI _ _).2 ⟨i+1,(G1 (X2 (G2 (G1 (cw (cj (X8 (X1 [])))))))),rfl,hlt,by omega,rfl⟩⟩
   ·obtain rfl:i=P.length:=by omega
    have d5:decide ((P.length:Int)<(P.length:Int))=false:=ah (by omega);simp only[WX,B65,hsl,d5];exact⟨by rw[List.take_length],gr1⟩
  ·have dn:decide (((4*(aS l).length:Nat):Int)≠(l.length:Int))=true:=af (by omega);simp only[WX,B65,hsl,q4,hln,dz,dn];refine aw ((r66 Φ p.h66 cW (hs.grow gr1) (by omega)).mono ?_);rintro r M2 c2 ⟨rfl,g2⟩;simp only[WX,hcat];exact⟨by rw[hpe (.inr hn)],gr1.trans g2⟩
theorem Y9:∀(k f n:Nat),n<10^(k+1)→Y7 f n≤k+1
 |k,0,n,_=>by rw[Y7];omega
 |k,f+1,n,h=>by
  rw[Y7];split
  ·omega
  ·cases k with
   |zero=>simp at h;omega
   |succ k=>
    have:=Y9 k f (n/10) (by rw[Nat.pow_succ]at h;omega);omega
theorem EV{z:Int}(h0:0≤z)(h:z≤99999):(bT z).length≤5:=by
 cases z with
 |ofNat n=>
  have h1:(n:Int)≤99999:=h;rw[show(bT (Int.ofNat n)).length=nd n from ig _ _];exact Y9 4 20 n (by rw[show 10^(4+1)=100000 from rfl];omega)
 |negSucc n=>omega
theorem au3{x:Int×Int×Int}(h:yq x=true):(eZ x).length≤17:=by
 obtain⟨h1,h2,h3⟩:=av5 h
 have e1:=EV h1.1 (by omega)
 have e2:=EV h2.1 (by omega)
 have e3:=EV h3.1 (by omega)
 unfold eZ
 rw[aG,aP,aG,aP];omega
theorem zE:∀(l:List (Int×Int×Int)),l.all yq=true→jS (l.map eZ)≤18*l.length
 |[],_=>ak _
 |x::l,h=>by
  rw[List.all_cons,aC]at h;have h1:=au3 h.1;have h2:=zE l h.2;rw[List.map_cons,jS,aP];omega
theorem au2(h:nk y=true)(hb:pV y):(cd y).length+1≤40*(1+y9 y):=by
 have hk:=((vc y).1 h).1
 have h1:=((vc y).1 h).2.1
 have hkl:=wz y.k hk
 have two:∀(w:List UInt8) (m:Nat),cF y=[w]→w.length≤25+3*m→m≤y9 y→(cd y).length+1≤40*(1+y9 y):=fun w m hp hw hm=>by
  rw[cd,hp,yZ _ _ _ (by simp),lJ];simp only[aG,List.length_singleton];omega
 have hcase:y.k=1∨y.k=2∨y.k=3∨y.k=4∨y.k=5∨y.k=6∨y.k=7:=by omega
 unfold cW at h1
 rcases hcase with hk1|hk1|hk1|hk1|hk1|hk1|hk1
 ·exact two (bT y.a) 0 (by unfold cF;rw[ae (by omega)]) (by have:=eJ hb.a;omega) (aE _)
 ·exact two (bT y.a) 0 (by unfold cF;rw[ae (by omega)]) (by have:=eJ hb.a;omega) (aE _)
 ·rw[ab (by omega),ab (by omega),ae hk1]at h1;have:=aY h1;exact two (fh y.dt) y.dt.length (by unfold cF;rw[ab (by omega),ae hk1]) (by have:=jb y.dt;omega) (by unfold y9;omega)
 ·rw[ab (by omega),ab (by omega),ab (by omega),ae hk1]at h1;have:=aY h1;exact two (kV y.dt) y.dt.length (by unfold cF;rw[ab (by omega),ab (by omega),ae hk1]) (by have:=xU y.dt;omega) (by unfold y9;omega)
 ·have hp:cF y=[]:=by unfold cF;rw[ab (by omega),ab (by omega),ab (by omega),ab (by omega),ab (by omega)]
  rw[cd,hp,lJ];omega
 ·rw[ab (by omega),ab (by omega),ab (by omega),ab (by omega),ae hk1,aC]at h1;have:=aY h1.1;exact two y.tx y.tx.length (by unfold cF;rw[ab (by omega),ab (by omega),ab (by omega),ae hk1]) (by omega) (by unfold y9;omega)
 ·have h7:=Yg h hk1;have hsz:=zE y.ls h7.2;have hm:y.ls.length≤y9 y:=by unfold y9;omega
  have hp:cF y=y.ls.map eZ:=by unfold cF;rw[ab (by omega),ab (by omega),ab (by omega),ab (by omega),ae hk1]
  have hj:=jQ [32] (kw y.k::cF y);rw[hp,jS]at hj;simp only[aP,List.length_map,bo]at hj;rw[cd,hp];omega
theorem aw0(l:List UInt8)(h:l.length≤20000):(gc l).length+9≤40*(1+Dm l):=by
 have hm:Dm l=l.length:=by unfold Dm;omega
 rw[hm]
 unfold gc
 split
 ·simp;omega
 ·split
  ·rw[aP];have:=jb l;omega
  ·rename_i h8 hp;have h4:4*(aS l).length=l.length:=Classical.byContradiction fun hn=>hp (.inr hn);have hj:=jQ [44,32] ((aS l).map xL);have hs:=xD (aS l) (jR l.length l (ak _));simp only[aP,List.length_map,bo]at hj;omega
theorem zo(l:List UInt8):(gc l).length≤1000000:=by
 unfold gc
 split
 ·simp
 ·split
  ·rw[aP];have:=jb l;omega
  ·rename_i h8 hp;have h4:4*(aS l).length=l.length:=Classical.byContradiction fun hn=>hp (.inr hn);have hj:=jQ [44,32] ((aS l).map xL);have hs:=xD (aS l) (jR l.length l (ak _));simp only[aP,List.length_map,bo]at hj;omega
theorem Yb(w:List UInt8)(ls:List (List UInt8)):(gp (w::ls)).length=w.length+1+(gp ls).length:=by
 unfold gp
 rw[List.flatMap_cons,aG,aG];rfl
theorem uY{α:Type}(g:α→List UInt8)(m:α→Nat):∀(l:List α),(∀x∈l,(g x).length+1≤40*(1+m x))→(gp (l.map g)).length≤40*(l.length+tu (l.map m))
 |[],_=>aE _
 |x::l,h=>by
  have h1:=h x (ck ..);have h2:=uY g m l fun y hy=>h y (bN _ hy);rw[List.map_cons,Yb,aP,List.map_cons,show tu (m x::l.map m)=m x+tu (l.map m)from rfl];omega
theorem az0(h:(fV s).2=0)(hm:Cq s≤20000)(hb:∀y∈s.ys,pV y)(hf:bZ s.fr)(hse:bZ s.se)(hra:∀a∈s.ac,bZ a.1∧bZ a.2.1∧bZ a.2.2):(scT gc s).length≤1048576:=by
 obtain⟨hS,hY,hl,h1⟩:=bF7 h
 have hz:=Yi hS
 have hpg:∀p∈s.pg,p.length≤8192:=by
  intro p hp;unfold rK at hS;simp only[aC]at hS;exact aY (List.all_eq_true.1 hS.2.2.2 p hp)
 have e1:(gp [wM eP [s.fr,s.se]]).length≤200:=by
  have hw:=my [s.fr,s.se] eP (fun n hn=>by
   simp only[bv,List.not_mem_nil,or_false]at hn;rcases hn with rfl|rfl
   ·exact hf
   ·exact hse)
  rw[gF,aG];have:(wM eP [s.fr,s.se]).length≤100:=bF hw (show 7+40*2≤100 by decide);rw[List.length_singleton];omega
 have e2:(gp (s.ac.map ym)).length≤40*(s.ac.length+tu (s.ac.map fun _=>3)):=uY ym (fun _=>3) s.ac (by
  intro a ha
  have hw:=my [a.1,a.2.1,a.2.2] oB (fun n hn=>by
   simp only[bv,List.not_mem_nil,or_false]at hn;rcases hn with rfl|rfl|rfl
   ·exact(hra a ha).1
   ·exact(hra a ha).2.1
   ·exact(hra a ha).2.2)
  exact Nat.succ_le_succ (bF hw (show 7+40*3≤159 by decide)))
 have e2':∀l:List (Int×Int×Int),tu (l.map fun _=>3)=3*l.length:=by
  intro l
  induction l with
  |nil=>rfl
  |cons x l ih=>rw[List.map_cons,aP,show tu (3::l.map fun _=>3)=3+tu (l.map fun _=>3)from rfl,ih];omega
 have e3:(gp (s.pg.map fun p=>cm++gc p)).length≤40*(s.pg.length+tu (s.pg.map Dm)):=uY _ Dm s.pg (by
  intro p hp;have:=aw0 p (by have:=hpg p hp;omega);rw[aG,show cm.length=8 from rfl];omega)
 have e4:(gp (rD s)).length≤12+2*s.ini.length:=by
  unfold rD;split
  ·exact aE _
  ·rw[gF,aG,aG,show kq.length=5 from rfl,List.length_singleton];have:=jb s.ini;omega
 have e5:(gp (s.ys.map cd)).length≤40*(s.ys.length+tu (s.ys.map y9)):=uY cd y9 s.ys fun y hy=>au2 (hY y hy) (hb y hy)
 have e2'':=e2' s.ac
 unfold Cq at hm
 rw[YK,bU,bU,bU,bU]
 simp only[aG]
 omega
def cl4:CC:=(.reg [(aa a1 (.bx 31 6 z0)),(qq a2 (.mv xF))])
def cX4:=wu cl4.eq_1
def cl5:CC:=(.reg [(qq dp (.ldn 6 z1)),(ee dk (.call 4 [dx,(x6 20000)]))])
def cX8:=wu cl5.eq_1
def cl6:CC:=(.reg [(ee dy (.call 5 [])),(qq a2 (.mv dX))])
def dz2:=wu cl6.eq_1
def cl7:CC:=(.seq cl5 (.cond dC (.seq cl6 .ret) .skip))
def cX9:=wu cl7.eq_1
def cl8:CC:=(.reg [(qq dN (.ldn 6 z1)),(ee dL (.call 6 [dG])),(aa a3 (.al 31 [(.i .i64 0),(.i .i64 0),.l0,.l0,.l0,.l0])),(ez (.st 6 z3 eu))])
def cY0:=wu cl8.eq_1
def cl9:CC:=(.reg [(qq dY (.ldn 6 z3)),(ee eE (.call 7 [eF])),(qq dS (.mv eD)),(qq dT (.ex 0 dM)),(qq eG (.ex 1 dM)),(qq a4 (.mv fm)),(qq a5 (.mv fS))])
def cY1:=wu cl9.eq_1
def cm0:CC:=(.reg [(qq eR (.ldn 6 z3)),(ee fv (.call 8 [gv])),(qq fF (.mv gb)),(qq fl (.ex 0 fD)),(qq dU (.ex 1 fD)),(qq a6 (.mv gH)),(qq a7 (.mv gM))])
def cY2:=wu cm0.eq_1
def cm1:CC:=(.reg [(qq eb (.ldn 6 z1)),(ee fG (.call 9 [gw])),(qq eV (.mv gy)),(qq gi (.ex 0 gO)),(qq gg (.ex 1 gO)),(qq a8 (.mv iz)),(qq a9 (.mv iA))])
def cY3:=wu cm1.eq_1
def cm2:CC:=(.dreg 24 [(0,0,(qq gQ (.ldn 6 z3))),(1,0,(qq j4 (.ldn 6 z1))),(2,3,(ee gj (.call 10 [iE,jh]))),(3,7,(qq iG (.un .not jL))),(4,15,(qq fT (.mv kz))),(5,31,(aH j5 (.mv z4) fT)),(6,31,(aH kv (.mv z8) fT)),(7,127,(aH jq (.bi .neq kD ll) fT)),(8,255,(qq gR (.pk kC xT kr))),(9,511,(qq j6 (.mv kW))),(10,1023,(aH jr (.mv z5) j6)),(12,1023,(aH jM (.mv z9) j6)),(11,2047,(Am kF (.call 11 [lm]) j6)),(13,8191,(aH j7 (.bi .neq lq lr) j6)),(14,16383,(qq ky (.pk lh xT mW))),(15,32767,(qq js (.mv ny))),(16,65535,(aH kX (.fa 0 z3) js)),(17,131071,(aH kY (.ldn 5 oD) js)),(19,65535,(aH iB (.fa 0 z1) js)),(20,589823,(aH nC (.ldn 5 nH) js)),(18,262143,(Am kB (.call 12 [nA]) js)),(21,2097151,(Am kG (.call 13 [oF]) js)),(22,4194303,(aH kH (.eq true .bool false oE pl) js)),(23,8388607,(qq j8 (.pk nG xT pS)))])
def cY4:=wu cm2.eq_1
def aU4:CC:=(.seq (.reg [(qq a2 (.mv xF))]) .ret)
def cX5:=wu aU4.eq_1
def aU5:CC:=(.seq cm2 (.cond pm aU4 .skip))
def bu9:=wu aU5.eq_1
def aU6:CC:=(.reg [(qq nK (.mv z9)),(qq nL (.bi .neq pU (x6 0)))])
def bv0:=wu aU6.eq_1
def aU7:CC:=(.reg [(qq kI (.mv z6)),(qq lx (.bi .eql pn (.c (.s 0 0)))),(qq lT (.mv qT)),(av qa (.mv z7) lT),(eU oI (.call 11 [sB]) lT),(av qb (.mv z9) lT),(av pq (.bi .eql sw ug) lT),(qq pj (.pk qU sy xF)),(qq qc (.mv tC)),(eU qd (.call 5 []) qc),(qq tG (.pk yA uM xF)),(qq a2 (.mv vn))])
def cX6:=wu aU7.eq_1
def aU8:CC:=(.cond qO (.seq aU7 .ret) .skip)
def bv1:=wu aU8.eq_1
def aU9:CC:=(.reg [(qq tH (.mv z6)),(qq qQ (.ldn 6 z1)),(ee um (.call 14 [xY])),(qq uo (.bi .eql xX ya)),(qq qX (.mv yb)),(av vE (.mv z7) qX),(eU y6 (.call 11 [Bz]) qX),(av y7 (.bi .eql zL (x6 0)) qX),(qq yl (.pk yc BB xF)),(qq y8 (.mv BC)),(eU zT (.call 5 []) y8),(qq BN (.pk BD Dp xF)),(qq a2 (.mv Gq))])
def cX7:=wu aU9.eq_1
def aV0:CC:=(.seq cm1 (.seq aU5 (.seq (.seq aU6 aU8) (.seq aU9 .ret))))
def bv2:=wu aV0.eq_1
def aV1:CC:=(.seq cl4 (.seq cl7 (.seq cl8 (.seq cl9 (.seq cm0 aV0)))))
def bv3:=wu aV1.eq_1
def c3:CF:= .mk 7 [.t a2] aV1
theorem e3(v0:V):aU 7 [v0]=(.n sc (some v0) sc):=rfl
def B3:=ai @e3 (ai @cX4 (ai @cX8 (ai @dz2 (ai @cX9 (ai @cY0 (ai @cY1 (ai @cY2 (ai @cY3 (ai @cY4 (ai @cX5 (ai @bu9 (ai @bv0 (ai @cX6 (ai @bv1 (ai @cX7 (ai @bv2 (@bv3)))))))))))))))))
def h11:List V→Option V
 |[.i .i64 z]=>if -9223372036854775808≤z∧z≤9223372036854775807 then some (.i .i64 z)else none
 |_=>none
theorem XC{z:Int}(h:bZ z):h11 [.i .i64 z]=some (.i .i64 z):=ae h
structure LaX(Φ:Nat→Option CF)(L:List uN):Prop where
 su:SuP Φ
 wr:BA Φ L
 lp:LP Φ L
 rp:RP Φ L
 h3:Φ 3=some c3
 h4:Φ 4=some c4
 h15:Φ 15=some c15
 h6:Φ 6=some c6
 h7:Φ 7=some c7
 h8:Φ 8=some c8
 h22:Φ 22=some c22
 h27:Φ 27=some c27
 h26:Φ 26=some WV
 h25:Φ 25=some c25
 h20:Φ 20=some c20
 h9:Φ 9=some c9
 h13:Φ 13=some c13
 h38:Φ 38=some c38
 h29:Φ 29=some c29
 h61:Φ 61=some LL
 h10:Φ 10=some c10
 h30:Φ 30=some c30
 h31:Φ 31=some c31
 h14:Φ 14=some c14
 h39:Φ 39=some c39
 h64:Φ 64=some c64
 h40:Φ 40=some c40
 h67:Φ 67=some c67
 h66:Φ 66=some LM
 h68:Φ 68=some c68
 h11:Φ 11=some (.orc (aJ h11))
theorem AY{α:Type}(f:α→Nat):∀(l:List α) (x:α),x∈l→f x≤tu (l.map f)
 |y::l,x,h=>by
  rw[List.map_cons,show tu (f y::l.map f)=f y+tu (l.map f)from rfl];rcases bv.1 h with rfl|h
  ·omega
  ·have:=AY f l x h;omega
theorem F8(h:Cq s≤20000):s.ac.length≤20000∧s.pg.length≤20000∧s.ini.length≤20000∧s.ys.length≤20000∧(∀p∈s.pg,p.length≤20000)∧ ∀y∈s.ys,y.tx.length≤20000∧y.dt.length≤20000∧y.ls.length≤20000:=by
 unfold Cq at h
 refine⟨by omega,by omega,by omega,by omega,fun p hp=>?_,fun y hy=>?_⟩
 ·have:=AY Dm s.pg p hp;unfold Dm at this h;omega
 ·have:=AY y9 s.ys y hy;have e:y9 y=min y.tx.length 20001+min y.dt.length 20001+min y.ls.length 20001:=rfl;omega
theorem ap4(s:SC):0≤(fV s).2∧(fV s).2≤3:=by
 unfold fV
 split
 ·split
  ·exact⟨show(0:Int)≤2 by decide,show(2:Int)≤3 by decide⟩
  ·split
   ·exact⟨show(0:Int)≤0 by decide,show(0:Int)≤3 by decide⟩
   ·exact⟨show(0:Int)≤3 by decide,show(3:Int)≤3 by decide⟩
 ·exact⟨show(0:Int)≤2 by decide,show(2:Int)≤3 by decide⟩
theorem cH.lk{F':RO}{ps:List (List UInt8)}(hlk:∀b,look F' M' b=look F M b)(h:cH F M c v ps):cH F' M' c v ps:=by
 obtain⟨es,h1,h2,h3⟩:=h
 exact⟨es,bG.lk hlk h1,h2,fun i hi hi'=>let⟨w,e,q⟩:=h3 i hi hi';⟨w,e,bG.lk hlk q⟩⟩
theorem l3(p:LaX Φ L){KN:RO→List V→Mem→Nat→RC}(h5:Φ 5=some (.orc KN))(hkn:∀M c,KN F [] M c= .k (.b true) M c)(ok:cO F M c)(ht:bn F L=true)(hs:qV F M c va vp vi vt s)(hf:bZ s.fr)(hse:bZ s.se)(hra:∀a∈s.ac,bZ a.1∧bZ a.2.1∧bZ a.2.2)(hya:∀y∈s.ys,bZ y.a∧ ∀x∈y.ls,bZ x.1∧bZ x.2.1∧bZ x.2.2)(z1:s.ac.length≤140737488355328)(z2:s.pg.length≤140737488355328)(z3:s.ini.length≤140737488355328)(z4:s.ys.length≤140737488355328):
 Calls Φ F 3 [.g [.i .i64 s.fr,.i .i64 s.se,va,vp,vi,vt]] M c fun r _ _=>r= .b true:=by
 refine ax p.h3 ?_
 obtain⟨o1,o2,o3⟩:=aK hs.1
 obtain⟨ep,sp,_⟩:=id hs.2.1
 obtain⟨p1,p2,p3⟩:=aK sp
 obtain⟨q1,q2,q3⟩:=aK hs.2.2.1
 obtain⟨et,st,_⟩:=id hs.2.2.2
 obtain⟨t1,t2,t3⟩:=aK st
 have g1:=(Gr.refl ok).set c (au 31 [.i .i64 s.fr,.i .i64 s.se,va,vp,vi,vt]) (ak _) (aD _) (aA _)
 have b0:(M.set c (au 31 [.i .i64 s.fr,.i .i64 s.se,va,vp,vi,vt])).get c=some (au 31 [.i .i64 s.fr,.i .i64 s.se,va,vp,vi,vt]):=am _ _ _
 have hs1:=hs.grow g1
 simp only[WX,Nat.reduceAdd,e3,cX4,bv3,o1,p1,q1,t3]
 generalize M.set c (au 31 [.i .i64 s.fr,.i .i64 s.se,va,vp,vi,vt])=M1 at g1 b0 hs1⊢
 have cW:=g1.ok ok
 have ld:loadN F M1 c 0 6=some [.i .i64 s.fr,.i .i64 s.se,va,vp,vi,vt]:=da b0 [.i .i64 s.fr,.i .i64 s.se,va,vp,vi,vt] [] rfl (by simp)
 simp only[WX,cX8,cX9,ld]
 refine aw ((r4 p.h4 p.h15 cW hs1 z1 z2 z3 z4).mono ?_)
 rintro r M2 c2 ⟨⟨bm,rfl,hmu⟩,g2⟩
 cases bm with
 |true=>simp only[WX,B3,h5,hkn]
 |false=>
  have hm:=hmu rfl;clear hmu;obtain⟨n1,n2,n3,n4,n5,n6⟩:=F8 hm;have hA:∀y∈s.ys,pV y:=fun y hy=>⟨(hya y hy).1,by have:=n6 y hy;omega,by have:=n6 y hy;omega,by have:=n6 y hy;omega,(hya y hy).2⟩;have g12:=g1.trans g2;have ok2:=g2.ok cW;have b2:=(g2.old c (by omega)).trans b0;have hs2:=hs1.grow g2;have ld2:loadN F M2 c 0 6=some [.i .i64 s.fr,.i .i64 s.se,va,vp,vi,vt]:=da b2 [.i .i64 s.fr,.i .i64 s.se,va,vp,vi,vt] [] rfl (by simp);simp only[WX,cY0,ld2];refine aw ((r6 p.h6 ok2 hs2 (by omega) (by omega) (by omega) (by omega) (fun q hq=>by have:=n5 q hq;omega) (fun y hy=>by have:=n6 y hy;omega)).mono ?_);rintro r M3 c3 ⟨va',vp',vi',vt',rfl,g3,hs3⟩;obtain⟨o1',o2',o3'⟩:=aK hs3.1;obtain⟨ep',sp',_⟩:=id hs3.2.1;obtain⟨p1',p2',p3'⟩:=aK sp';obtain⟨q1',q2',q3'⟩:=aK hs3.2.2.1;obtain⟨et',st',_⟩:=id hs3.2.2.2;obtain⟨t1',t2',t3'⟩:=aK st';have uZ:=g3.ok ok2;have b3:=(g3.old c (by have:=g2.le;omega)).trans b2;have gA:=(Gr.refl uZ).set c3 (au 31 [.i .i64 0,.i .i64 0,.l0,.l0,.l0,.l0]) (ak _) (aD _) (aA _);have hall:bj [.i .i64 s.fr,.i .i64 s.se,va',vp',vi',vt']=true:=by simp only[d8,o1',p1',q1',t1'];rfl
  have hG:flatten (V.g [.i .i64 s.fr,.i .i64 s.se,va',vp',vi',vt'])=[.i .i64 s.fr,.i .i64 s.se,va',vp',vi',vt']:=rfl;have mA:(M3.set c3 (au 31 [.i .i64 0,.i .i64 0,.l0,.l0,.l0,.l0])).get c3=some (au 31 [.i .i64 0,.i .i64 0,.l0,.l0,.l0,.l0]):=am _ _ _;have stA:=bS mA 0 [.i .i64 s.fr,.i .i64 s.se,va',vp',vi',vt'] (by simp) hall;have hoA:over [V.i .i64 0,.i .i64 0,.l0,.l0,.l0,.l0] 0 [.i .i64 s.fr,.i .i64 s.se,va',vp',vi',vt']=[.i .i64 s.fr,.i .i64 s.se,va',vp',vi',vt']:=rfl;rw[hoA]at stA;have gB:=gA.set (c2:=c3+1) c3 (au 31 [.i .i64 s.fr,.i .i64 s.se,va',vp',vi',vt']) (ak _) (aD _) (ak _);have mB:((M3.set c3 (au 31 [.i .i64 0,.i .i64 0,.l0,.l0,.l0,.l0])).set c3 (au 31 [.i .i64 s.fr,.i .i64 s.se,va',vp',vi',vt'])).get c3=some (au 31 [.i .i64 s.fr,.i .i64 s.se,va',vp',vi',vt']):=am _ _ _;have fB:=(gB.ok uZ).free;have fA:=(gA.ok uZ).free;simp only[WX,Nat.reduceAdd,hG,stA];generalize(M3.set c3 (au 31 [.i .i64 0,.i .i64 0,.l0,.l0,.l0,.l0])).set c3 (au 31 [.i .i64 s.fr,.i .i64 s.se,va',vp',vi',vt'])=M4 at gB mB fB⊢;clear stA mA gA fA hoA;have hcl2:=g2.le;have hcl3:=g3.le;have Ye:=gB.ok uZ;have g14:=(g12.trans g3).trans gB;have b4:=(gB.old c (by omega)).trans b3;have hs4:=hs3.grow gB;have ld4:loadN F M4 c3 0 6=some [.i .i64 s.fr,.i .i64 s.se,va',vp',vi',vt']:=da mB [.i .i64 s.fr,.i .i64 s.se,va',vp',vi',vt'] [] rfl (by simp);simp only[WX,cY1,ld4];refine aw ((r7 p.h7 p.su p.wr Ye ht hs4 hA hf hse (by omega) (by omega) (by omega)).mono ?_);rintro r M5 c5 ⟨rfl,g5⟩;unfold sM;have hch:=ap4 s;have hE11:h11 [.i .i64 (fV s).2]=some (.i .i64 (fV s).2):=XC ⟨by omega,by omega⟩;have hsc:=fun h:(fV s).2=0=>az0 h hm hA hf hse hra;have Yf:=g5.ok Ye;have m5:=(g5.old c3 (by omega)).trans mB;have hcl5:=g5.le;have ld5:loadN F M5 c3 0 6=some [.i .i64 s.fr,.i .i64 s.se,va',vp',vi',vt']:=da m5 [.i .i64 s.fr,.i .i64 s.se,va',vp',vi',vt'] [] rfl (by simp);simp only[WX,cY2,ld5];refine aw ((r8 (pT:=gc) p.h8 p.h7 p.su p.h22 p.h27 p.h26 p.h25 p.wr ht (fun M c v l ok hs=>r20 Φ p.h20 p.lp ok ht hs) zo Yf (hs4.grow g5) hA hf hse hra (by omega) (by omega) (by omega) hsc).mono ?_);rintro r M6 c6 ⟨hr8,g6⟩;obtain⟨T,E,hr8,hT0,hT1⟩:∃T E,r= .t [sV T,.i .i64 E]∧((fV s).2=0→T=scT gc s∧E=0)∧((fV s).2≠0→T=[]∧E=(fV s).2):=by
   unfold bP3 at hr8;by_cases h0:(fV s).2=0
   ·rw[ae h0]at hr8;exact⟨_,_,hr8,fun _=>⟨rfl,rfl⟩,fun h=>absurd h0 h⟩
   ·rw[ab h0]at hr8;exact⟨[],_,hr8,fun h=>absurd h h0,fun _=>⟨rfl,rfl⟩⟩
  subst hr8;have ok6:=g6.ok Yf;have hcl6:=g6.le;have g16:=(g14.trans g5).trans g6;have b6:=(g6.old c (by omega)).trans ((g5.old c (by omega)).trans b4);have m6:=(g6.old c3 (by omega)).trans m5;have ld6:loadN F M6 c 0 6=some [.i .i64 s.fr,.i .i64 s.se,va,vp,vi,vt]:=da b6 [.i .i64 s.fr,.i .i64 s.se,va,vp,vi,vt] [] rfl (by simp);have hs6:=hs.grow g16;simp only[WX,cY3,bv2,ld6];refine aw ((r9 p.h9 p.h13 p.h38 p.h29 p.h61 ok6 hs6 hA (by omega) (by omega) (by omega)).mono ?_);rintro r M7 c7 ⟨rfl,g7⟩;unfold sM;have Yg:=g7.ok ok6;have hcl7:=g7.le;have b7:=(g7.old c (by omega)).trans b6;have m7:=(g7.old c3 (by omega)).trans m6;have ldA:loadN F M7 c 0 6=some [.i .i64 s.fr,.i .i64 s.se,va,vp,vi,vt]:=da b7 [.i .i64 s.fr,.i .i64 s.se,va,vp,vi,vt] [] rfl (by simp);have ldB:loadN F M7 c3 0 6=some [.i .i64 s.fr,.i .i64 s.se,va',vp',vi',vt']:=da m7 [.i .i64 s.fr,.i .i64 s.se,va',vp',vi',vt'] [] rfl (by simp);have f7:=Yg.free;simp only[WX,Nat.reducePow,Nat.reduceDiv,Nat.reduceMod,Nat.reduceBEq,jz,cY4,bu9,ldA,ldB];have gU:Gr c7 M7 (c7+24) M7:=(Gr.refl Yg).up (by omega);have hsB:=((hs4.grow g5).grow g6).grow g7;have hsA:=hs6.grow g7;have okU:=gU.ok Yg;refine iq ((r10 p.h10 p.h30 p.h31 okU (hsB.grow gU) (hsA.grow gU) (by omega) (by omega) (by omega) (fun q hq=>by have:=n5 q hq;omega) (by omega) (fun y hy=>by have:=n6 y hy;omega)).mono ?_);rintro r M8 c8 ⟨rfl,g8⟩;have ok8:=g8.ok okU;have hcl8:=g8.le;have b8:=(g8.old c (by omega)).trans b7;have m8:=(g8.old c3 (by omega)).trans m7;have hsB8:=(hsB.grow gU).grow g8;have hsA8:=(hsA.grow gU).grow g8;have f8:=ok8.free;refine⟨f8,?_⟩;have dn1:decide ((fV s).1≠(fV s).1)=false:=ah (by simp);have dn2:decide ((fV s).2≠(fV s).2)=false:=ah (by simp);have ldC:loadN F M8 c3 0 5=some [.i .i64 s.fr,.i .i64 s.se,va',vp',vi']:=da m8 [.i .i64 s.fr,.i .i64 s.se,va',vp',vi'] [vt'] rfl (by simp);have ldD:loadN F M8 c 0 5=some [.i .i64 s.fr,.i .i64 s.se,va,vp,vi]:=da b8 [.i .i64 s.fr,.i .i64 s.se,va,vp,vi] [vt] rfl (by simp);simp only[WX,Nat.reducePow,Nat.reduceDiv,Nat.reduceMod,Nat.reduceBEq,jz,dn1,dn2,p.h11,hE11,ldC,ldD,f8];refine aa0 _ _ _ _ _ _ _ _ _ _ _ ok8 ?_;intro F1 N1 okn hlk;refine(show tF (eX (lU Φ) F1 12 [.g [.i .i64 s.fr,.i .i64 s.se,va',vp',vi']] N1 c8 (Φ 12)) _ from r12 p.su okn (bG.lk hlk hsB8.1) (cH.lk hlk hsB8.2.1) (bG.lk hlk hsB8.2.2.1) hf hse (by omega) (by omega)).mono ?_;rintro r N2 c9 ⟨rfl,gN⟩;refine⟨gN,fun M9 g9 hM9=>?_⟩;have Yh:=g9.ok ok8;have hcl9:=g9.le;have f9:=Yh.free;simp only[WX,Nat.reducePow,Nat.reduceDiv,Nat.reduceMod,Nat.reduceBEq,jz];refine iq ((r13 p.h13 p.h38 Yh (hsA8.1.grow g9) (hsA8.2.1.grow g9) (hsA8.2.2.1.grow g9) (by omega) (by omega)).mono ?_);rintro r M10 c10 ⟨rfl,g10⟩;have av4:=g10.ok Yh;have f10:=av4.free;have hcl10:=g10.le;have b10:=(g10.old c (by omega)).trans ((g9.old c (by omega)).trans b8);have ldE:loadN F M10 c 0 6=some [.i .i64 s.fr,.i .i64 s.se,va,vp,vi,vt]:=da b10 [.i .i64 s.fr,.i .i64 s.se,va,vp,vi,vt] [] rfl (by simp);refine⟨f10,?_⟩;simp only[WX,bv0,bv1];have hsA10:=(hsA8.grow g9).grow g10;by_cases h0:(fV s).2=0
  ·obtain⟨rfl,rfl⟩:=hT0 h0;have d0:decide ((fV s).2≠0)=false:=ah (by simp[h0]);obtain⟨hS,hY,hl,_⟩:=bF7 h0;have e0:=vJ (scT gc s) (scT gc s);rw[af rfl]at e0;have z0:h11 [.i .i64 0]=some (.i .i64 0):=XC ⟨by decide,by decide⟩;simp only[WX,B3,d0,ldE];refine aw ((r14 (pT:=gc) p.h14 p.h39 p.h64 p.h40 p.h67 p.wr.h56 p.h66 p.h68 ht (fun M c v l ok hs=>r65 Φ p.rp ok ht hs) zo av4 hsA10 hf hse hra (by omega) (by omega) hA hY (by have:=hsc h0;omega)).mono ?_);rintro r M11 c11 ⟨rfl,g11⟩;simp only[WX,e0,p.h11,z0,h5,hkn]
  ·obtain⟨rfl,rfl⟩:=hT1 h0;have d0:decide ((fV s).2≠0)=true:=af h0;have e0:bX .eql (sV []) (.s 0 0)=some (.b true):=vJ [] [];have e1:decide ((fV s).2=(fV s).2)=true:=af rfl;simp only[WX,B3,d0,e0,p.h11,hE11,h5,hkn]
def j0(L:List uN):Prop:=∀ty,bn (mR L ty) L=true
theorem rL{ty:Nat→Nat}(hs:j0 L)(hc:1000≤ct):cO (mR L ty) .e ct:=av7 (fun t ht=>(iT (hs ty) t ht).1) hc
section
variable{P:Program}(hm:P.follows .mixedOrders=true){Φ:Nat→Option CF}(hΦ:fo P Φ)
include hm hΦ
theorem dl0(h:Φ 161=some an7):bY P 161 (aJ ux):=dv hm hΦ (by
 intro args v ct hv hct;unfold ux at hv;split at hv
 ·split at hv
  ·rename_i hh;obtain rfl:=ag hv;exact⟨trivial,dx5 Φ h _ hh _⟩
  ·cases hv
 ·cases hv)
theorem dl1(h:Φ 163=some an9):bY P 163 (aJ uz):=dv hm hΦ (by
 intro args v ct hv hct;unfold uz at hv;split at hv
 ·obtain rfl:=ag hv;exact⟨trivial,dx7 Φ h _ _⟩
 ·cases hv)
theorem dk7(h:Φ 149=some an4):bY P 149 (aJ wo):=dv hm hΦ (by
 intro args v ct hv hct;unfold wo at hv;split at hv
 ·split at hv
  ·rename_i hh;obtain rfl:=ag hv;exact⟨trivial,dx3 Φ h _ hh _⟩
  ·cases hv
 ·cases hv)
theorem dk8(h:Φ 150=some an5)(uy:Φ 162=some (.orc (aJ uy)))(ux:Φ 161=some (.orc (aJ ux)))(uz:Φ 163=some (.orc (aJ uz)))(hs:j0 L)(hp:(4,IntKind.u64,AE)∈L):bY P 150 (cI L uw):=lO hm hΦ (by
 intro args v ct ty hv hct;unfold uw at hv;split at hv
 ·split at hv
  ·rename_i hh;obtain rfl:=ag hv;exact⟨trivial,dv5 Φ h uy ux uz (rL hs hct) (hs ty) hp _ hh.1 hh.2⟩
  ·cases hv
 ·cases hv)
theorem dk4(h:Φ 122=some an1)(wo:Φ 149=some (.orc (aJ wo)))(uw:Φ 150=some (.orc (cI L uw)))(h151:Φ 151=some WU)(hs:j0 L):bY P 122 (cI L wn):=lO hm hΦ (by
 intro args v ct ty hv hct;unfold wn at hv;split at hv
 ·split at hv
  ·rename_i hh;obtain rfl:=ag hv;exact⟨trivial,dv2 Φ h wo uw h151 (rL hs hct) (hs ty) _ hh.1 hh.2⟩
  ·cases hv
 ·cases hv)
theorem o96(h:Φ 96=some c96)(wn:Φ 122=some (.orc (cI L wn)))(hs:j0 L):bY P 96 (cI L qR):=lO hm hΦ (by
 intro args v ct ty hv hct;unfold qR at hv;split at hv
 ·split at hv
  ·rename_i hh;obtain rfl:=ag hv;exact⟨trivial,r96 Φ h wn (hs ty) _ hh.1 hh.2⟩
  ·cases hv
 ·cases hv)
theorem o56(h:Φ 56=some c56)(h96':Φ 96=some (.orc (cI L qR)))(hs:j0 L):bY P 56 (cI L qR):=lO hm hΦ (by
 intro args v ct ty hv hct;unfold qR at hv;split at hv
 ·split at hv
  ·rename_i hh;obtain rfl:=ag hv;exact⟨trivial,r56 Φ h h96' (hs ty) _ hh.1 hh.2⟩
  ·cases hv
 ·cases hv)
theorem o53(h:Φ 53=some c53)(uA:Φ 91=some (.orc (aJ uA)))(nZ:Φ 81=some (.orc (aJ nZ)))(wt:Φ 80=some (.orc (aJ wt)))(Cl:Φ 92=some (.orc (aJ Cl)))(h56:Φ 56=some (.orc (cI L qR)))
 (h54:Φ 54=some c54) (h93:Φ 93=some c93) (h23:Φ 23=some O9) (h28:Φ 28=some WW) (h60:Φ 60=some En) (h120:Φ 120=some vP) (hs:j0 L):bY P 53 (cI L h53):=lO hm hΦ (by
 intro args v ct ty hv hct;unfold h53 at hv;split at hv
 ·rename_i op d a b i;obtain rfl:=ag hv;by_cases hmy:dP op d a b i=true
  ·rw[ae hmy];exact⟨⟨trivial,trivial,trivial⟩,r53 Φ h uA nZ wt Cl h56 h54 h93 h23 h28 h60 h120 (rL hs hct) (hs ty) op d a b i hmy⟩
  ·rw[ab hmy];exact⟨⟨trivial,trivial,trivial⟩,dv8 Φ h uA op d a b i (by simpa using hmy)⟩
 ·cases hv)
theorem dj9(h:Φ 101=some am6)(h56:Φ 56=some (.orc (cI L qR)))(h127:Φ 127=some (.orc (aJ nZ)))(kb:Φ 126=some (.orc (aJ kb)))(h128:Φ 128=some WT)(hs:j0 L):bY P 101 (cI L h101):=lO hm hΦ (by
 intro args v ct ty hv hct;unfold h101 at hv;split at hv
 ·split at hv
  ·rename_i hh;obtain rfl:=ag hv;exact⟨trivial,du9 Φ h h56 h127 kb h128 (rL hs hct) (hs ty) _ _ _ _ _ hh⟩
  ·cases hv
 ·cases hv)
theorem cH4(h:Φ 162=some an8):bY P 162 (aJ uy):=dv hm hΦ (by
 intro args v ct hv hct;unfold uy at hv;split at hv
 ·split at hv
  ·obtain rfl:=ag hv;exact⟨trivial,dx6 Φ h _ (by assumption) _⟩
  ·cases hv
 ·cases hv)
theorem o42(h:Φ 42=some c42):bY P 42 (aJ h42):=dv hm hΦ (by
 intro args v ct hv hct;unfold h42 at hv;split at hv
 ·obtain rfl:=ag hv;exact⟨by simp only[kwL,List.map_cons,List.map_nil];exact⟨trivial,trivial,trivial,trivial,trivial,trivial,trivial,trivial,trivial⟩,t42 Φ h _⟩
 ·cases hv)
theorem o11(h:Φ 11=some c11):bY P 11 (aJ h11):=dv hm hΦ (by
 intro args v ct hv hct;unfold h11 at hv;split at hv
 ·split at hv
  ·rename_i hz;obtain rfl:=ag hv;exact⟨trivial,t11 Φ h _ hz _⟩
  ·cases hv
 ·cases hv)
end
def ke:Ty:= .cons (.int .i64) (.cons (.int .i64) (.cons (.int .i64) .nil))
def tI:Ty:= .cons (.int .i64) (.cons (.int .i64) (.cons .str (.cons (.sl (.int .u8)) (.cons (.sl ke) .nil))))
theorem cG7{x:ke.D}(h:Rp F M c ke vs x):∃z:Int×Int×Int,vs=[.i .i64 z.1,.i .i64 z.2.1,.i .i64 z.2.2]∧bZ z.1∧bZ z.2.1∧bZ z.2.2:=by
 obtain⟨v1,v2,rfl,h1,h2⟩:=h
 obtain⟨v3,v4,rfl,h1003,h3⟩:=h2
 obtain⟨v5,v6,rfl,h1005,h1006⟩:=h3
 obtain⟨rfl,a1,b1⟩:=h1
 obtain⟨rfl,a2,b2⟩:=h1003
 obtain⟨rfl,a3,b1003⟩:=h1005
 obtain rfl:v6=[]:=h1006
 exact⟨(x.1,x.2.1,x.2.2.1),rfl,⟨a1,b1⟩,⟨a2,b2⟩,⟨a3,b1003⟩⟩
theorem bn7:∀(es:List (List V)) (xs:List ke.D),es.length=xs.length→(∀i (h:i<es.length) (h':i<xs.length),Rp F M c ke es[i] xs[i])→ ∃l:List (Int×Int×Int),es=cY l∧ ∀x∈l,bZ x.1∧bZ x.2.1∧bZ x.2.2:=by
 intro es
 induction es with
 |nil=>intro xs _ _;exact⟨[],rfl,fun _ h=>nomatch h⟩
 |cons e es ih=>
  intro xs hl h;cases xs with
  |nil=>cases hl
  |cons z xs=>
   obtain⟨l,rfl,hl'⟩:=ih xs (by simpa using hl) (fun i hi hi'=>h (i+1) (by simpa using hi) (by simpa using hi'));obtain⟨w,hw,hr⟩:=cG7 (h 0 (by simp) (by simp));refine⟨w::l,?_,?_⟩
   ·show _=_::cY l;exact congrArg (· ::cY l) hw
   ·intro x hx;rcases bv.1 hx with rfl|hx
    ·exact hr
    ·exact hl' x hx
def bE4:Ty:= .cons (.int .i64) (.cons (.int .i64) (.cons (.sl ke) (.cons (.sl (.sl (.int .u8))) .nil)))
def az4:Ty:= .cons bE4 (.cons (.sl (.int .u8)) .nil)
def YL:Ty:= .cons az4 (.cons (.sl tI) .nil)
def zB:Nat:=140737488351232
theorem XX{Q:Nat→α→Prop}(h:∀i,i<n→ ∃x,Q i x):∃l:List α,l.length=n∧ ∀i (hi:i<l.length),Q i l[i]:=JO h
theorem LH{x:(Ty.sl (.int .u8)).D}(h:Rp F M c (.sl (.int .u8)) vs x)(z:Sz zB (.sl (.int .u8)) x):∃v,∃l:List UInt8,vs=[v]∧fC F M c v l∧l.length≤140737488351232:=by
 obtain⟨v,l,rfl,hs,hl⟩:=vO h
 obtain⟨v2,es,e,hs2,hl2,he,hr⟩:=h
 obtain rfl:v=v2:=by injection e
 have z1:(show List Int from x).length≤zB:=z.1
 have n1:=hs.len
 have n2:=hs2.len
 rw[n1]at n2
 have e3:((l.length:Nat):Int)=((es.length:Nat):Int):=by
  injection n2 with n3
  injection n3
 have he':es.length=(show List Int from x).length:=he
 refine⟨v,l,rfl,hs,?_⟩
 unfold zB at z1
 omega
theorem ag1{x:tI.D}(h:Rp F M c tI vs x):∃(y:AC),(∃vd vl,vs=[.i .i64 y.k,.i .i64 y.a,sV y.tx,vd,vl]∧fC F M c vd y.dt∧bG F M c 3 vl (cY y.ls))∧bZ y.a∧ ∀x∈y.ls,bZ x.1∧bZ x.2.1∧bZ x.2.2:=by
 obtain⟨v1,v2,rfl,h1,h2⟩:=h
 obtain⟨v3,v4,rfl,h1003,h3⟩:=h2
 obtain⟨v5,v6,rfl,h1005,h1006⟩:=h3
 obtain⟨v7,v8,rfl,h15,h5⟩:=h1006
 obtain⟨v9,v10,rfl,h16,h17⟩:=h5
 obtain⟨rfl,a1,b1⟩:=h1
 obtain⟨rfl,a2,b2⟩:=h1003
 obtain⟨rfl,a3⟩:=h1005
 obtain rfl:v10=[]:=h17
 obtain⟨vd,ld,rfl,hd,_⟩:=vO h15
 obtain⟨vl,es,rfl,hs,_,he,hr⟩:=h16
 obtain⟨l,rfl,hl⟩:=bn7 es _ he hr
 exact⟨⟨x.1,x.2.1,x.2.2.1,ld,l⟩,⟨vd,vl,rfl,hd,hs⟩,⟨a2,b2⟩,hl⟩
theorem MT{x:(Ty.sl (.sl (.int .u8))).D}(h:Rp F M c (.sl (.sl (.int .u8))) vs x)(z:Sz zB (.sl (.sl (.int .u8))) x):∃v,∃ps:List (List UInt8),vs=[v]∧cH F M c v ps∧ps.length≤140737488351232:=by
 obtain⟨v,es,rfl,hs,hl,he,hr⟩:=h
 have z1:(show List (List Int)from x).length≤zB:=z.1
 have he':es.length=(show List (List Int)from x).length:=he
 obtain⟨ps,hp,hq⟩:=XX (n:=es.length) (Q:=fun i (w:List UInt8)=>∀h:i<es.length,∃u,es[i]=[u]∧fC F M c u w) (fun i hi=>by
  obtain⟨u,l,e,hb,_⟩:=vO (hr i hi (by omega));exact⟨l,fun _=>⟨u,e,hb⟩⟩)
 refine⟨v,ps,rfl,⟨es,hs,hp.symm,fun i hi hi'=>hq i hi' hi⟩,?_⟩
 unfold zB at z1
 omega
theorem OY{x:(Ty.sl tI).D}(h:Rp F M c (.sl tI) vs x)(z:Sz zB (.sl tI) x):∃v,∃ys:List AC,vs=[v]∧fE F M c v ys∧(∀y∈ys,bZ y.a∧ ∀x∈y.ls,bZ x.1∧bZ x.2.1∧bZ x.2.2)∧ys.length≤140737488351232:=by
 obtain⟨v,es,rfl,hs,hl,he,hr⟩:=h
 have z1:(show List tI.D from x).length≤zB:=z.1
 have he':es.length=(show List tI.D from x).length:=he
 obtain⟨ys,hp,hq⟩:=XX (n:=es.length) (Q:=fun i (y:AC)=>∀h:i<es.length,(∃vd vl,es[i]=[.i .i64 y.k,.i .i64 y.a,sV y.tx,vd,vl]∧fC F M c vd y.dt∧bG F M c 3 vl (cY y.ls))∧bZ y.a∧ ∀x∈y.ls,bZ x.1∧bZ x.2.1∧bZ x.2.2) (fun i hi=>by
  obtain⟨y,a,b⟩:=ag1 (hr i hi (by omega));exact⟨y,fun _=>⟨a,b⟩⟩)
 refine⟨v,ys,rfl,⟨es,hs,hp.symm,fun i hi hi'=>(hq i hi' hi).1⟩,fun y hy=>?_,?_⟩
 ·obtain⟨i,hi,rfl⟩:=List.mem_iff_getElem.1 hy;exact(hq i hi (by omega)).2
 ·unfold zB at z1;omega
theorem OX{x:(Ty.sl ke).D}(h:Rp F M c (.sl ke) vs x)(z:Sz zB (.sl ke) x):∃v,∃l:List (Int×Int×Int),vs=[v]∧bG F M c 3 v (cY l)∧(∀x∈l,bZ x.1∧bZ x.2.1∧bZ x.2.2)∧l.length≤140737488351232:=by
 obtain⟨v,es,rfl,hs,_,he,hr⟩:=h
 have z1:(show List ke.D from x).length≤zB:=z.1
 have he':es.length=(show List ke.D from x).length:=he
 obtain⟨l,rfl,hl⟩:=bn7 es _ he hr
 refine⟨v,l,rfl,hs,hl,?_⟩
 rw[aL]at he'
 unfold zB at z1
 omega
theorem bO1{x:YL.D}(h:Rp F M c YL vs x)(z:Sz zB YL x):∃(s:SC) (va vp vi vt:V),YL.arg vs= .g [.i .i64 s.fr,.i .i64 s.se,va,vp,vi,vt]∧qV F M c va vp vi vt s∧(bZ s.fr∧bZ s.se∧(∀a∈s.ac,bZ a.1∧bZ a.2.1∧bZ a.2.2)∧ ∀y∈s.ys,bZ y.a∧ ∀x∈y.ls,bZ x.1∧bZ x.2.1∧bZ x.2.2)∧s.ac.length≤140737488351232∧s.pg.length≤140737488351232∧s.ini.length≤140737488351232∧s.ys.length≤140737488351232:=by
 obtain⟨w1,w2,rfl,hS,hT⟩:=h
 obtain⟨w3,w4,rfl,hB,hI⟩:=hS
 obtain⟨w5,w6,rfl,k1,hB⟩:=hB
 obtain⟨w7,w8,rfl,k2,hB⟩:=hB
 obtain⟨w9,w10,rfl,k3,hB⟩:=hB
 obtain⟨w11,w12,rfl,k4,hB⟩:=hB
 obtain rfl:w12=[]:=hB
 obtain⟨w13,w14,rfl,k5,hI⟩:=hI
 obtain rfl:w14=[]:=hI
 obtain⟨w15,w16,rfl,k6,hT⟩:=hT
 obtain rfl:w16=[]:=hT
 obtain⟨rfl,a1,b1⟩:=k1
 obtain⟨rfl,a2,b2⟩:=k2
 obtain⟨⟨⟨_,_,za,zp,_⟩,zi,_⟩,zt,_⟩:=z
 obtain⟨va,ac,rfl,ha,ra,la⟩:=OX k3 za
 obtain⟨vp,pg,rfl,hp,lp⟩:=MT k4 zp
 obtain⟨vi,ini,rfl,hi,li⟩:=LH k5 zi
 obtain⟨vt,ys,rfl,ht,rt,lt⟩:=OY k6 zt
 exact⟨⟨x.1.1.1,x.1.1.2.1,ac,pg,ini,ys⟩,va,vp,vi,vt,rfl,⟨ha,hp,hi,ht⟩,⟨⟨a1,b1⟩,⟨a2,b2⟩,ra,rt⟩,la,lp,li,lt⟩
end
end Go.Proofs.YtcnblipfcihcpaaGreatDoor.Ev
