/- What is proved here: pieces of the evaluator's soundness: if the evaluator comes to a value, the model's run comes to it, for every world and tape; no conditions beyond the hypotheses of each theorem. -/
import Derived.Test.YtmjeiphepinphaaGreatDoorEv8
set_option linter.unusedSimpArgs false
set_option linter.unusedVariables false
set_option linter.defProp false
set_option maxRecDepth 10000
set_option maxHeartbeats 16000000
namespace Go.Proofs.YtmjeiphepinphaaGreatDoor.Ev
open Go
noncomputable section
abbrev Cy(u:List (Option V))(x0 x2 x3 x4:V):T:=(.n (.n (.n (.n (aO u 63 31 95 15 79 47 111) (uO u 7) (aO u 71 39 103 23 87 55 119)) (some x3) (.n (aO u 67 35 99 19 83 51 115) (uO u 11) (aO u 75 43 107 27 91 59 123))) (uO u 1) (.n (.n (aO u 65 33 97 17 81 49 113) (uO u 9) (aO u 73 41 105 25 89 57 121)) (uO u 5) (.n (aO u 69 37 101 21 85 53 117) (uO u 13) (aO u 77 45 109 29 93 61 125)))) (some x0) (.n (.n (.n (aO u 64 32 96 16 80 48 112) (uO u 8) (aO u 72 40 104 24 88 56 120)) (some x4) (.n (aO u 68 36 100 20 84 52 116) (uO u 12) (aO u 76 44 108 28 92 60 124))) (some x2) (.n (.n (aO u 66 34 98 18 82 50 114) (uO u 10) (aO u 74 42 106 26 90 58 122)) (uO u 6) (.n (aO u 70 38 102 22 86 54 118) (uO u 14) (aO u 78 46 110 30 94 62 126)))))
def ce9:CC:=(.reg [(qq a8 (.mv z0)),(qq a9 (.ln .slice z8)),(qq cE (.bi .gtr z9 (x6 8192)))])
def cG7:=wu ce9.eq_1
def cf0:CC:=(.seq (.reg [(qq a2 (.mv (.c (.s 0 0))))]) .ret)
def dd7:=wu cf0.eq_1
def cf1:CC:=(.reg [(qq a3 (.mv (.c (.s 0 0))))])
def cH4:=wu cf1.eq_1
def cf2:CC:=(.reg [(qq a4 (.mv (x6 0)))])
def cH5:=wu cf2.eq_1
def cf3:CC:=(.reg [(qq cW (.mv z4)),(qq dh (.bi .add cM (x6 4))),(qq d8 (.mv z0)),(qq dK (.ln .slice cI)),(qq dL (.bi .leq cH dM))])
def bW0:=wu cf3.eq_1
def cf4:CC:=(.seq cf3 (.cond dA .skip (.exit 0)))
def bW1:=wu cf4.eq_1
def cf5:CC:=(.reg [(qq eN (.mv z0)),(qq fq (.mv z4)),(qq ej (.mv z4)),(qq eE (.bi .add gD (x6 4))),(qq eT (.slL 1 fL (some fO) (some gw) none)),(ee ga (.call 19 [ia])),(qq eZ (.mv ib)),(qq fP (.ex 0 fh)),(qq ft (.ex 1 fh)),(aa a5 (.al 51 [(.i .i64 0),(.i .i64 0),(.i .i64 0),(.i .i64 0),(.i .i64 0)])),(ez (.st 5 z5 gV)),(qq a6 (.mv gy))])
def cH6:=wu cf5.eq_1
def cf6:CC:=(.reg [(qq ie (.mv z6)),(qq gz (.bi .eql iU (x6 0)))])
def cH7:=wu cf6.eq_1
def cf7:CC:=(.reg [(qq fJ (.mv z3)),(qq gR (.ldn 5 z5)),(ee gW (.call 20 [iV])),(qq ig (.bi .add j8 iX)),(qq iE (.bi .add jR (.c (.s 1 10)))),(qq a3 (.mv kC))])
def dd8:=wu cf7.eq_1
def VL:CC:=(.dreg 30 [(0,0,(qq fj (.mv z0))),(1,0,(qq fQ (.mv z4))),(2,3,(qq kc (.iaS 1 kQ jY))),(3,7,(qq kd (.ld1 lM))),(4,15,(qq kE (.ci .u32 lN))),(5,0,(qq jS (.mv z0))),(6,0,(qq gC (.mv z4))),(7,64,(qq kR (.bi .add lG (x6 1)))),(8,224,(qq lJ (.iaS 1 lF lQ))),(9,480,(qq kW (.ld1 n6))),(10,992,(qq kS (.ci .u32 og))),(11,2016,(qq kT (.bi .shl oq (.c (.i .u64 8))))),(12,4095,(qq kU (.bi .add lO mU))),(13,0,(qq mG (.mv z0))),(14,0,(qq jV (.mv z4))),(15,16384,(qq ke (.bi .add ot (x6 2)))),(16,57344,(qq mH (.iaS 1 n7 n8))),(17,122880,(qq kX (.ld1 mV))),(18,253952,(qq jW (.ci .u32 ng))),(19,516096,(qq gb (.bi .shl oU (.c (.i .u64 16))))),(20,1048575,(qq ow (.bi .add oT pG))),(21,0,(qq oy (.mv z0))),(22,0,(qq kF (.mv z4))),(23,4194304,(qq kY (.bi .add qC (x6 3)))),(24,14680064,(qq lK (.iaS 1 pf qE))),(25,31457280,(qq nn (.ld1 pg))),(26,65011712,(qq pM (.ci .u32 pH))),(27,132120576,(qq oz (.bi .shl rV (.c (.i .u64 24))))),(28,268435455,(qq n9 (.bi .add qB um))),(29,536870911,(qq a7 (.mv tS)))])
def cG8:=wu VL.eq_1
def VM:CC:=(.reg [(qq kZ (.mv z3)),(qq oX (.bi .add rW (.c (.s 6 35615788726062)))),(qq oA (.mv z7)),(qq pN (.ci .u64 rP)),(ee oB (.call 16 [pI,(x6 10)])),(qq lL (.bi .add rX rY)),(qq oY (.bi .add uo (.c (.s 1 10)))),(qq a3 (.mv uQ))])
def cG9:=wu VM.eq_1
def b18:CC:=(.seq cf6 (.cond iK cf7 (.seq VL VM)))
def bo3:=wu b18.eq_1
def b19:CC:=(.reg [(qq dJ (.mv z4)),(qq eD (.bi .add dX (x6 4))),(qq a4 (.mv eJ))])
def cH0:=wu b19.eq_1
def b20:CC:=(.loop (.seq cf4 (.seq (.block 1 (.seq cf5 b18)) b19)))
def cH1:=wu b20.eq_1
def b21:CC:=(.reg [(qq sf (.mv z4)),(qq pO (.mv z0)),(qq rR (.ln .slice uS)),(qq sg (.bi .lss uR xn))])
def bo4:=wu b21.eq_1
def b22:CC:=(.cond xp .skip (.exit 2))
def bo5:=wu b22.eq_1
def b23:CC:=(.reg [(qq rS (.mv z3)),(qq rT (.bi .add AR (.c (.s 6 35620117897774)))),(qq vc (.mv z0)),(qq xw (.mv z4)),(qq pP (.iaS 1 AV AY)),(qq zD (.ld1 AZ)),(qq AW (.ci .i64 Dq)),(ee oC (.call 17 [FY])),(qq pi (.bi .add AU FZ)),(qq ut (.bi .add G0 (.c (.s 1 10)))),(qq a3 (.mv Dr))])
def bo6:=wu b23.eq_1
def b24:CC:=(.reg [(qq ur (.mv z4)),(qq va (.bi .add xR (x6 1))),(qq a4 (.mv yW))])
def bo7:=wu b24.eq_1
def b25:CC:=(.loop (.seq (.seq b21 b22) (.seq (.block 3 b23) b24)))
def cH2:=wu b25.eq_1
def b26:CC:=(.reg [(qq AX (.mv z3)),(qq a2 (.mv G3))])
def cH3:=wu b26.eq_1
def b27:CC:=(.seq (.block 0 b20) (.seq (.block 2 b25) (.seq b26 .ret)))
def bo8:=wu b27.eq_1
def b28:CC:=(.seq (.seq ce9 (.cond cT cf0 .skip)) (.seq cf1 (.seq cf2 b27)))
def bo9:=wu b28.eq_1
def b29:CC:=(.seq (.reg [(qq a2 (.mv (.c (.s 0 0))))]) b28)
def bp0:=wu b29.eq_1
def c6:CF:= .mk 7 [.t a2] b29
theorem e6(v0:V):aN 7 [v0]=(.n nX (some v0) nX):=rfl
def B6:=ai @e6 (ai @cG7 (ai @dd7 (ai @cH4 (ai @cH5 (ai @bW0 (ai @bW1 (ai @cH6 (ai @cH7 (ai @dd8 (ai @cG8 (ai @cG9 (ai @bo3 (ai @cH0 (ai @cH1 (ai @bo4 (ai @bo5 (ai @bo6 (ai @bo7 (ai @cH2 (ai @cH3 (ai @bo8 (ai @bo9 (@bp0)))))))))))))))))))))))
theorem nk.mid{F:RO}{M:Mem}{c:Nat}{v:V}{l:List UInt8}(h:nk F M c v l)(j k:Nat)(hj:j≤k)(hk:k≤l.length):∃v',Fo 1 v (some (.i .i64 (j:Int))) (some (.i .i64 (k:Int))) none=some v'∧nk F M c v' ((l.take k).drop j):=by
 obtain⟨v3,⟨hsl,_,_,_⟩,hs3⟩:=AA (lo:=j) (hi:=k) h hj (by simp;exact hk)
 refine⟨v3,congrArg QR.val hsl,?_⟩
 rw[←List.map_take,←List.map_drop]at hs3;exact hs3
theorem cY0(Φ:Nat→Option CF){L:List gk}(h16:Φ 16=some c16)(h37:Φ 37=some ZX)(h65:Φ 65=some (.orc (ah h65)))(h66:Φ 66=some (.orc (bT L h66)))(h67:Φ 67=some qN){F:RO}{M:Mem}{c:Nat}{t bs:List UInt8}{v:V}{x0 x1 x2 x3:UInt8}{r:List UInt8}{at_:Nat}(ht:bE F L=true)(ok:dH F M c)(htl:t.length≤1000000)(hw:¬oZ (w4 x0 x1 x2 x3))(hs:nk F M c v bs)(hat:at_+4≤bs.length)(hbl:bs.length≤4000)(hr:bs.drop at_=x0::x1::x2::x3::r)(u:List (Option V))(Q:Ex→St→Prop)
 (hQ:∀(u:List (Option V)) M' c',Gr c M c' M'→Q .nrm (.mk ((Cy u v (.s 0 0) (sV (t++(fT (w4 x0 x1 x2 x3)++[10]))) (.i .i64 (at_:Int)))) [] M' c')):
 Wp (.seq VL VM) (K Φ none 6 F) (.mk ((Cy u v (.s 0 0) (sV t) (.i .i64 (at_:Int)))) [] M c) Q:=by
 have hlw:fT (w4 x0 x1 x2 x3)=eB++32::bn (w4 x0 x1 x2 x3):=ab hw
 have hwl:=Zk x0 x1 x2 x3
 rw[hlw]at hQ
 have hx:∀i (hi:i<4),∃b o,b<c∧bL 1 v (.i .i64 ((at_+i:Nat):Int))=some (.p b o)∧load1 F M b o=some (.i .u8 (((x0::x1::x2::x3::r)[i]'(by simp;omega)).toNat:Int)):=fun i hi=>by
  obtain⟨b0,o0,hb0,i0,r0⟩:=hs.get (at_+i) (by omega);refine⟨b0,o0,hb0,i0 _,?_⟩;have e:bs[at_+i]'(by omega)=(bs.drop at_)[i]'(by rw[dv];omega):=by rw[List.getElem_drop]
  rw[r0,e];simp only[hr]
 obtain⟨b0,o0,hb0,i0,r0⟩:=hx 0 (by decide)
 obtain⟨b1,o1,hb1,i1,r1⟩:=hx 1 (by decide)
 obtain⟨b2,o2,hb2,i2,r2⟩:=hx 2 (by decide)
 obtain⟨b3,o3,hb3,i3,r3⟩:=hx 3 (by decide)
 have r0:load1 F M b0 o0=some (.i .u8 (x0.toNat:Int)):=r0
 have r1:load1 F M b1 o1=some (.i .u8 (x1.toNat:Int)):=r1
 have r2:load1 F M b2 o2=some (.i .u8 (x2.toNat:Int)):=r2
 have r3:load1 F M b3 o3=some (.i .u8 (x3.toNat:Int)):=r3
 rw[cX]at i0
 have j1:aK .add (.i .i64 (at_:Int)) (.i .i64 1)=some (.i .i64 ((at_+1:Nat):Int)):=by rw[bH _ _ (by omega) (by omega)];simp
 have j2:aK .add (.i .i64 (at_:Int)) (.i .i64 2)=some (.i .i64 ((at_+2:Nat):Int)):=by rw[bH _ _ (by omega) (by omega)];simp
 have j3:aK .add (.i .i64 (at_:Int)) (.i .i64 3)=some (.i .i64 ((at_+3:Nat):Int)):=by rw[bH _ _ (by omega) (by omega)];simp
 have k0:=UInt8.toNat_lt x0
 have k1:=UInt8.toNat_lt x1
 have k2:=UInt8.toNat_lt x2
 have k3:=UInt8.toNat_lt x3
 have wd:w4 x0 x1 x2 x3=x0.toNat+256*x1.toNat+65536*x2.toNat+16777216*x3.toNat:=rfl
 rw[wd]at hQ hwl
 generalize x0.toNat=c0 at *
 generalize x1.toNat=d1 at *
 generalize x2.toNat=d2 at *
 generalize x3.toNat=d3 at *
 have e0:=bJ c0 (by omega)
 have e1:=bJ d1 (by omega)
 have e2:=bJ d2 (by omega)
 have e3:=bJ d3 (by omega)
 have s1:=rN d1 (by omega)
 have s2:=lE d2 (by omega)
 have s3:=tf d3 (by omega)
 have p1:=bc c0 (256*d1) (by omega)
 have p2:=bc (c0+256*d1) (65536*d2) (by omega)
 have p3:=bc (c0+256*d1+65536*d2) (16777216*d3) (by omega)
 generalize c0+256*d1+65536*d2+16777216*d3=a3 at *
 generalize c0+256*d1+65536*d2=a2 at *
 generalize c0+256*d1=a1 at *
 have w64:IntKind.u64.wrap (a3:Int)=(a3:Int):=by rw[dm];omega
 have g30:=(Gr.refl ok).up (show c≤c+30 by omega)
 have hfr:=ok.free
 have hw6:(eB++[32]).length=6:=rfl
 have es6:V.s 6 35615788726062=sV (eB++[32]):=rfl
 have t1:aK .add (sV t) (.s 6 35615788726062)=some (sV (t++(eB++[32]))):=by rw[es6];exact dy t (eB++[32]) (by rw[hw6];omega)
 simp only[WX,B6,i0,i1,i2,i3,r0,r1,r2,r3,e0,e1,e2,e3,s1,s2,s3,p1,p2,p3,j1,j2,j3,w64,t1]
 refine aC ((r16 Φ h16 h37 h65 h66 h67 (g30.ok ok) ht a3 hwl).mono ?_)
 rintro v1 M2 c2 ⟨rfl,g2⟩
 have hil:=eV a3
 have t2:aK .add (sV (t++(eB++[32]))) (sV (bn a3))=some (sV (t++(eB++[32])++bn a3)):=dy _ _ (by rw[aV,hw6];omega)
 have t3:aK .add (sV (t++(eB++[32])++bn a3)) (.s 1 10)=some (sV (t++(eB++[32])++bn a3++[10])):=dy _ [10] (by rw[aV,aV,hw6,show([10]:List UInt8).length=1 from rfl];omega)
 simp only[WX,t2,t3]
 rw[show t++(eB++[32])++bn a3++[10]=t++(eB++32::bn a3++[10]) by simp]
 exact hQ (G1 (X1 (G2 (G1 (ka (gu (eG (X8 (X2 []))))))))) _ _ (g30.trans g2)
theorem r6(Φ:Nat→Option CF)(h:Φ 6=some c6){L:List gk}(h19:Φ 19=some c19)(h39:Φ 39=some (.orc (ah h39)))(h20:Φ 20=some (.orc (bT L h20)))(h17:Φ 17=some (.orc (bT L h38)))(h16:Φ 16=some c16)(h37:Φ 37=some ZX)(h65:Φ 65=some (.orc (ah h65)))(h66:Φ 66=some (.orc (bT L h66)))(h67:Φ 67=some qN){F:RO}{M:Mem}{c:Nat}{v:V}{bs:List UInt8}(ht:bE F L=true)(ok:dH F M c)(hs:nk F M c v bs)(hl:bs.length≤4000):
 Calls Φ F 6 [v] M c fun r M' c'=>r=sV (jk bs)∧Gr c M c' M':=by
 refine aq h ?_
 have hln:=hs.len
 have d0:decide ((8192:Int)<(bs.length:Int))=false:=ag (by omega)
 have hT:=fun h args M c=>dC ht h args M c
 have hll:=uA bs
 simp only[WX,e6,cG7,cH4,cH5,bo8,bo9,bp0,hln,d0]
 obtain⟨I,hI⟩:∃I:Nat→St→Prop,∀n s',I n s'↔(∃(k c1:Nat) (M1:Mem) (l:List UInt8) (u:List (Option V)),n=bs.length-4*k∧4*k≤bs.length∧s'= .mk ((Cy u v (.s 0 0) (sV l) (.i .i64 ((4*k:Nat):Int)))) [] M1 c1∧Gr c M c1 M1∧jk bs=l++jk (bs.drop (4*k))):=⟨fun n s'=>_,fun _ _=>Iff.rfl⟩
 refine de I ?_ bs.length _ ((hI _ _).2 ⟨0,c,M,[],(G1 (X1 (G2 (G1 (ka (gu (eG (X8 (X2 []))))))))),rfl,aP _,rfl,Gr.refl ok,rfl⟩)
 intro n s' hIs
 obtain⟨k,c1,M1,l,u,rfl,hk,rfl,hg,heq⟩:=(hI _ _).1 hIs
 clear hIs
 have ok1:=hg.ok ok
 have hgl:=hg.le
 have hl6:l.length≤1000000:=by
  have:=congrArg List.length heq;rw[aV]at this;omega
 have qa:aK .add (.i .i64 ((4*k:Nat):Int)) (.i .i64 4)=some (.i .i64 ((4*k+4:Nat):Int)):=by rw[bH _ _ (by omega) (by omega)];simp
 by_cases hlt:4*k+4≤bs.length
 ·have d1:decide (((4*k+4:Nat):Int)≤(bs.length:Int))=true:=af (by omega);obtain⟨x0,x1,x2,x3,r,hr⟩:=Ih (l:=bs.drop (4*k)) (by rw[dv];omega);have hdr:bs.drop (4*(k+1))=r:=by
   rw[show 4*(k+1)=4*k+4 by omega,←List.drop_drop,hr];rfl
  rw[hr,wa]at heq;obtain⟨v4,q4,hs4⟩:=hs.mid (4*k) (4*k+4) (by omega) hlt;rw[List.drop_take,show 4*k+4-4*k=4 by omega,hr,show(x0::x1::x2::x3::r).take 4=[x0,x1,x2,x3]from rfl]at hs4;have fin:∀(u:List (Option V)) M' c',Gr c M c' M'→ ∀s',s'= .mk ((Cy u v (.s 0 0) (sV (l++(fT (w4 x0 x1 x2 x3)++[10]))) (.i .i64 ((4*k+4:Nat):Int)))) [] M' c'→ ∃m,m<bs.length-4*k∧I m s':=fun u M' c' a1 s' hs'=>
   ⟨bs.length-4*(k+1),by omega,(hI _ _).2 ⟨k+1,c',M',_,u,rfl,by omega,hs',a1,by rw[hdr,heq];simp⟩⟩
  simp only[WX,bW0,bW1,cH6,hln,qa,d1,q4];refine aC ((r19 Φ h19 h39 ok1 (hs4.grow hg)).mono ?_);rintro v1 M2 c2 ⟨rfl,g2⟩;rw[Y3];have g2l:=g2.le;by_cases hw:oZ (w4 x0 x1 x2 x3)
  ·rw[IM hw];have hlw:fT (w4 x0 x1 x2 x3)=cV (lu (w4 x0 x1 x2 x3)) (dW (w4 x0 x1 x2 x3)) (aW (w4 x0 x1 x2 x3)) (bW (w4 x0 x1 x2 x3)) (iW (w4 x0 x1 x2 x3)):=ac hw;have hlen:=tc (lu (w4 x0 x1 x2 x3)) (dW (w4 x0 x1 x2 x3)) (aW (w4 x0 x1 x2 x3)) (bW (w4 x0 x1 x2 x3)) (iW (w4 x0 x1 x2 x3));have hq:=bA8 hw.1;rw[hlw]at fin;have g3:=((hg.trans g2).set c2 (aw 51 [.i .i64 (lu (w4 x0 x1 x2 x3)),.i .i64 (dW (w4 x0 x1 x2 x3)),.i .i64 (aW (w4 x0 x1 x2 x3)),.i .i64 (bW (w4 x0 x1 x2 x3)),.i .i64 (iW (w4 x0 x1 x2 x3))]) (by omega) (bf _) (bD _))
   generalize cV (lu (w4 x0 x1 x2 x3)) (dW (w4 x0 x1 x2 x3)) (aW (w4 x0 x1 x2 x3)) (bW (w4 x0 x1 x2 x3)) (iW (w4 x0 x1 x2 x3))=x at hq hlen fin;have t1:aK .add (sV l) (sV x)=some (sV (l++x)):=dy _ _ (by omega);have t2:aK .add (sV (l++x)) (.s 1 10)=some (sV (l++x++[10])):=dy _ [10] (by rw[aV,List.length_singleton];omega);rw[show l++x++[10]=l++(x++[10]) by simp]at t2;simp only[WX,Nat.reduceAdd,Nat.reduceLeDiff,B6,h20,hT,hq,t1,t2,qa];exact fin (G1 (X1 (G2 (G1 (ka (gu (eG (X8 (X2 []))))))))) _ _ g3 _ rfl
  ·rw[IP hw];have g3:=((hg.trans g2).set c2 (aw 51 [.i .i64 0,.i .i64 0,.i .i64 0,.i .i64 0,.i .i64 0]) (by omega) (bf _) (bD _))
   simp only[WX,Int.reduceEq,Nat.reduceAdd,Nat.reduceLeDiff,cH7,bo3];rw[←AN];refine cY0 Φ h16 h37 h65 h66 h67 ht (g3.ok ok) hl6 hw (hs.grow g3) hlt hl hr (G1 (X1 (G2 (G1 (ka (gu (eG (X8 (X2 []))))))))) _ ?_;intro u M' c' a1;simp only[WX,B6,qa];exact fin (G1 (X1 (G2 (G1 (ka (gu (eG (X8 (X2 []))))))))) _ _ (g3.trans a1) _ rfl
 ·have d1:decide (((4*k+4:Nat):Int)≤(bs.length:Int))=false:=ag (by omega);rw[iQ (l:=bs.drop (4*k)) (by rw[dv];omega)]at heq;simp only[WX,bW0,bW1,hln,qa,d1];obtain⟨J,hJ⟩:∃J:Nat→St→Prop,∀n s',J n s'↔(∃(j c2:Nat) (M2:Mem) (l2:List UInt8) (u:List (Option V)),n=bs.length-j∧j≤bs.length∧s'= .mk ((Cy u v (.s 0 0) (sV l2) (.i .i64 (j:Int)))) [] M2 c2∧Gr c M c2 M2∧jk bs=l2++(bs.drop j).flatMap fun x=>dN x++[10]):=⟨fun n s'=>_,fun _ _=>Iff.rfl⟩
  refine de J ?_ (bs.length-4*k) _ ((hJ _ _).2 ⟨4*k,c1,M1,l,(G1 (X1 (G2 (G1 (ka (gu (eG (X8 (X2 []))))))))),rfl,hk,rfl,hg,heq⟩);intro n s' hJs;obtain⟨j,c2,M2,l2,u,rfl,hj,rfl,hg2,heq2⟩:=(hJ _ _).1 hJs;clear hJs;have ok2:=hg2.ok ok;have hl7:l2.length≤1000000:=by
   have:=congrArg List.length heq2;rw[aV]at this;omega
  by_cases hjl:j<bs.length
  ·have d2:decide ((j:Int)<(bs.length:Int))=true:=af (by omega);obtain⟨b0,o0,hb0,i0,r0⟩:=nk.get (dp.grow hs hg2) j hjl;have i0:=i0 .i64;have hx:=UInt8.toNat_lt bs[j];have r0:load1 F M2 b0 o0=some (.i .u8 (bs[j].toNat:Int)):=r0;have q1:Ev.h38 [.i .i64 (bs[j].toNat:Int)]=some (sV (bn bs[j].toNat)):=mh (by omega) (by omega);have wr:IntKind.i64.wrap (bs[j].toNat:Int)=(bs[j].toNat:Int):=eC (by omega) (by omega)
   have hdj:(bs.drop j).flatMap (fun x=>dN x++[10])=(eu++32::bn bs[j].toNat)++[10]++(bs.drop (j+1)).flatMap fun x=>dN x++[10]:=by
    rw[l6 hjl,List.flatMap_cons];rfl
   rw[hdj]at heq2;have hil:=eV bs[j].toNat;generalize bs[j].toNat=z at *;have hw6:(eu++[32]).length=6:=rfl;have es6:V.s 6 35620117897774=sV (eu++[32]):=rfl;have t1:aK .add (sV l2) (.s 6 35620117897774)=some (sV (l2++(eu++[32]))):=by rw[es6];exact dy l2 (eu++[32]) (by rw[hw6];omega)
   have t2:aK .add (sV (l2++(eu++[32]))) (sV (bn z))=some (sV (l2++(eu++[32])++bn z)):=dy _ _ (by rw[aV,hw6];omega);have t3:aK .add (sV (l2++(eu++[32])++bn z)) (.s 1 10)=some (sV (l2++(eu++[32])++bn z++[10])):=dy _ [10] (by rw[aV,aV,hw6,show([10]:List UInt8).length=1 from rfl];omega);have q8:aK .add (.i .i64 (j:Int)) (.i .i64 1)=some (.i .i64 ((j+1:Nat):Int)):=by rw[bH _ _ (by omega) (by omega)];simp
   rw[show l2++(eu++[32])++bn z++[10]=l2++(eu++32::bn z++[10]) by simp]at t3;simp only[WX,bo4,bo5,bo6,bo7,hln,d2,i0,r0,wr,h17,hT,q1,t1,t2,t3,q8];exact⟨bs.length-(j+1),by omega,(hJ _ _).2 ⟨j+1,c2,M2,_,(G1 (X1 (G2 (G1 (ka (gu (eG (X8 (X2 []))))))))),rfl,hjl,rfl,hg2,by rw[heq2];simp⟩⟩
  ·have d2:decide ((j:Int)<(bs.length:Int))=false:=ag (by omega);rw[List.drop_eq_nil_of_le (by omega),List.flatMap_nil,dw]at heq2;rw[heq2];simp only[WX,B6,hln,d2];exact hg2
def lkQ(sh:Sh)(z:V)(o:Bool)(X Y:V)(F:RO)(M:Mem):QR:=nw (.lk sh z o (.c X) (.c Y)) F M .e
theorem Ed{F:RO}(sh:Sh)(z:V)(o:Bool)(x k:X)(M:Mem)(t:T):nw (.lk sh z o x k) F M t=lkQ sh z o (x.ev t) (k.ev t) F M:=Eq.trans rfl (Eq.refl _)
theorem BV{F:RO}{M:Mem}{b n:Nat}(sh:Sh)(z:V)(o:Bool)(Y:V)(h:M.get b=some (.map [] n)):lkQ sh z o (.m b) Y F M= .r (bif o then .t [z,.b false]else z) b:=by
 have hq:∀F' M',cZ (.lk sh z o (.c (.m b)) (.c Y)) F' M' .e=nq (look F' M' b) .f (fun es _=>XX z o b (mM sh Y es 0)):=fun _ _=>rfl
 have e0:mM sh Y [] 0=some none:=rfl
 unfold lkQ nw
 rw[hq,au h]
 show Wx _ _ b (look F M b)=_
 rw[au h]
 show Ch b (cZ (.lk sh z o (.c (.m b)) (.c Y)) [(b,.map [] n)] .e .e)=_
 rw[hq]
 have:look [(b,bw.map [] n)] (.e:Mem) b=some (.map [] n):=by
  rw[aM (show(Tr.e:Mem).get b=none from rfl)];show Bool.rec (motive:=fun _=>Option bw) _ (some (.map [] n)) (Nat.beq b b)=_;rw[bF];simp
 rw[this];rfl
theorem Xv(w:Nat):Dn w=nG w:=by
 have key:∀n:Nat,UInt8.ofNat (n%256)=UInt8.ofNat n:=fun n=>UInt8.toNat_inj.1 (by rw[UInt8.toNat_ofNat',UInt8.toNat_ofNat'];omega)
 unfold Dn nG
 rw[key,key,key,key]
theorem av6{F:RO}{M:Mem}{c ty bytes:Nat}:tZ F M c ty 2 bytes .l0 .l0= .k .l0 M c:=rfl
def aC4:CC:=(.reg [(aa a3 (.bx 74 12 z1)),(qq a4 (.mv (x6 0)))])
def YW:=wu aC4.eq_1
def aC5:CC:=(.reg [(qq dh (.mv z0)),(qq d8 (.nck cH)),(qq dK (.fa 0 cI)),(qq dL (.fa 0 dM)),(qq dJ (.ld1 dA)),(qq eD (.ln .slice dX)),(qq a5 (.mv eJ))])
def YY:=wu aC5.eq_1
def aC6:CC:=(.dreg 12 [(0,0,(qq eN (.mv z0))),(1,1,(qq fq (.nck fL))),(2,3,(qq ej (.fa 3 fO))),(3,7,(qq eE (.ld1 gD))),(4,0,(qq eT (.fa 10 z3))),(5,16,(qq ga (.ld1 ia))),(6,63,(qq fP (.lk .str (.i .i64 0) true gw ib))),(7,127,(qq eZ (.mv gV))),(8,255,(qq ft (.ex 0 fh))),(9,255,(qq ie (.ex 1 fh))),(10,511,(qq a6 (.mv gy))),(11,2047,(qq a7 (.mv iU)))])
def Z3:=wu aC6.eq_1
def aC7:CC:=(.dreg 30 [(0,0,(qq fJ (.fa 0 z3))),(1,1,(qq gR (.ld1 j8))),(2,3,(qq gW (.mv iV))),(3,7,(bk ig (.fa 2 z3) gW)),(4,15,(bk iE (.ld1 jR) gW)),(5,31,(bk fj (.mv kC) gW)),(6,63,(aj fQ (.mv z5) fj)),(7,127,(aj kc (.bi .and jY (x6 3)) fj)),(8,255,(aj kd (.bi .neq lM (x6 0)) fj)),(9,511,(bk kE (.pk kQ lN xF) gW)),(10,1023,(qq jS (.pk iX xT lO))),(11,2047,(qq gC (.mv lF))),(12,4095,(bk kR (.mv z0) gC)),(13,8191,(bk lJ (.nck lQ) gC)),(14,16383,(bk kW (.fa 4 n6) gC)),(15,32767,(bk kS (.ld1 og) gC)),(16,4095,(bk kT (.fa 9 z3) gC)),(17,69631,(bk kU (.ld1 mU) gC)),(18,262143,(bk mG (.lk .str (.b false) false oq oT) gC)),(19,524287,(qq jV (.pk lG xT n7))),(20,1048575,(qq ke (.mv ot))),(21,2097151,(bk mH (.fa 10 z3) ke)),(22,4194303,(bk kX (.ld1 mV) ke)),(23,8388607,(bk jW (.bi .neq ng (.c (.s 0 0))) ke)),(24,16777215,(bk gb (.mv oU) ke)),(25,33554431,(aj ow (.mv z7) gb)),(26,67108863,(aj oy (.un .not qB) gb)),(27,134217727,(bk kF (.pk pG pf xF) ke)),(28,268435455,(qq kY (.pk n8 xT qC))),(29,536870911,(qq gz (.mv qE)))])
def Z9:=wu aC7.eq_1
def aC8:CC:=(.reg [(qq a4 (.mv (x6 4)))])
def cE1:=wu aC8.eq_1
def aC9:CC:=(.reg [(qq nn (.fa 9 z3)),(qq pM (.ld1 pH)),(qq oz (.bi .neq rV (.c (.s 0 0)))),(qq n9 (.mv um)),(aj kZ (.mv z0) n9),(aj oX (.nck rW) n9),(aj oA (.fa 4 rX) n9),(aj pN (.ld1 rP) n9),(aj oB (.ln .map pI) n9),(aj lL (.bi .eql rY (x6 256)) n9),(qq oY (.pk tS uo xF)),(qq lK (.mv uQ))])
def Za:=wu aC9.eq_1
def aD0:CC:=(.reg [(qq a4 (.mv (x6 5)))])
def cE2:=wu aD0.eq_1
def aD1:CC:=(.reg [(qq pO (.fa 9 z3)),(qq rR (.ld1 uS)),(qq sg (.bi .neq xn (.c (.s 0 0)))),(qq sf (.mv xp))])
def Zb:=wu aD1.eq_1
def aD2:CC:=(.dreg 7 [(0,0,(qq ur (.mv z0))),(1,1,(qq va (.nck xR))),(2,3,(qq rS (.fa 4 yW))),(3,7,(qq rT (.ld1 AR))),(4,0,(qq vc (.fa 9 z3))),(5,16,(qq xw (.ld1 AV))),(6,63,(ez (.mu .str AU AY xT)))])
def cE3:=wu aD2.eq_1
def Pg:CC:=(.dreg 16 [(0,0,(qq pP (.mv z0))),(1,0,(qq zD (.mv z0))),(2,2,(qq AW (.nck Dq))),(3,6,(qq oC (.fa 0 FY))),(4,14,(qq pi (.fa 1 FZ))),(5,30,(qq ut (.ld1 G0))),(6,0,(qq AX (.fa 9 z3))),(7,64,(qq Ba (.ld1 G3))),(8,0,(qq Bb (.mv z5))),(9,448,(qq xX (.bld [(.s 0 0),(.i .i64 0)] [(0,1,JD),(1,1,JE)]))),(10,960,(aa Dk (.bsl 82 1 2 [(.s 0 0),(.i .i64 0)] [(0,JF)]))),(11,2046,(ee Dl (.app 82 2 24 Dr LY))),(12,4095,(qq Dm (.nck AZ))),(13,8191,(qq xY (.fa 0 M7))),(14,16383,(qq DC (.fa 1 M8))),(15,32767,(ez (.st 1 Mh LZ)))])
def bL2:=wu Pg.eq_1
def Ph:CC:=(.reg [(qq a4 (.mv (x6 0)))])
def bL3:=wu Ph.eq_1
def Pi:CC:=(.cond uR (.seq aD2 (.seq Pg (.seq Ph .ret))) .skip)
def FB:=wu Pi.eq_1
def Pj:CC:=(.cond pg (.seq aD0 .ret) (.seq aD1 Pi))
def FC:=wu Pj.eq_1
def Pk:CC:=(.cond iK (.seq aC8 .ret) (.seq aC9 Pj))
def FD:=wu Pk.eq_1
def Pl:CC:=(.reg [(qq DD (.fa 11 z3)),(qq DE (.ld1 Mi)),(qq a8 (.mv Mj))])
def FE:=wu Pl.eq_1
def Pm:CC:=(.reg [(qq a9 (.mv (.c .l0)))])
def FF:=wu Pm.eq_1
def Pn:CC:=(.reg [(qq Mc (.fa 2 z3)),(qq Gb (.ld1 ZU)),(qq Ga (.mv Ml))])
def FG:=wu Pn.eq_1
def Po:CC:=(.reg [(qq tT (.fa 10 z3)),(qq sc (.ld1 wW)),(qq pL (.bi .neq wX (.c (.s 0 0)))),(qq mY (.mv xO)),(aj uY (.fa 4 z3) mY),(aj uZ (.fa 0 xQ) mY),(aj za (.ld1 wY) mY),(aj zb (.bi .eql CL (x6 5)) mY),(qq jU (.pk xP CM xF))])
def YX:=wu Po.eq_1
def Pp:CC:=(.reg [(qq xu (.mv z6)),(qq zc (.fa 4 z3)),(qq zd (.fa 4 FT)),(ez (.st 1 FU CP))])
def bL4:=wu Pp.eq_1
def Pq:CC:=(.reg [(qq tU (.mv z5)),(qq ze (.bi .add CQ (x6 2))),(qq zf (.bld [(.i .i64 0),(.b false)] [(0,1,CR),(1,1,xT)])),(aa v7 (.bsl 37 1 2 [(.i .i64 0),(.b false)] [(0,CS)])),(qq a9 (.mv CT))])
def bL5:=wu Pq.eq_1
def Ps:CC:=(.reg [(qq zg (.fa 10 z3)),(qq v8 (.ld1 CU)),(qq zh (.bi .neq CV (.c (.s 0 0))))])
def YZ:=wu Ps.eq_1
def Pt:CC:=(.reg [(qq zi (.mv z6)),(qq zj (.mv z5)),(qq nl (.bi .sub CX CY)),(qq zk (.bi .quo CZ (x6 4))),(qq zl (.fa 4 z3)),(qq zm (.fa 4 D1)),(ez (.st 1 D2 D0))])
def bL6:=wu Pt.eq_1
def Pu:CC:=(.seq Ps (.cond CW Pt .skip))
def Z0:=wu Pu.eq_1
def Pv:CC:=(.cond CN (.seq Pp Pq) Pu)
def Z1:=wu Pv.eq_1
def Pw:CC:=(.reg [(qq jA (.fa 4 z3)),(qq zn (.ldn 5 D3)),(aa tW (.bsl 51 1 5 [(.i .i64 0),(.i .i64 0),(.i .i64 0),(.i .i64 0),(.i .i64 0)] [(0,D4)])),(ee zo (.call 51 [D5])),(qq tV (.mv D6)),(qq tX (.ex 0 AQ)),(qq zp (.ex 1 AQ)),(qq cE (.mv D7)),(qq cW (.mv D8))])
def Z2:=wu Pw.eq_1
def Px:CC:=(.reg [(qq zq (.mv cM)),(qq zr (.bi .neq D9 (x6 0))),(qq oW (.mv Da)),(bk tY (.fa 10 z3) oW),(bk zt (.ld1 Db) oW),(bk zu (.bi .neq Dc (.c (.s 0 0))) oW),(bk se (.mv Dd) oW),(aj zw (.fa 4 z3) se),(aj v9 (.fa 0 Df) se),(aj B2 (.ld1 Dg) se),(aj B4 (.bi .neq FW (x6 5)) se),(bk Dy (.pk De FX xF) oW),(bk qG (.mv LU) oW),(aj Dz (.mv z6) qG),(aj DA (.mv z5) qG),(aj DB (.bi .sub LW ZA) qG),(aj zx (.bi .rem LX (x6 4)) qG),(aj JJ (.bi .neq ZB (x6 0)) qG),(bk JK (.pk LV ZC xF) oW),(qq JL (.pk FV xT ZD))])
def bL7:=wu Px.eq_1
def Py:CC:=(.reg [(qq a4 (.mv (x6 4)))])
def bL8:=wu Py.eq_1
def Pz:CC:=(.cond ZE (.seq Py .ret) .skip)
def bL9:=wu Pz.eq_1
def PA:CC:=(.reg [(qq JM (.mv cT)),(qq a8 (.mv ZF))])
def bM0:=wu PA.eq_1
def PB:CC:=(.seq (.seq Po Pv) (.seq Pw (.seq (.seq Px Pz) PA)))
def Z4:=wu PB.eq_1
def PC:CC:=(.reg [(qq JN (.fa 3 z3)),(qq zy (.ld1 ZH)),(qq B9 (.mv ZI))])
def Z5:=wu PC.eq_1
def PD:CC:=(.reg [(qq JO (.mv z6)),(qq zz (.ci .u64 ZJ)),(ee JP (.call 52 [ZK])),(qq a8 (.mv ZL))])
def bM1:=wu PD.eq_1
def PE:CC:=(.reg [(qq JQ (.mv z5)),(qq JR (.bld [(.i .i64 0),(.b false)] [(0,1,ZM)])),(aa JS (.bsl 37 1 2 [(.i .i64 0),(.b false)] [(0,ZN)])),(qq a9 (.mv ZO))])
def bM2:=wu PE.eq_1
def PF:CC:=(.reg [(qq JT (.fa 1 z3)),(qq JU (.ld1 ZQ)),(qq zA (.mv ZR))])
def Z6:=wu PF.eq_1
def PG:CC:=(.reg [(qq zC (.mv z5)),(qq JV (.un .neg ZS)),(qq a04 (.bi .and ZT (x6 3))),(aa a05 (.mks 5 1 1 [(.i .u8 0)] au6 au6)),(qq a8 (.mv bX6))])
def bM3:=wu PG.eq_1
def PH:CC:=(.cond ZP PG .skip)
def Z7:=wu PH.eq_1
def PJ:CC:=(.cond ZG (.seq PD PE) (.seq PF PH))
def Z8:=wu PJ.eq_1
def PK:CC:=(.cond Mk PB (.seq PC PJ))
def FH:=wu PK.eq_1
def PL:CC:=(.reg [(qq a06 (.mv z8)),(qq a07 (.ln .slice bX7)),(qq a08 (.mv z5)),(qq bs0 (.bi .sub (x6 8192) bX9)),(qq bs1 (.bi .gtr bX8 cN1))])
def bM4:=wu PL.eq_1
def PM:CC:=(.reg [(qq a4 (.mv (x6 5)))])
def bM5:=wu PM.eq_1
def PN:CC:=(.cond cN2 (.seq PM .ret) .skip)
def bM6:=wu PN.eq_1
def PO:CC:=(.reg [(qq bs2 (.mv z0)),(qq bs3 (.mv z0)),(qq bs4 (.nck cN4)),(qq bs5 (.fa 0 cN5)),(qq c05 (.fa 0 cN6)),(qq c06 (.ld1 de8)),(qq c07 (.mv z8)),(ee c08 (.app 5 1 1 de9 df0)),(qq c09 (.nck cN3)),(qq c59 (.fa 0 df2)),(qq c93 (.fa 0 df3)),(ez (.st 1 df4 df1))])
def bM7:=wu PO.eq_1
def PP:CC:=(.reg [(qq ca0 (.mv z0)),(qq ca2 (.mv z0)),(qq ca4 (.nck df6)),(qq ca5 (.fa 0 df7)),(qq ca6 (.fa 2 df8)),(qq ca7 (.ld1 df9)),(qq ca8 (.mv z9)),(ee ca9 (.app 37 2 16 dg0 dg1)),(qq cb0 (.nck df5)),(qq cb2 (.fa 0 dg3)),(qq cb4 (.fa 2 dg4)),(ez (.st 1 dg5 dg2))])
def bM8:=wu PP.eq_1
def PQ:CC:=(.reg [(qq a4 (.mv (x6 0)))])
def bM9:=wu PQ.eq_1
def PR:CC:=(.seq (.seq PL PN) (.seq PO (.seq PP (.seq PQ .ret))))
def bN0:=wu PR.eq_1
def PS:CC:=(.seq Pl (.seq Pm (.seq (.block 1 (.seq Pn PK)) PR)))
def FI:=wu PS.eq_1
def PT:CC:=(.seq aC5 (.seq aC6 (.seq (.block 0 (.seq aC7 Pk)) PS)))
def FJ:=wu PT.eq_1
def c24:CF:= .mk 8 [.t a4] (.seq aC4 PT)
theorem e24(v0 v1:V):aN 8 [v0,v1]=(.n (.n nX (some v1) nX) (some v0) sk7):=rfl
def B24:=ai @e24 (ai @YW (ai @YY (ai @Z3 (ai @Z9 (ai @cE1 (ai @Za (ai @cE2 (ai @Zb (ai @cE3 (ai @bL2 (ai @bL3 (ai @FB (ai @FC (ai @FD (ai @FE (ai @FF (ai @FG (ai @YX (ai @bL4 (ai @bL5 (ai @YZ (ai @bL6 (ai @Z0 (ai @Z1 (ai @Z2 (ai @bL7 (ai @bL8 (ai @bL9 (ai @bM0 (ai @Z4 (ai @Z5 (ai @bM1 (ai @bM2 (ai @Z6 (ai @bM3 (ai @Z7 (ai @Z8 (ai @FH (ai @bM4 (ai @bM5 (ai @bM6 (ai @bM7 (ai @bM8 (ai @bM9 (ai @bN0 (ai @FI (@FJ)))))))))))))))))))))))))))))))))))))))))))))))
theorem bu2{F:RO}(a b:List UInt8)(M:Mem):biQ .neq (sV a) (sV b) F M=oV (aK .neq (sV a) (sV b)):=by
 refine(il ?_).trans (congrArg oV (bH4 (F:=F) .neq _ _ M .e))
 intro F' M'
 show vB (!lD a.length (bP a) b.length (bP b))=oV (vB (!lD a.length (bP a) b.length (bP b))).val
 rw[mS];rfl
theorem s00:aK .neq (.s 0 0) (.s 0 0)=some (.b false):=by have:=ss [] [];rwa [af rfl]at this
theorem sQ0{F:RO}(M:Mem):biQ .neq (.s 0 0) (.s 0 0) F M=oV (some (.b false)):=(bu2 [] [] M).trans (congrArg oV s00)
theorem uu{F:RO}{M:Mem}{c0 c b ty sz bytes:Nat}{v y:V}{es ns:List (List V)}(h:d6 M c0 c b ty sz v es)(ok:dH F M c)(h0:c0≤c)(hsz:0<sz)(hy:dp F M c sz y ns)(h1:bh ns.flatten=true)(hr:pa (es.length+ns.length) bytes=true):
 xe (tZ F M c ty sz bytes v y) fun v' M' c'=>∃b',d6 M' c0 c' b' ty sz v' (es++ns)∧dH F M' c'∧c≤c'∧ ∀x,x<c0→M'.get x=M.get x:=by
 obtain⟨b1,hA1,hb1⟩:∃b1,d6 M c0 c b1 ty sz v es∧((c0≤b1∧b1<c∧ ∃x,M.get b1=some x)∨c≤b1):=by
  rcases h with⟨a0,⟨a1,a2⟩|⟨a1,a2,a3,a4⟩⟩
  ·exact⟨c,⟨a0,.inl ⟨a1,a2⟩⟩,.inr (ak _)⟩
  ·exact⟨b,⟨a0,.inr ⟨a1,a2,a3,a4⟩⟩,.inl ⟨a1,a2,_,a4⟩⟩
 refine(zG (bytes:=bytes) hA1 ⟨h0,fun _ _=>rfl,ok.hiM⟩ hsz hy h1 hr).mono ?_
 rintro v' M' c' ⟨b',hA',g',hle,hf,hb'⟩
 have gx:Dv (fun x=>x=b1) c M c' M':=⟨hle,fun x a b=>hf x a b,g'.new⟩
 refine⟨b',hA',gx.ok ok fun x a e=>?_,hle,fun x hx=>g'.old x hx⟩
 rcases hb1 with⟨_,_,hm⟩|a2
 ·rw[e];exact hm
 ·omega
theorem d6.keep{M M':Mem}{c0 c c' b ty sz:Nat}{v:V}{es:List (List V)}(h:d6 M c0 c b ty sz v es)(hc:c≤c')(hM:∀x,c0≤x→x<c→M'.get x=M.get x):d6 M' c0 c' b ty sz v es:=by
 rcases h with⟨h0,h|⟨h1,h2,rfl,h3⟩⟩
 ·exact⟨h0,.inl h⟩
 ·exact⟨h0,.inr ⟨h1,by omega,rfl,by rw[hM b h1 h2];exact h3⟩⟩
def dg(bv:V)(m1 m2:Nat):List V:=[bv,.l0,.l0,.m m1,.m m2]
theorem d95(Φ:Nat→Option CF)(h:Φ 24=some c24){F:RO}{M:Mem}{c lo hi bb m1 m2 cB b1:Nat}{bv:V}{bts bs:List UInt8}{es:List V}(ok:dH F M c)
 (hB:M.get bb=some (aw 68 (dg bv m1 m2))) (hm1:M.get m1=some (.map [] 0)) (hm2:M.get m2=some (.map [] 0)) (hbc:bb<cB) (hcB:cB≤c) (h1:m1<bb) (h2:m2<bb) (hA:d6 M cB c b1 5 1 bv (bts.map fun x=>[bV x])) (hlen:bts.length≤8000) (hx:yX lo M hi es (.inr bs)) (hhi:hi≤cB):
 Calls Φ F 24 [.p bb 0,.g es] M c fun r M' c'=>r= .i .i64 0∧dH F M' c'∧c≤c'∧(∀y,y<cB→y≠bb→M'.get y=M.get y)∧ ∃bv' b1',M'.get bb=some (aw 68 (dg bv' m1 m2))∧d6 M' cB c' b1' 5 1 bv' ((bts++bs).map fun x=>[bV x]):=by
 refine aq h ?_
 obtain⟨b,k1,k2,rfl,k3,k4⟩:=hx
 have hln:=(hA.sl (F:=F)).len
 rw[List.length_map]at hln
 have hr:(xH (.l b 0 bs.length bs.length)).length=12∧bh (xH (.l b 0 bs.length bs.length))=true:=⟨rfl,rfl⟩
 simp only[WX,e24,YW,hr]
 have gX:=fun x=>(Gr.refl ok).set c x (ak _) (bf _) (bD _)
 have gX:=gX (aw 74 (xH (.l b 0 bs.length bs.length)))
 have l2:∀k v,(xH (.l b 0 bs.length bs.length))[k]?=some v→load1 F (M.set c (aw 74 (xH (.l b 0 bs.length bs.length)))) c k=some v:=fun k v hv=>by rw[aX (av _ _ _) k];exact hv
 generalize M.set c (aw 74 (xH (.l b 0 bs.length bs.length)))=X at gX l2⊢
 have okX:=gX.ok ok
 have xB:=(gX.old bb (by omega)).trans hB
 have lB:=aX (F:=F) xB 0
 have lP:=aX (F:=F) xB 3
 have lH:=aX (F:=F) xB 4
 have lS:=aX (F:=F) xB 2
 rw[show(dg bv m1 m2)[0]?=some bv from rfl]at lB
 rw[show(dg bv m1 m2)[3]?=some (.m m1)from rfl]at lP
 rw[show(dg bv m1 m2)[4]?=some (.m m2)from rfl]at lH
 rw[show(dg bv m1 m2)[2]?=some .l0 from rfl]at lS
 have q1:=fun Y=>BV (F:=F) .str (.i .i64 0) true Y ((gX.old m1 (by omega)).trans hm1)
 have q2:=fun Y=>BV (F:=F) .str (.b false) false Y ((gX.old m2 (by omega)).trans hm2)
 have f0:=l2 0 (.b false) rfl
 have f1:=l2 1 (.b false) rfl
 have f2:=l2 2 (.b false) rfl
 have f3:=l2 3 (.b false) rfl
 have f9:=l2 9 (.s 0 0) rfl
 have f10:=l2 10 (.s 0 0) rfl
 have f11:=l2 11 (.l b 0 bs.length bs.length) rfl
 have d1:BW (.l b 0 bs.length bs.length)=some (.i .i64 (bs.length:Int)):=rfl
 have d2:aK .sub (.i .i64 8192) (.i .i64 (bts.length:Int))=some (.i .i64 ((8192-bts.length:Nat):Int)):=by rw[kp _ _ (by omega) (by omega)];congr 2;omega
 have d3:decide (((8192-bts.length:Nat):Int)<(bs.length:Int))=false:=ag (by omega)
 simp only[WX,Nat.reduceAdd,YY,Z3,Z9,Za,Zb,FB,FC,FD,FJ,jf,lZ,ec,lB,hln,lP,q1,Ed,f10,f0,f2,f9,q2,lH,sQ0,s00]
 simp only[WX,FE,FF,FG,Z5,Z6,Z7,Z8,FH,FI,f11,f2,f3,f1]
 simp only[WX,B24,d1,d2,d3,jf,ec,lB]
 have okY:=(gX.up (show c.succ≤c+43 by omega)).ok ok
 have hA':=hA.up (M':=X) (show c≤c+43 by omega) fun hb=>gX.old b1 hb
 have hy:dp F X (c+43) 1 (.l b 0 bs.length bs.length) (bs.map fun x=>[bV x]):=Ys (d:=[.i .u8 0]) (ty:=5) (by rw[gf];exact(gX.old b (by omega)).trans k3) (by omega) (fun e he=>by obtain⟨x,_,rfl⟩:=List.mem_map.1 he;rfl) (List.length_map _)
 refine aC ((uu (c0:=cB) (bytes:=1) hA' okY (by omega) (by decide) hy (oE _) (jp (by rw[List.length_map,List.length_map];omega) (by rw[List.length_map,List.length_map];omega))).mono ?_)
 rintro v' M2 c2 ⟨b2,hA2,ok2,hle,hold⟩
 obtain⟨v1,v2,v3⟩:cU v'=true∧flatten v'=[v']∧bh [v']=true:=by rcases hA2 with⟨_,⟨_,rfl⟩|⟨_,_,rfl,_⟩⟩<;>exact⟨rfl,rfl,rfl⟩
 have zB:=(hold bb hbc).trans xB
 have st1:=bG zB 0 [v'] (by simp[dg]) v3
 have st2:=bG (av M2 bb (aw 68 (dg v' m1 m2))) 2 [.l0] (by simp[dg]) rfl
 have lS2:=aX (F:=F) (av M2 bb (aw 68 (dg v' m1 m2))) 2
 rw[show(dg v' m1 m2)[2]?=some .l0 from rfl]at lS2
 rw[show over (dg bv m1 m2) 0 [v']=dg v' m1 m2 from rfl]at st1
 rw[show over (dg v' m1 m2) 2 [.l0]=dg v' m1 m2 from rfl]at st2
 simp only[WX,B24,jf,ec,v2,st1,st2,lS2,av6]
 rw[List.map_append]
 exact⟨(ok2.put (by omega) zB).put (by omega) (av _ _ _),by omega,fun y y1 y2=>by rw[am _ _ y2,am _ _ y2,hold y y1,gX.old y (by omega)],_,b2,av _ _ _,hA2.keep (ak _) fun x x1 _=>by rw[am _ _ (by omega),am _ _ (by omega)]⟩
theorem d96(Φ:Nat→Option CF)(h:Φ 24=some c24)(h51:Φ 51=some c51)(h62:Φ 62=some (.orc (ah h62))){F:RO}{M:Mem}{c lo hi bb m1 m2 cB b1:Nat}{bv:V}{bts:List UInt8}{x:Dw}{es:List V}(ok:dH F M c)
 (hB:M.get bb=some (aw 68 (dg bv m1 m2))) (hm1:M.get m1=some (.map [] 0)) (hm2:M.get m2=some (.map [] 0)) (hbc:bb<cB) (hcB:cB≤c) (h1:m1<bb) (h2:m2<bb) (hA:d6 M cB c b1 5 1 bv (bts.map fun x=>[bV x])) (hlen:bts.length≤8000) (hx:yX lo M hi es (.inl x)) (hal:bts.length%4=0):
 Calls Φ F 24 [.p bb 0,.g es] M c fun r M' c'=>r= .i .i64 0∧dH F M' c'∧c≤c'∧(∀y,y<cB→y≠bb→M'.get y=M.get y)∧ ∃bv' b1',M'.get bb=some (aw 68 (dg bv' m1 m2))∧d6 M' cB c' b1' 5 1 bv' ((bts++j0 (.inl x)).map fun x=>[bV x]):=by
 refine aq h ?_
 obtain⟨hmay,rfl⟩:=hx
 have hln:=(hA.sl (F:=F)).len
 rw[List.length_map]at hln
 have hr:(vT x).length=12∧bh (vT x)=true:=⟨rfl,rfl⟩
 simp only[WX,e24,YW,hr]
 have gX:=fun x=>(Gr.refl ok).set c x (ak _) (bf _) (bD _)
 have gX:=gX (aw 74 (vT x))
 have l2:∀k v,(vT x)[k]?=some v→load1 F (M.set c (aw 74 (vT x))) c k=some v:=fun k v hv=>by rw[aX (av _ _ _) k];exact hv
 have li:loadN F (M.set c (aw 74 (vT x))) c 4 5=some (ED x):=qh _ _ _ _ _ _ (by show 4+5≤12;decide)
 generalize M.set c (aw 74 (vT x))=X at gX l2 li⊢
 have okX:=gX.ok ok
 have xB:=(gX.old bb (by omega)).trans hB
 have lB:=aX (F:=F) xB 0
 have lP:=aX (F:=F) xB 3
 have lH:=aX (F:=F) xB 4
 rw[show(dg bv m1 m2)[0]?=some bv from rfl]at lB
 rw[show(dg bv m1 m2)[3]?=some (.m m1)from rfl]at lP
 rw[show(dg bv m1 m2)[4]?=some (.m m2)from rfl]at lH
 have q1:=fun Y=>BV (F:=F) .str (.i .i64 0) true Y ((gX.old m1 (by omega)).trans hm1)
 have q2:=fun Y=>BV (F:=F) .str (.b false) false Y ((gX.old m2 (by omega)).trans hm2)
 have f0:=l2 0 (.b false) rfl
 have f1:=l2 1 (.b false) rfl
 have f2:=l2 2 (.b true) rfl
 have f9:=l2 9 (.s 0 0) rfl
 have f10:=l2 10 (.s 0 0) rfl
 have f11:=l2 11 .l0 rfl
 have qa:aK .and (.i .i64 (bts.length:Int)) (.i .i64 3)=some (.i .i64 0):=by
  rw[DO,uH,uH];have e:((3:Int)%18446744073709551616).toNat=2^2-1:=by decide
  rw[e,Nat.and_two_pow_sub_one_eq_mod];have e2:((((bts.length:Int)%18446744073709551616).toNat%2^2:Nat):Int)=0:=by omega
  rw[e2,eC (by omega) (by omega)]
 have qQ:biQ .and (.i .i64 (bts.length:Int)) (.i .i64 3) F X=oV (some (.i .i64 0)):=(bh0 _ _ _ _ _ _).trans (congrArg oV qa)
 simp only[WX,Nat.reduceAdd,YY,Z3,Z9,Za,Zb,FB,FC,FD,FJ,jf,lZ,ec,lB,hln,lP,q1,Ed,f10,f0,f2,f9,q2,lH,sQ0,s00,qQ,ne_eq,eq_self,not_true_eq_false]
 simp only[WX,Nat.reduceAdd,FE,FF,FG,YX,YZ,Z0,Z1,Z2,Z4,FH,FI,f11,f2,f10,s00,li,ED,eq_self]
 have g43:=gX.up (show c.succ≤c+43 by omega)
 have am3:=g43.ok ok
 have g44:=(Gr.refl am3).set (c+43) (fV [.i .i64 0,.i .i64 0,.i .i64 0,.i .i64 0,.i .i64 0] 51 [.i .i64 x.op,.i .i64 x.d,.i .i64 x.a,.i .i64 x.b,.i .i64 x.i]) (ak _) (bf _) (bD _)
 have am4:=g44.ok am3
 have hs1:dp F (X.set (c+43) (fV [.i .i64 0,.i .i64 0,.i .i64 0,.i .i64 0,.i .i64 0] 51 [.i .i64 x.op,.i .i64 x.d,.i .i64 x.a,.i .i64 x.b,.i .i64 x.i])) (c+44) 5 (.l (c+43) 0 1 1) ([x].map ED):=
  Ys (d:=[.i .i64 0,.i .i64 0,.i .i64 0,.i .i64 0,.i .i64 0]) (ty:=51) (av _ _ _) (by omega) (Xh _) rfl
 refine aC ((r51 Φ h51 h62 am4 hs1 (show 1≤200 by decide)).mono ?_)
 rintro r M1 c1 ⟨g1,⟨_,b,rfl,hsb⟩|⟨hn,_⟩⟩
 rotate_left
 ·rw[List.all_cons,hmay]at hn;cases hn
 have hbl:kI [x]=j0 (.inl x):=by
  show(nG (tQ x)++[]:List UInt8)=Dn _;rw[Xv,dw];rfl
 rw[hbl]at hsb
 have hbn:=hsb.len
 rw[show(j0 (.inl x)).length=4 from rfl]at hbn
 have ok1:=g1.ok am4
 have gY:=(g44.trans g1)
 have yB:=(gY.old bb (by omega)).trans xB
 have lB1:=aX (F:=F) yB 0
 rw[show(dg bv m1 m2)[0]?=some bv from rfl]at lB1
 have f10':=(gY.load1 (F:=F) (show c<c+43 by omega) 10).trans f10
 have d2:aK .sub (.i .i64 8192) (.i .i64 (bts.length:Int))=some (.i .i64 ((8192-bts.length:Nat):Int)):=by rw[kp _ _ (by omega) (by omega)];congr 2;omega
 have d3:decide (((8192-bts.length:Nat):Int)<4)=false:=ag (by omega)
 rw[show((4:Nat):Int)=4 from rfl]at hbn
 obtain⟨z1,z2⟩:cU b=true∧flatten b=[b]:=by
  rcases hsb with⟨_,⟨_,rfl|⟨b,o0,o,rfl⟩⟩|⟨b,o,⟨cap,_,rfl⟩|⟨el,kn,_,rfl⟩,_⟩⟩<;>exact⟨rfl,rfl⟩
 simp only[WX,B24,f10',s00,hbn,d2,d3,jf,ec,lB1,ne_eq,eq_self,not_true_eq_false]
 have hA':=hA.up (M':=M1) (show c≤c1 by have:=gY.le;omega) fun hb=>(gY.old b1 (by omega)).trans (gX.old b1 hb)
 refine aC ((uu (c0:=cB) (bytes:=1) hA' ok1 (by have:=gY.le;omega) (by decide) hsb (oE _) (jp (by rw[List.length_map,List.length_map];show(3*(bts.length+4)+2000)*1≤_;omega) (by rw[List.length_map,List.length_map];show bts.length+4≤_;omega))).mono ?_)
 rintro v' M2 c2 ⟨b2,hA2,ok2,hle,hold⟩
 obtain⟨v1,v2,v3⟩:cU v'=true∧flatten v'=[v']∧bh [v']=true:=by rcases hA2 with⟨_,⟨_,rfl⟩|⟨_,_,rfl,_⟩⟩<;>exact⟨rfl,rfl,rfl⟩
 have zB:=(hold bb hbc).trans yB
 have st1:=bG zB 0 [v'] (by simp[dg]) v3
 have st2:=bG (av M2 bb (aw 68 (dg v' m1 m2))) 2 [.l0] (by simp[dg]) rfl
 have lS2:=aX (F:=F) (av M2 bb (aw 68 (dg v' m1 m2))) 2
 rw[show(dg v' m1 m2)[2]?=some .l0 from rfl]at lS2
 rw[show over (dg bv m1 m2) 0 [v']=dg v' m1 m2 from rfl]at st1
 rw[show over (dg v' m1 m2) 2 [.l0]=dg v' m1 m2 from rfl]at st2
 simp only[WX,B24,jf,ec,v2,st1,st2,lS2,av6]
 rw[List.map_append]
 have:=gY.le
 exact⟨(ok2.put (by omega) zB).put (by omega) (av _ _ _),by omega,fun y y1 y2=>by rw[am _ _ y2,am _ _ y2,hold y y1,gY.old y (by omega),gX.old y (by omega)],_,b2,av _ _ _,hA2.keep (ak _) fun x x1 _=>by rw[am _ _ (by omega),am _ _ (by omega)]⟩
theorem r24(Φ:Nat→Option CF)(h:Φ 24=some c24)(h51:Φ 51=some c51)(h62:Φ 62=some (.orc (ah h62))){F:RO}{M:Mem}{c lo hi bb m1 m2 cB b1:Nat}{bv:V}{bts:List UInt8}{x:uq}{es:List V}(ok:dH F M c)
 (hB:M.get bb=some (aw 68 (dg bv m1 m2))) (hm1:M.get m1=some (.map [] 0)) (hm2:M.get m2=some (.map [] 0)) (hbc:bb<cB) (hcB:cB≤c) (h1:m1<bb) (h2:m2<bb) (hA:d6 M cB c b1 5 1 bv (bts.map fun x=>[bV x])) (hlen:bts.length≤8000) (hx:yX lo M hi es x) (hhi:hi≤cB) (hal:∀y,x= .inl y→bts.length%4=0):
 Calls Φ F 24 [.p bb 0,.g es] M c fun r M' c'=>r= .i .i64 0∧dH F M' c'∧c≤c'∧(∀y,y<cB→y≠bb→M'.get y=M.get y)∧ ∃bv' b1',M'.get bb=some (aw 68 (dg bv' m1 m2))∧d6 M' cB c' b1' 5 1 bv' ((bts++j0 x).map fun x=>[bV x]):=by
 cases x with
 |inl x=>exact d96 Φ h h51 h62 ok hB hm1 hm2 hbc hcB h1 h2 hA hlen hx (hal x rfl)
 |inr bs=>exact d95 Φ h ok hB hm1 hm2 hbc hcB h1 h2 hA hlen hx hhi
abbrev cz1(u:List (Option V))(x0 x1 x2 x3 x8:V):T:=(.n (.n (.n (aO u 31 15 47 7 39 23 55) (some x3) (aO u 35 19 51 11 43 27 59)) (some x1) (.n (aO u 33 17 49 9 41 25 57) (uO u 5) (aO u 37 21 53 13 45 29 61))) (some x0) (.n (.n (.n (j7 u 32 16 48) (some x8) (j7 u 40 24 56)) (uO u 4) (aO u 36 20 52 12 44 28 60)) (some x2) (.n (aO u 34 18 50 10 42 26 58) (uO u 6) (aO u 38 22 54 14 46 30 62))))
abbrev cz2(u:List (Option V))(x0 x1 x2 x3 x4 x10 x11:V):T:=(.n (.n (.n (.n (.n (aO u 127 63 191 31 159 95 223) (uO u 15) (aO u 143 79 207 47 175 111 239)) (uO u 7) (.n (aO u 135 71 199 39 167 103 231) (uO u 23) (aO u 151 87 215 55 183 119 247))) (some x3) (.n (.n (aO u 131 67 195 35 163 99 227) (uO u 19) (aO u 147 83 211 51 179 115 243)) (some x11) (.n (aO u 139 75 203 43 171 107 235) (uO u 27) (aO u 155 91 219 59 187 123 251)))) (some x1) (.n (.n (.n (aO u 129 65 193 33 161 97 225) (uO u 17) (aO u 145 81 209 49 177 113 241)) (uO u 9) (.n (aO u 137 73 201 41 169 105 233) (uO u 25) (aO u 153 89 217 57 185 121 249))) (uO u 5) (.n (.n (aO u 133 69 197 37 165 101 229) (uO u 21) (aO u 149 85 213 53 181 117 245)) (uO u 13) (.n (aO u 141 77 205 45 173 109 237) (uO u 29) (aO u 157 93 221 61 189 125 253))))) (some x0) (.n (.n (.n (.n (aO u 128 64 192 32 160 96 224) (uO u 16) (aO u 144 80 208 48 176 112 240)) (uO u 8) (.n (aO u 136 72 200 40 168 104 232) (uO u 24) (aO u 152 88 216 56 184 120 248))) (some x4) (.n (.n (aO u 132 68 196 36 164 100 228) (uO u 20) (aO u 148 84 212 52 180 116 244)) (uO u 12) (.n (aO u 140 76 204 44 172 108 236) (uO u 28) (aO u 156 92 220 60 188 124 252)))) (some x2) (.n (.n (.n (aO u 130 66 194 34 162 98 226) (uO u 18) (aO u 146 82 210 50 178 114 242)) (some x10) (.n (aO u 138 74 202 42 170 106 234) (uO u 26) (aO u 154 90 218 58 186 122 250))) (uO u 6) (.n (.n (aO u 134 70 198 38 166 102 230) (uO u 22) (aO u 150 86 214 54 182 118 246)) (uO u 14) (.n (aO u 142 78 206 46 174 110 238) (uO u 30) (aO u 158 94 222 62 190 126 254))))))
def aU1:CC:=(.reg [(qq a3 (.mv z0)),(qq a4 (.ci .u32 z3)),(ee a5 (.call 91 [z4])),(qq a2 (.mv z5))])
def aU2:CC:=(.reg [(qq a6 (.mv z0)),(ee a7 (.call 92 [z6])),(qq a2 (.mv z7))])
def aU3:CC:=(.seq (.cond xF (.seq aU1 .ret) .skip) (.seq aU2 .ret))
def aU4:CC:=(.seq (.reg [(qq a2 (.mv (x6 0)))]) aU3)
def c55:CF:= .mk 4 [.t a2] aU4
theorem e55(v0:V):aN 4 [v0]=(.n eX (some v0) eX):=rfl
def B55:=ai @e55 (ai (wu aU1.eq_1) (ai (wu aU2.eq_1) (ai (wu aU3.eq_1) (wu aU4.eq_1))))
def be6:CC:=(.reg [(qq cE (.mv z1)),(qq cW (.bi .add cT (x6 1))),(qq a8 (.mv cM))])
def be7:CC:=(.reg [(qq dh (.mv z8)),(qq d8 (.mv z2)),(qq dK (.bi .lss cH cI))])
def be8:CC:=(.reg [(qq eD (.mv z8)),(qq a9 (.mv eJ))])
def be9:CC:=(.dreg 17 [(0,0,(qq eZ (.mv z9))),(1,0,(qq eN (.mv z1))),(2,3,(qq fq (.bi .gtr fh fL))),(3,7,(qq ej (.mv fO))),(4,15,(aj eE (.mv z3) ej)),(5,15,(aj eT (.mv z0) ej)),(6,15,(aj ga (.mv z9) ej)),(7,111,(aj fP (.iaS 2 ia ib) ej)),(8,239,(aj ft (.ldn 2 gV) ej)),(9,15,(aj ie (.mv z0) ej)),(10,15,(aj gz (.mv z9) ej)),(11,1039,(aj fJ (.bi .sub iK (x6 1)) ej)),(12,3599,(aj gR (.iaS 2 iU j8) ej)),(13,7695,(aj gW (.ldn 2 iV) ej)),(14,16383,(dZ ig (.cv gw [gy,iX]) ej)),(15,32767,(aj iE (.bi .lss jR (x6 0)) ej)),(16,65535,(qq fj (.pk gD kC xF)))])
def bf0:CC:=(.seq be9 (.cond kQ .skip (.exit 2)))
def bf1:CC:=(.dreg 18 [(0,0,(qq kd (.mv z0))),(1,0,(qq kE (.mv z9))),(2,0,(qq jS (.mv z0))),(3,0,(qq gC (.mv z9))),(4,8,(qq kR (.bi .sub lG (x6 1)))),(5,0,(qq lJ (.mv z0))),(6,0,(qq kW (.mv z9))),(7,64,(qq kS (.bi .sub og (x6 1)))),(8,224,(qq kT (.iaS 2 n6 oq))),(9,480,(qq kU (.ldn 2 mU))),(10,0,(qq mG (.mv z0))),(11,0,(qq jV (.mv z9))),(12,3072,(qq ke (.iaS 2 n7 ot))),(13,7168,(qq mH (.ldn 2 n8))),(14,16355,(qq kX (.iaS 2 lN lO))),(15,32739,(ez (.st 2 ng oT))),(16,65535,(qq jW (.iaS 2 lF lQ))),(17,131071,(ez (.st 2 oU mV)))])
def bf2:CC:=(.reg [(qq fQ (.mv z9)),(qq kc (.bi .sub jY (x6 1))),(qq a9 (.mv lM))])
def bf3:CC:=(.block 2 (.loop (.seq bf0 (.seq (.block 3 bf1) bf2))))
def bf4:CC:=(.reg [(qq dL (.mv z8)),(qq dJ (.bi .add dA (x6 1))),(qq a8 (.mv dX))])
def VX:CC:=(.seq (.seq be7 (.cond dM .skip (.exit 0))) (.seq (.block 1 (.seq be8 bf3)) bf4))
def c83:CF:= .mk 6 [] (.seq be6 (.block 0 (.loop VX)))
theorem e83(v0 v1 v2 v3:V):aN 6 [v0,v1,v2,v3]=(.n (.n (.n eX (some v3) eX) (some v1) kV) (some v0) (.n kV (some v2) kV)):=rfl
def B83:=ai @e83 (ai (wu be6.eq_1) (ai (wu be7.eq_1) (ai (wu be8.eq_1) (ai (wu be9.eq_1) (ai (wu bf0.eq_1) (ai (wu bf1.eq_1) (ai (wu bf2.eq_1) (ai (wu bf3.eq_1) (ai (wu bf4.eq_1) (wu VX.eq_1))))))))))
def aT2:CC:=(.reg [(qq cE (.mv xT))])
def aT3:CC:=(.reg [(qq cW (.mv xT))])
def aT4:CC:=(.reg [(qq ej (.mv z2)),(qq eE (.mv z1)),(qq eT (.bi .sub gD gw)),(qq dh (.mv ia))])
def aT5:CC:=(.reg [(qq ga (.mv cH)),(qq fP (.bi .leq ib (x6 12)))])
def aT6:CC:=(.reg [(qq ft (.mv z0)),(qq ie (.mv z1)),(qq gz (.mv z2)),(qq fJ (.mv z4)),(ee gR (.call 83 [gy,iU,iK,j8]))])
def aT7:CC:=(.seq aT5 (.cond gV (.seq aT6 .ret) .skip))
def aT8:CC:=(.reg [(qq gW (.mv z3)),(qq ig (.bi .eql iX (x6 0)))])
def aT9:CC:=(.reg [(qq iE (.mv z0)),(qq fj (.mv z1)),(qq fQ (.mv z2)),(qq kc (.mv z4)),(ee kd (.call 84 [kC,kQ,jY,lM]))])
def aU0:CC:=(.cond jR (.seq aT9 .ret) .skip)
def T7:CC:=(.reg [(qq kE (.mv cT)),(qq jS (.un .not lO))])
def T8:CC:=(.reg [(qq gC (.mv z0)),(qq kR (.mv z1)),(qq lJ (.mv z2)),(qq kW (.mv z4)),(ee kS (.call 85 [lG,lQ,n6,og]))])
def T9:CC:=(.reg [(qq kT (.mv z3)),(qq kU (.bi .sub mU (x6 1))),(qq a3 (.mv oT))])
def Ta:CC:=(.cond lF (.seq T8 T9) .skip)
def Tb:CC:=(.reg [(qq jV (.mv z0)),(qq ke (.mv z1)),(qq mH (.mv z2)),(qq kX (.mv z4)),(ee jW (.call 86 [ot,n8,mV,ng])),(qq mG (.mv oU)),(qq gb (.ex 0 n7)),(qq ow (.ex 1 n7)),(qq d8 (.mv pG)),(qq dK (.mv qB))])
def Tc:CC:=(.reg [(qq oy (.mv dM)),(qq kF (.bi .eql pf (x6 2)))])
def Td:CC:=(.reg [(qq kY (.mv z0)),(qq lK (.mv z1)),(qq nn (.mv z2)),(qq pM (.mv z4)),(ee oz (.call 87 [qE,pg,pH,rV]))])
def Te:CC:=(.reg [(qq n9 (.mv z2)),(qq kZ (.bi .sub tS (x6 1))),(qq oX (.mv cI)),(qq oA (.mv z1)),(qq pN (.bi .sub rX rP)),(qq oB (.bi .sub rW pI)),(qq d8 (.mv rY))])
def Tf:CC:=(.reg [(qq dK (.mv (x6 1)))])
def Tg:CC:=(.cond qC (.seq Td (.seq Te Tf)) .skip)
def Th:CC:=(.reg [(qq lL (.mv cT)),(qq oY (.mv uo)),(aj sf (.mv cM) oY),(qq pO (.pk uQ uR xF)),(qq rR (.mv uS)),(aj sg (.mv dM) rR),(aj ur (.bi .eql xp (x6 1)) rR),(qq va (.pk xn xR xF))])
def Ti:CC:=(.reg [(qq rS (.mv z0)),(qq rT (.mv z1)),(qq vc (.mv z2)),(qq xw (.mv z4)),(ee pP (.call 88 [AR,AU,AV,AY]))])
def Tj:CC:=(.seq Ti (.cond AZ .ret .skip))
def Tk:CC:=(.seq Th (.cond yW Tj .skip))
def Tl:CC:=(.dreg 17 [(0,0,(qq zD (.mv z1))),(1,1,(qq AW (.bi .gtr Dq (x6 0)))),(2,3,(qq oC (.mv FY))),(3,7,(aj pi (.mv z4) oC)),(4,7,(aj ut (.mv z0) oC)),(5,7,(aj AX (.mv z1) oC)),(6,39,(aj Ba (.bi .sub G3 (x6 1)) oC)),(7,119,(aj Bb (.iaS 2 Dr JD) oC)),(8,247,(aj xX (.ldn 2 JE) oC)),(9,7,(aj Dk (.mv z0) oC)),(10,7,(aj Dl (.mv cI) oC)),(11,1543,(aj Dm (.iaS 2 LY LZ) oC)),(12,3591,(aj xY (.ldn 2 M7) oC)),(13,8191,(dZ DC (.cv G0 [JF,M8]) oC)),(14,16383,(aj DD (.bi .lss Mh (x6 0)) oC)),(15,32767,(aj DE (.un .not Mi) oC)),(16,65535,(qq Ga (.pk FZ Mj xF)))])
def Tm:CC:=(.reg [(qq Mc (.mv z0)),(qq Gb (.mv z1)),(qq tT (.mv z2)),(qq sc (.mv cI)),(qq pL (.mv z4)),(ee mY (.call 89 [ZU,Ml,wW,wX,xO])),(qq dL (.mv xP))])
def Tp:CC:=(.reg [(qq uY (.mv dA)),(qq a1 (.mv xQ))])
def Tq:CC:=(.cond Mk (.seq Tm (.seq Tp (.exit 1))) .skip)
def Ts:CC:=(.reg [(qq za (.mv z0)),(qq zb (.mv z1)),(qq jU (.mv z2)),(qq xu (.mv cI)),(qq zc (.mv z4)),(ee zd (.call 90 [CL,CM,CN,CP,FT])),(qq uZ (.mv FU)),(qq tU (.ex 0 wY)),(qq ze (.ex 1 wY)),(qq dJ (.mv CQ)),(qq eD (.mv CR))])
def Tt:CC:=(.reg [(qq zf (.mv eJ)),(qq cW (.mv CS))])
def Tu:CC:=(.reg [(qq v7 (.mv dX)),(qq zg (.mv z1)),(qq v8 (.bi .sub CT CU)),(qq zh (.mv z2)),(qq zi (.mv dX)),(qq zj (.bi .sub CW CX)),(qq eZ (.mv CV)),(qq eN (.mv CY))])
def Tv:CC:=(.reg [(qq nl (.mv cH)),(qq zk (.bi .quo CZ (x6 8))),(qq fq (.mv D0))])
def Tw:CC:=(.reg [(qq zl (.mv fh)),(qq zm (.mv fL)),(qq tV (.bi .lss D1 D2))])
def Tx:CC:=(.reg [(qq jA (.mv fh)),(qq zn (.mv fO)),(qq tW (.bi .geq D3 D4)),(qq cE (.mv D5))])
def Tz:CC:=(.reg [(qq zo (.mv z0)),(qq tX (.mv z1)),(qq zp (.mv dX)),(qq zq (.mv z3)),(qq zr (.mv z4)),(ee oW (.call 54 [D6,D7,D8,D9,Da]))])
def TA:CC:=(.reg [(qq tY (.mv dX)),(qq zt (.bi .add Db (x6 1))),(qq a1 (.mv Dc))])
def TB:CC:=(.reg [(qq zu (.mv fL)),(qq se (.mv fO)),(qq zw (.bi .geq Dd De)),(qq cE (.mv Df))])
def TC:CC:=(.reg [(qq v9 (.mv z0)),(qq B2 (.mv dX)),(qq B4 (.bi .add FW (x6 1))),(qq Dy (.mv z2)),(qq qG (.mv z3)),(qq Dz (.mv z4)),(ee DA (.call 54 [Dg,FX,LU,LV,LW]))])
def TD:CC:=(.reg [(qq DB (.mv dX)),(qq a2 (.mv LX))])
def TE:CC:=(.cond AQ (.seq Tx (.seq Tz TA)) (.seq TB (.seq TC TD)))
def TF:CC:=(.seq Tt (.seq Tu (.seq Tv (.seq Tw TE))))
def TG:CC:=(.seq Tk (.seq (.seq Tl Tq) (.seq Ts TF)))
def TH:CC:=(.seq (.seq T7 Ta) (.seq Tb (.seq (.seq Tc Tg) TG)))
def TI:CC:=(.block 1 (.seq aT4 (.seq aT7 (.seq (.seq aT8 aU0) TH))))
def c54:CF:= .mk 8 [] (.seq aT2 (.seq aT3 (.block 0 (.loop TI))))
theorem e54(v0 v1 v2 v3 v4:V):aN 8 [v0,v1,v2,v3,v4]=(.n (.n (.n nW (some v3) nW) (some v1) nX) (some v0) (.n (.n nW (some v4) nW) (some v2) nX)):=rfl
def B54:=ai @e54 (ai (wu aT2.eq_1) (ai (wu aT3.eq_1) (ai (wu aT4.eq_1) (ai (wu aT5.eq_1) (ai (wu aT6.eq_1) (ai (wu aT7.eq_1) (ai (wu aT8.eq_1) (ai (wu aT9.eq_1) (ai (wu aU0.eq_1) (ai (wu T7.eq_1) (ai (wu T8.eq_1) (ai (wu T9.eq_1) (ai (wu Ta.eq_1) (ai (wu Tb.eq_1) (ai (wu Tc.eq_1) (ai (wu Td.eq_1) (ai (wu Te.eq_1) (ai (wu Tf.eq_1) (ai (wu Tg.eq_1) (ai (wu Th.eq_1) (ai (wu Ti.eq_1) (ai (wu Tj.eq_1) (ai (wu Tk.eq_1) (ai (wu Tl.eq_1) (ai (wu Tm.eq_1) (ai (wu Tp.eq_1) (ai (wu Tq.eq_1) (ai (wu Ts.eq_1) (ai (wu Tt.eq_1) (ai (wu Tu.eq_1) (ai (wu Tv.eq_1) (ai (wu Tw.eq_1) (ai (wu Tx.eq_1) (ai (wu Tz.eq_1) (ai (wu TA.eq_1) (ai (wu TB.eq_1) (ai (wu TC.eq_1) (ai (wu TD.eq_1) (ai (wu TE.eq_1) (ai (wu TF.eq_1) (ai (wu TG.eq_1) (ai (wu TH.eq_1) (wu TI.eq_1)))))))))))))))))))))))))))))))))))))))))))
def aD5:CC:=(.reg [(qq a5 (.mv z0)),(qq a6 (.ln .slice z5)),(qq a4 (.mv z6))])
def aD6:CC:=(.reg [(qq a7 (.mv z0)),(qq a8 (.mv z4)),(qq a9 (.mv z4)),(qq cE (.ci .u64 z9)),(ee cW (.call 55 [cT])),(qq dh (.mv z1)),(ee d8 (.call 54 [z7,(x6 0),z8,cM,cH]))])
def c26:CF:= .mk 4 [] (.seq aD5 aD6)
theorem e26(v0 v1:V):aN 4 [v0,v1]=(.n (.n jq (some v1) jq) (some v0) eX):=rfl
def B26:=ai @e26 (ai (wu aD5.eq_1) (wu aD6.eq_1))
theorem r55(Φ:Nat→Option CF)(h:Φ 55=some c55)(h92:Φ 92=some (.orc (ah h92))){F:RO}{M:Mem}{c:Nat}:
 Calls Φ F 55 [.i .u64 0] M c fun r M' c'=>r= .i .i64 0∧M'=M∧c'=c:=by
 refine aq h ?_
 have q:Ev.h92 [.i .u64 0]=some (.i .i64 0):=rfl
 simp only[WX,B55,h92,q]
theorem r83(Φ:Nat→Option CF)(h:Φ 83=some c83){F:RO}{M:Mem}{c:Nat}(f:V):
 Calls Φ F 83 [.l0,.i .i64 0,.i .i64 0,f] M c fun r M' c'=>M'=M∧c'=c:=by
 refine aq h ?_
 have q:aK .add (.i .i64 0) (.i .i64 1)=some (.i .i64 1):=bH 0 1 (by omega) (by omega)
 simp only[WX,B83,q]
 obtain⟨I,hI⟩:∃I:Nat→St→Prop,∀n s',I n s'↔(∃(u:List (Option V)),n=0∧s'= .mk ((cz1 u .l0 (.i .i64 0) (.i .i64 0) f (.i .i64 1))) [] M c):=⟨fun n s'=>_,fun _ _=>Iff.rfl⟩
 refine de I ?_ 0 _ ((hI _ _).2 ⟨(G4 (X4 (G1 (gu (eG (X4 (X2 []))))))),rfl,rfl⟩)
 intro n s' hIs
 obtain⟨u,rfl,rfl⟩:=(hI _ _).1 hIs
 clear hIs
 have d:decide ((1:Int)<0)=false:=rfl
 simp only[WX,Int.reduceLT,B83]
theorem r54(Φ:Nat→Option CF)(h:Φ 54=some c54)(h83:Φ 83=some c83){F:RO}{M:Mem}{c:Nat}(f:V):
 Calls Φ F 54 [.l0,.i .i64 0,.i .i64 0,.i .i64 0,f] M c fun r M' c'=>M'=M∧c'=c:=by
 refine aq h ?_
 simp only[WX,B54]
 obtain⟨I,hI⟩:∃I:Nat→St→Prop,∀n s',I n s'↔(∃(u:List (Option V)),n=0∧s'= .mk ((cz2 u .l0 (.i .i64 0) (.i .i64 0) (.i .i64 0) f (.b true) (.b true))) [] M c):=⟨fun n s'=>_,fun _ _=>Iff.rfl⟩
 refine de I ?_ 0 _ ((hI _ _).2 ⟨(G4 (G1 (X4 (X1 (G2 (ka (ka (ka (gu (eG (X2 (X1 [])))))))))))),rfl,rfl⟩)
 intro n s' hIs
 obtain⟨u,rfl,rfl⟩:=(hI _ _).1 hIs
 clear hIs
 have q:aK .sub (.i .i64 0) (.i .i64 0)=some (.i .i64 0):=kp 0 0 (by omega) (by omega)
 have d:decide ((0:Int)≤12)=true:=rfl
 simp only[WX,Int.reduceLE,B54,q]
 refine aC ((r83 Φ h83 f).mono ?_)
 rintro r M1 c1 ⟨rfl,rfl⟩
 simp only[WX]
theorem r26(Φ:Nat→Option CF)(h:Φ 26=some c26)(h54:Φ 54=some c54)(h83:Φ 83=some c83)(h55:Φ 55=some c55)(h92:Φ 92=some (.orc (ah h92))){F:RO}{M:Mem}{c:Nat}(f:V):
 Calls Φ F 26 [.l0,f] M c fun r M' c'=>M'=M∧c'=c:=by
 refine aq h ?_
 have q:BW .l0=some (.i .i64 0):=A6
 have w:IntKind.u64.wrap 0=0:=rfl
 simp only[WX,B26,q,w]
 refine aC ((r55 Φ h55 h92).mono ?_)
 rintro r M1 c1 ⟨rfl,rfl,rfl⟩
 simp only[WX]
 refine aC ((r54 Φ h54 h83 f).mono ?_)
 rintro r M2 c2 ⟨rfl,rfl⟩
 simp only[WX]
abbrev cz3(u:List (Option V))(x0 x2 x3 x4 x5 x6 x7 x9 x26 x27 x28:V):T:=(.n (.n (.n (.n (aO u 63 31 95 15 79 47 111) (some x7) (aO u 71 39 103 23 87 55 119)) (some x3) (.n (aO u 67 35 99 19 83 51 115) (uO u 11) (.n (j7 u 75 43 107) (some x27) (j7 u 91 59 123)))) (uO u 1) (.n (.n (aO u 65 33 97 17 81 49 113) (some x9) (aO u 73 41 105 25 89 57 121)) (some x5) (.n (aO u 69 37 101 21 85 53 117) (uO u 13) (aO u 77 45 109 29 93 61 125)))) (some x0) (.n (.n (.n (aO u 64 32 96 16 80 48 112) (uO u 8) (aO u 72 40 104 24 88 56 120)) (some x4) (.n (aO u 68 36 100 20 84 52 116) (uO u 12) (.n (j7 u 76 44 108) (some x28) (j7 u 92 60 124)))) (some x2) (.n (.n (aO u 66 34 98 18 82 50 114) (uO u 10) (.n (j7 u 74 42 106) (some x26) (j7 u 90 58 122))) (some x6) (.n (aO u 70 38 102 22 86 54 118) (uO u 14) (aO u 78 46 110 30 94 62 126)))))
def cf8:CC:=(.reg [(aa a2 (.al 28 [.l0,.l0,.l0])),(qq a3 (.mv (x6 0))),(qq a4 (.mv (x6 0)))])
def cH8:=wu cf8.eq_1
def cf9:CC:=(.reg [(qq eD (.mv z0)),(qq eZ (.ln .str eJ)),(qq eN (.bi .gtr fh (x6 131072)))])
def cI2:=wu cf9.eq_1
def cg0:CC:=(.reg [(qq fq (.bld [.l0,.l0,.l0] [])),(ez (.st 3 z2 fO)),(qq a3 (.mv (x6 0))),(qq a4 (.mv (x6 3)))])
def dd9:=wu cg0.eq_1
def cg1:CC:=(.seq cf9 (.cond fL (.seq cg0 .ret) .skip))
def cJ3:=wu cg1.eq_1
def cg2:CC:=(.reg [(aa ej (.mkm)),(aa eE (.mkm)),(qq eT (.bld [.l0,.l0,.l0,.m0,.m0] [(3,1,gD),(4,1,gw)])),(aa ga (.bx 68 5 ia)),(aa a5 (.al 64 [.p0])),(ez (.st 1 z5 ib))])
def cK3:=wu cg2.eq_1
def cg3:CC:=(.reg [(aa a7 (.al 3 [(.i .i64 0)])),(ez (.st 1 z7 (x6 0)))])
def cL4:=wu cg3.eq_1
def cg4:CC:=(.reg [(qq fP (.mv z0)),(ee ft (.call 21 [gV]))])
def cL6:=wu cg4.eq_1
def bu0:CC:=(.reg [(qq a9 (.mv iK))])
def de0:=wu bu0.eq_1
def cg5:CC:=(.reg [(qq fJ (.mv z9)),(ee gR (.call 22 [j8])),(aa cE (.al 74 [(.b false),(.b false),(.b false),(.b false),(.i .i64 0),(.i .i64 0),(.i .i64 0),(.i .i64 0),(.i .i64 0),(.s 0 0),(.s 0 0),.l0])),(ez (.st 12 cT iV))])
def de1:=wu cg5.eq_1
def b81:CC:=(.dreg 12 [(0,0,(qq ig (.ld1 z5))),(1,1,(qq iE (.nck jR))),(2,3,(qq fj (.fa 3 kC))),(3,7,(qq fQ (.ld1 kQ))),(4,0,(qq kc (.fa 9 cT))),(5,16,(qq kd (.ld1 lM))),(6,63,(qq kE (.lk .str (.i .i64 0) true jY lN))),(7,127,(qq gW (.mv lO))),(8,255,(qq jS (.ex 0 iX))),(9,255,(qq gC (.ex 1 iX))),(10,511,(qq cW (.mv lF))),(11,2047,(qq dh (.mv lG)))])
def bp1:=wu b81.eq_1
def b82:CC:=(.reg [(qq kR (.mv cH)),(qq lJ (.un .not lQ)),(qq kW (.mv n6)),(aj kS (.fa 9 cT) kW),(aj kT (.ld1 oq) kW),(aj kU (.bi .neq mU (.c (.s 0 0))) kW),(qq mG (.pk og oT xF))])
def bp2:=wu b82.eq_1
def b83:CC:=(.dreg 8 [(0,0,(qq jV (.ld1 z5))),(1,1,(qq ke (.nck ot))),(2,3,(qq mH (.fa 3 n8))),(3,7,(qq kX (.ld1 mV))),(4,0,(qq jW (.fa 9 cT))),(5,16,(qq gb (.ld1 oU))),(6,0,(qq ow (.ld1 z7))),(7,127,(ez (.mu .str ng pG qB)))])
def cH9:=wu b83.eq_1
def b84:CC:=(.seq b82 (.cond n7 b83 .skip))
def bp3:=wu b84.eq_1
def b85:CC:=(.dreg 6 [(0,0,(qq oy (.ld1 z7))),(1,0,(qq kF (.ldn 12 cT))),(2,0,(qq kY (.ld1 z7))),(3,6,(ee lK (.call 23 [qC,qE]))),(4,15,(qq nn (.bi .add pf pg))),(5,31,(ez (.st 1 z7 pH)))])
def bp4:=wu b85.eq_1
def b86:CC:=(.reg [(qq pM (.ld1 z6)),(qq oz (.ldn 12 cT)),(aa n9 (.bsl 74 1 12 [(.b false),(.b false),(.b false),(.b false),(.i .i64 0),(.i .i64 0),(.i .i64 0),(.i .i64 0),(.i .i64 0),(.s 0 0),(.s 0 0),.l0] [(0,um)])),(ee kZ (.app 74 12 104 rV tS)),(ez (.st 1 z6 rW))])
def cI0:=wu b86.eq_1
def HW:CC:=(.block 1 (.seq cg5 (.seq (.seq b81 b84) (.seq b85 b86))))
def cI1:=wu HW.eq_1
def b87:CC:=(.rf gy [ie,gz] bu0 HW)
def bp5:=wu b87.eq_1
def VS:CC:=(.reg [(qq d8 (.mv (x6 0))),(qq dK (.mv (x6 0)))])
def bp6:=wu VS.eq_1
def b88:CC:=(.reg [(qq oX (.ld1 z6)),(qq oA (.ln .slice rX)),(qq pN (.mv (x6 0)))])
def bp7:=wu b88.eq_1
def b89:CC:=(.reg [(qq oB (.bi .lss pI rP))])
def bp8:=wu b89.eq_1
def b90:CC:=(.cond rY .skip (.exit 2))
def bp9:=wu b90.eq_1
def b91:CC:=(.reg [(qq lL (.mv pI)),(qq oY (.iaS 12 rX pI)),(qq sf (.ldn 12 uQ)),(aa dJ (.al 74 [(.b false),(.b false),(.b false),(.b false),(.i .i64 0),(.i .i64 0),(.i .i64 0),(.i .i64 0),(.i .i64 0),(.s 0 0),(.s 0 0),.l0])),(qq dL (.mv uo)),(ez (.st 12 dX uR))])
def bq0:=wu b91.eq_1
def b92:CC:=(.reg [(qq pO (.ld1 z5)),(qq rR (.ldn 12 dX)),(ee sg (.call 24 [uS,xn])),(qq dK (.mv xp))])
def bq1:=wu b92.eq_1
def b93:CC:=(.reg [(qq ur (.mv dM)),(qq va (.bi .neq xR (x6 0)))])
def bq2:=wu b93.eq_1
def b94:CC:=(.reg [(qq rS (.mv dA)),(qq d8 (.mv AR))])
def cI3:=wu b94.eq_1
def b95:CC:=(.cond yW (.seq b94 (.exit 2)) .skip)
def bq3:=wu b95.eq_1
def b96:CC:=(.reg [(qq rT (.bi .add pI (x6 1))),(qq pN (.mv AU))])
def bq4:=wu b96.eq_1
def b97:CC:=(.seq (.block 3 (.seq b91 (.seq b92 (.seq b93 b95)))) b96)
def bq5:=wu b97.eq_1
def VT:CC:=(.seq b88 (.block 2 (.loop (.seq b89 (.seq b90 b97)))))
def bq6:=wu VT.eq_1
def b98:CC:=(.reg [(qq vc (.mv dM)),(qq xw (.bi .eql AV (x6 0))),(qq pP (.mv AY)),(aj zD (.mv z0) pP),(aj AW (.bi .neq Dq (.c (.s 0 0))) pP),(qq oC (.pk AZ FY xF)),(qq pi (.mv FZ)),(aj ut (.mv z0) pi),(dZ AX (.call 25 [Dr,(.c (.s 1 10))]) pi),(aj Ba (.un .not G3) pi),(qq Bb (.pk G0 JD xF))])
def cI4:=wu b98.eq_1
def b99:CC:=(.reg [(qq xX (.ld1 z6)),(qq Dk (.ln .slice JF)),(qq d8 (.mv LY)),(qq dK (.mv (x6 4)))])
def cI5:=wu b99.eq_1
def ba0:CC:=(.seq b98 (.cond JE b99 .skip))
def cI6:=wu ba0.eq_1
def ba1:CC:=(.reg [(qq Dl (.mv dM)),(qq Dm (.bi .neq LZ (x6 0)))])
def cI7:=wu ba1.eq_1
def ba2:CC:=(.reg [(qq xY (.bld [.l0,.l0,.l0] [])),(qq DC (.mv cI)),(qq DD (.mv dM)),(ez (.st 3 z2 M8)),(qq a3 (.mv Mh)),(qq a4 (.mv Mi))])
def cI8:=wu ba2.eq_1
def ba3:CC:=(.cond M7 (.seq ba2 .ret) .skip)
def cI9:=wu ba3.eq_1
def ba4:CC:=(.reg [(qq DE (.ld1 z5)),(qq Ga (.nck Mj)),(qq Mc (.fa 0 Mk)),(qq Gb (.fa 1 ZU)),(qq tT (.ld1 Ml)),(ee sc (.call 26 [wW,(.c (.f 27 [] []))]))])
def cJ0:=wu ba4.eq_1
def ba5:CC:=(.reg [(qq pL (.ld1 z5)),(qq mY (.nck xO)),(qq uY (.fa 0 xP)),(qq uZ (.ldn 3 xQ)),(ez (.st 3 z2 wY)),(qq a3 (.mv (x6 0))),(qq a4 (.mv (x6 0)))])
def cJ1:=wu ba5.eq_1
def VU:CC:=(.seq ba0 (.seq (.seq ba1 ba3) (.seq ba4 (.seq ba5 .ret))))
def cJ2:=wu VU.eq_1
def VV:CC:=(.seq (.seq cg4 (.block 0 b87)) (.seq VS (.seq .skip (.seq VT VU))))
def bq7:=wu VV.eq_1
def ba6:CC:=(.seq (.reg [(aa a6 (.al 69 [.l0]))]) (.seq cg3 VV))
def bq8:=wu ba6.eq_1
def ba7:CC:=(.reg [(qq oX (.ld1 z6)),(qq oA (.ln .slice rX)),(qq pN (.mv (x6 0)))])
def cJ4:=wu ba7.eq_1
def ba8:CC:=(.reg [(qq oB (.bi .lss pI rP))])
def cJ5:=wu ba8.eq_1
def ba9:CC:=(.cond rY .skip (.exit 2))
def cJ6:=wu ba9.eq_1
def bb0:CC:=(.reg [(qq lL (.mv pI)),(qq oY (.iaS 12 rX pI)),(qq sf (.ldn 12 uQ)),(aa dJ (.al 74 [(.b false),(.b false),(.b false),(.b false),(.i .i64 0),(.i .i64 0),(.i .i64 0),(.i .i64 0),(.i .i64 0),(.s 0 0),(.s 0 0),.l0])),(qq dL (.mv uo)),(ez (.st 12 dX uR))])
def cJ7:=wu bb0.eq_1
def bb1:CC:=(.reg [(qq pO (.ld1 z5)),(qq rR (.ldn 12 dX)),(ee sg (.call 24 [uS,xn])),(qq dK (.mv xp))])
def cJ8:=wu bb1.eq_1
def bb4:CC:=(.reg [(qq ur (.mv dM)),(qq va (.bi .neq xR (x6 0)))])
def cJ9:=wu bb4.eq_1
def bb7:CC:=(.reg [(qq rS (.mv dA)),(qq d8 (.mv AR))])
def cK0:=wu bb7.eq_1
def bb8:CC:=(.cond yW (.seq bb7 (.exit 2)) .skip)
def cK1:=wu bb8.eq_1
def bb9:CC:=(.reg [(qq rT (.bi .add pI (x6 1))),(qq pN (.mv AU))])
def cK2:=wu bb9.eq_1
def bc0:CC:=(.seq (.block 3 (.seq bb0 (.seq bb1 (.seq bb4 bb8)))) bb9)
def cK4:=wu bc0.eq_1
def bc1:CC:=(.seq ba7 (.block 2 (.loop (.seq ba8 (.seq ba9 bc0)))))
def cK5:=wu bc1.eq_1
def bc2:CC:=(.reg [(qq vc (.mv dM)),(qq xw (.bi .eql AV (x6 0))),(qq pP (.mv AY)),(aj zD (.mv z0) pP),(aj AW (.bi .neq Dq (.c (.s 0 0))) pP),(qq oC (.pk AZ FY xF)),(qq pi (.mv FZ)),(aj ut (.mv z0) pi),(dZ AX (.call 25 [Dr,(.c (.s 1 10))]) pi),(aj Ba (.un .not G3) pi),(qq Bb (.pk G0 JD xF))])
def cK6:=wu bc2.eq_1
def bc3:CC:=(.reg [(qq xX (.ld1 z6)),(qq Dk (.ln .slice JF)),(qq d8 (.mv LY)),(qq dK (.mv (x6 4)))])
def cK7:=wu bc3.eq_1
def bc4:CC:=(.seq bc2 (.cond JE bc3 .skip))
def cK8:=wu bc4.eq_1
def bc5:CC:=(.reg [(qq Dl (.mv dM)),(qq Dm (.bi .neq LZ (x6 0)))])
def cK9:=wu bc5.eq_1
def bc6:CC:=(.reg [(qq xY (.bld [.l0,.l0,.l0] [])),(qq DC (.mv cI)),(qq DD (.mv dM)),(ez (.st 3 z2 M8)),(qq a3 (.mv Mh)),(qq a4 (.mv Mi))])
def cL0:=wu bc6.eq_1
def bc7:CC:=(.cond M7 (.seq bc6 .ret) .skip)
def cL1:=wu bc7.eq_1
def bc8:CC:=(.reg [(qq DE (.ld1 z5)),(qq Ga (.nck Mj)),(qq Mc (.fa 0 Mk)),(qq Gb (.fa 1 ZU)),(qq tT (.ld1 Ml)),(ee sc (.call 26 [wW,(.c (.f 27 [] []))]))])
def cL2:=wu bc8.eq_1
def bc9:CC:=(.reg [(qq pL (.ld1 z5)),(qq mY (.nck xO)),(qq uY (.fa 0 xP)),(qq uZ (.ldn 3 xQ)),(ez (.st 3 z2 wY)),(qq a3 (.mv (x6 0))),(qq a4 (.mv (x6 0)))])
def cL3:=wu bc9.eq_1
def bd0:CC:=(.seq bc4 (.seq (.seq bc5 bc7) (.seq bc8 (.seq bc9 .ret))))
def cL5:=wu bd0.eq_1
def bd1:CC:=(.scope (.seq cg1 (.seq cg2 ba6)) (.tab 0 (.seq .skip (.seq bc1 bd0)) .skip))
def bq9:=wu bd1.eq_1
def c7:CF:= .mk 7 [.cn a2 3,.t a3,.t a4] (.seq cf8 bd1)
theorem e7(v0:V):aN 7 [v0]=(.n nX (some v0) nX):=rfl
def B7:=ai @e7 (ai @cH8 (ai @cI2 (ai @dd9 (ai @cJ3 (ai @cK3 (ai @cL4 (ai @cL6 (ai @de0 (ai @de1 (ai @bp1 (ai @bp2 (ai @cH9 (ai @bp3 (ai @bp4 (ai @cI0 (ai @cI1 (ai @bp5 (ai @bp6 (ai @bp7 (ai @bp8 (ai @bp9 (ai @bq0 (ai @bq1 (ai @bq2 (ai @cI3 (ai @bq3 (ai @bq4 (ai @bq5 (ai @bq6 (ai @cI4 (ai @cI5 (ai @cI6 (ai @cI7 (ai @cI8 (ai @cI9 (ai @cJ0 (ai @cJ1 (ai @cJ2 (ai @bq7 (ai @bq8 (ai @cJ4 (ai @cJ5 (ai @cJ6 (ai @cJ7 (ai @cJ8 (ai @cJ9 (ai @cK0 (ai @cK1 (ai @cK2 (ai @cK4 (ai @cK5 (ai @cK6 (ai @cK7 (ai @cK8 (ai @cK9 (ai @cL0 (ai @cL1 (ai @cL2 (ai @cL3 (ai @cL5 (@bq9)))))))))))))))))))))))))))))))))))))))))))))))))))))))))))))
def G5{α:Type}(R:Mem→Nat→List V→α→Prop)(M:Mem)(c0 c ty sz:Nat)(v:V)(l:List α):Prop:=
 ∃b es,d6 M c0 c b ty sz v es∧es.length=l.length∧l.length≤1000000∧ ∀i (h:i<es.length) (h':i<l.length),∃lo hi,c0≤lo∧lo≤hi∧hi≤c∧(b<lo∨hi≤b)∧ ∀M',(∀x,lo≤x→x<hi→M'.get x=M.get x)→R M' hi es[i] l[i]
theorem G5.nil{α:Type}{R:Mem→Nat→List V→α→Prop}{M:Mem}{c0 c ty sz:Nat}:G5 R M c0 c ty sz .l0 []:=⟨0,[],d6.nil,rfl,aP _,fun i h=>(by cases h)⟩
theorem G5.keep{α:Type}{R:Mem→Nat→List V→α→Prop}{M M':Mem}{c0 c c' ty sz:Nat}{v:V}{l:List α}(h:G5 R M c0 c ty sz v l)(hc:c≤c')(hM:∀x,c0≤x→x<c→M'.get x=M.get x):G5 R M' c0 c' ty sz v l:=by
 obtain⟨b,es,hA,q1,q2,q3⟩:=h
 refine⟨b,es,?_,q1,q2,fun i hi hi'=>?_⟩
 ·rcases hA with⟨a0,a1|⟨a1,a2,a3,a4⟩⟩
  ·exact⟨a0,.inl a1⟩
  ·exact⟨a0,.inr ⟨a1,by omega,a3,(hM b a1 a2).trans a4⟩⟩
 ·obtain⟨lo,hi2,e1,e2,e3,e4,e5⟩:=q3 i hi hi';exact⟨lo,hi2,e1,e2,by omega,e4,fun M2 h2=>e5 M2 fun x a1 a2=>(h2 x a1 a2).trans (hM x (by omega) (by omega))⟩
theorem G5.one{α:Type}{R:Mem→Nat→List V→α→Prop}{M:Mem}{c0 c ty sz:Nat}{v:V}{l:List α}(h:G5 R M c0 c ty sz v l):cU v=true∧flatten v=[v]∧bh [v]=true:=by
 obtain⟨b,es,hA,_⟩:=h
 rcases hA with⟨_,⟨_,rfl⟩|⟨_,_,rfl,_⟩⟩<;>exact⟨rfl,rfl,rfl⟩
theorem G5.push{α:Type}{F:RO}{R:Mem→Nat→List V→α→Prop}{M1 M:Mem}{c0 c1 c lo hi ty sz bytes:Nat}{v y:V}{l:List α}{e:List V}{a:α}(h:G5 R M1 c0 c1 ty sz v l)(hc0:c0≤c1)(hc:c1≤c)(hM:∀x,c0≤x→x<c1→M.get x=M1.get x)(ok:dH F M c)(hsz:0<sz)(hy:dp F M c sz y [e])(h1:bh e=true)(hlo:c1≤lo)(hlh:lo≤hi)(hhi:hi≤c)(hR:∀M',(∀x,lo≤x→x<hi→M'.get x=M.get x)→R M' hi e a)(hl:l.length≤900000)(hb:bytes≤1000):
 xe (tZ F M c ty sz bytes v y) fun v' M' c'=>G5 R M' c0 c' ty sz v' (l++[a])∧dH F M' c'∧c≤c'∧(∀x,x<c0→M'.get x=M.get x)∧(∀x,c1≤x→x<c→M'.get x=M.get x):=by
 obtain⟨b,es,hA,q1,q2,q3⟩:=h
 obtain⟨b1,hA1,hb1⟩:∃b1,d6 M c0 c b1 ty sz v es∧((b1=b∧c0≤b∧b<c1∧M.get b=some (Ya ty es.flatten))∨(es=[]∧c≤b1)):=by
  rcases hA with⟨a0,⟨a1,a2⟩|⟨a1,a2,a3,a4⟩⟩
  ·exact⟨c,⟨a0,.inl ⟨a1,a2⟩⟩,.inr ⟨a1,ak _⟩⟩
  ·have:=(hM b a1 a2).trans a4;exact⟨b,⟨a0,.inr ⟨a1,by omega,a3,this⟩⟩,.inl ⟨rfl,a1,a2,this⟩⟩
 have gA:Gr c0 M c M:=⟨by omega,fun _ _=>rfl,ok.hiM⟩
 refine(zG (bytes:=bytes) hA1 gA hsz hy (by show bh ([e].flatten)=true;rw[List.flatten_cons,List.flatten_nil,dw];exact h1) (jp (bp (Nat.mul_le_mul (show 3*(es.length+[e].length)+2000≤2800000 by rw[List.length_singleton];omega) hb) (by decide)) (by rw[List.length_singleton];omega))).mono ?_
 rintro v' M' c' ⟨b',hA',g',hle,hf,hb'⟩
 have gx:Dv (fun x=>x=b1) c M c' M':=⟨hle,fun x a b=>hf x a b,g'.new⟩
 have okM:dH F M' c':=gx.ok ok fun x a e=>by
  rcases hb1 with⟨rfl,_,_,hm⟩|⟨_,a2⟩
  ·rw[e];exact⟨_,hm⟩
  ·omega
 refine⟨⟨b',es++[e],hA',by rw[aV,aV,q1];rfl,by rw[aV,List.length_singleton];omega,fun i hi1 hi2=>?_⟩,okM,hle,fun x hx=>g'.old x hx,fun x x1 x2=>hf x x2 (by rcases hb1 with⟨rfl,_,_,_⟩|⟨_,a2⟩<;>omega)⟩
 by_cases hie:i<es.length
 ·obtain⟨lo',hi',e1,e2,e3,e4,e5⟩:=q3 i hie (by omega);have hbl:b1<lo'∨hi'≤b1:=by rcases hb1 with⟨rfl,_,_⟩|⟨_,a2⟩<;>omega
  have hbl':b'<lo'∨hi'≤b':=by rcases hb' with rfl|h<;>omega
  refine⟨lo',hi',e1,e2,by omega,hbl',fun M2 h2=>?_⟩;rw[np hie,np (by omega)];exact e5 M2 fun x x1 x2=>(h2 x x1 x2).trans ((hf x (by omega) (by omega)).trans (hM x (by omega) (by omega)))
 ·rw[aV,List.length_singleton]at hi1;obtain rfl:i=es.length:=by omega
  have hbl':b'<lo∨hi≤b':=by
   rcases hb' with rfl|h
   ·rcases hb1 with⟨rfl,_,_,_⟩|⟨_,a2⟩<;>omega
   ·omega
  refine⟨lo,hi,by omega,hlh,by omega,hbl',fun M2 h2=>?_⟩;have hnb:∀x,lo≤x→x<hi→x≠b1:=fun x x1 x2=>by rcases hb1 with⟨rfl,_,_,_⟩|⟨_,a2⟩<;>omega
  have:=hR M2 fun x x1 x2=>(h2 x x1 x2).trans (hf x (by omega) (hnb x x1 x2));rw[l7 (ak _)];rw[l7 (by omega)];simp only[q1,Nat.sub_self,List.getElem_cons_zero];exact this
def av0(M:Mem)(hi:Nat)(e:List V)(x:uq):Prop:=∃lo,yX lo M hi e x
theorem BS{lo hi:Nat}{M:Mem}{e:List V}{x:uq}(h:yX lo M hi e x):e.length=12∧bh e=true∧e[9]?=some (.s 0 0):=by
 cases x with
 |inl x=>obtain⟨_,rfl⟩:=h;exact⟨rfl,rfl,rfl⟩
 |inr bs=>obtain⟨b,_,_,rfl,_⟩:=h;exact⟨rfl,rfl,rfl⟩
theorem IA{lo hi:Nat}{M M':Mem}{e:List V}{x:uq}(h:yX lo M hi e x)(hM:∀y,lo≤y→y<hi→M'.get y=M.get y):yX lo M' hi e x:=by
 cases x with
 |inl x=>exact h
 |inr bs=>obtain⟨b,h1,h2,h3,h4,h5⟩:=h;exact⟨b,h1,h2,h3,by rw[hM b h1 h2];exact h4,h5⟩
theorem C7:∀(e a l:List V),e.length=l.length→over (a++l) a.length e=a++e
 |[],a,l,h=>by rw[List.length_eq_zero_iff.1 h.symm];rfl
 |v::e,a,[],h=>by cases h
 |v::e,a,w::l,h=>by
  rw[iD];have:=C7 e (a++[v]) l (by simpa using h);rw[aV,List.length_singleton]at this;rw[show(a++w::l).set a.length v=(a++[v])++l by simp,this];simp
theorem yD(l e:List V)(h:e.length=l.length):over l 0 e=e:=C7 e [] l h
structure P7(F:RO)(M0 M:Mem)(c cS cc:Nat)(acc:V)(at_:Nat)(xs:List uq):Prop where
 ok:dH F M cc
 le:c+7≤cS∧cS≤cc
 old:∀x,x<c→M.get x=M0.get x
 r0:M.get c=some (aw 28 [.l0,.l0,.l0])
 m1:M.get (c+1)=some (.map [] 0)
 m2:M.get (c+2)=some (.map [] 0)
 r3:M.get (c+3)=some (aw 68 (dg .l0 (c+1) (c+2)))
 r4:M.get (c+4)=some (aw 64 [.p (c+3) 0])
 r5:M.get (c+5)=some (aw 69 [acc])
 r6:M.get (c+6)=some (aw 3 [.i .i64 (at_:Int)])
 acs:G5 av0 M cS cc 74 12 acc xs
theorem cg9(Φ:Nat→Option CF){L:List gk}(h22:Φ 22=some c22)(h49:Φ 49=some c49)(h23:Φ 23=some c23)(e:RdP Φ L){F:RO}{M0 M:Mem}{rd:Option Nat}{ds:List Nat}{c cS cc at_:Nat}{acc fv sv kv:V}{xs:List uq}(ht:bE F L=true)(hE1:cD F 2)(hE2:cD F 3)(hlow:∀g,g<1000→M.get g=none)
 (h:P7 F M0 M c cS cc acc at_ xs) {t:List UInt8} {x:uq} (hx:TxL t x) (hat:at_≤131072) (hxs:xs.length≤131072) (u:List (Option V)) (Q:Ex→St→Prop)
 (hQ:∀(t':T) M' c' acc',P7 F M0 M' c cS c' acc' (at_+(j0 x).length) (xs++[x])→(∀y,y<cS→y≠c+5→y≠c+6→M'.get y=M.get y)→cc≤c'→Q .nrm (.mk t' ds M' c')):
 Wp HW (K Φ rd 7 F) (.mk ((cz3 u sv (.p c 0) (.i .i64 0) (.i .i64 0) (.p (c+4) 0) (.p (c+5) 0) (.p (c+6) 0) (sV t) fv kv (sV t))) ds M cc) Q:=by
 obtain⟨ok,⟨le1,le2⟩,old,r0,m1,m2,r3,r4,r5,r6,acs⟩:=h
 simp only[WX,B7]
 refine aC ((r22 Φ h22 h49 e ok ht hE1 hE2 hlow hx).mono ?_)
 rintro r M1 c1 ⟨es,rfl,hl,hg⟩
 obtain⟨n1,n2,n3⟩:=BS hl
 have gle:=hg.le
 have ok1:=hg.ok ok
 have ov:over [V.b false,.b false,.b false,.b false,.i .i64 0,.i .i64 0,.i .i64 0,.i .i64 0,.i .i64 0,.s 0 0,.s 0 0,.l0] 0 es=es:=yD _ _ n1
 have st0:=bG (av M1 c1 fU) 0 es (by show 0+es.length≤12;omega) n2
 rw[ov]at st0
 unfold fU at st0
 simp only[WX,n1,st0]
 have gN:Gr c1 M1 (c1+1) ((M1.set c1 fU).set c1 (aw 74 es)):=((Gr.refl ok1).set c1 fU (ak _) (bf _) (bD _)).set c1 (aw 74 es) (ak _) (bf _) (ak _)
 have nA:((M1.set c1 fU).set c1 (aw 74 es)).get c1=some (aw 74 es):=av _ _ _
 unfold fU at gN nA
 generalize(M1.set c1 (aw 74 [V.b false,.b false,.b false,.b false,.i .i64 0,.i .i64 0,.i .i64 0,.i .i64 0,.i .i64 0,.s 0 0,.s 0 0,.l0])).set c1 (aw 74 es)=N at gN nA⊢
 have gT:=hg.trans gN
 have k4:=aX (F:=F) ((gT.old (c+4) (by omega)).trans r4) 0
 have k3:=aX (F:=F) ((gT.old (c+3) (by omega)).trans r3) 3
 rw[show(dg .l0 (c+1) (c+2))[3]?=some (.m (c+1))from rfl]at k3
 have k6:=aX (F:=F) ((gT.old (c+6) (by omega)).trans r6) 0
 have k5:=aX (F:=F) ((gT.old (c+5) (by omega)).trans r5) 0
 have kA:=aX (F:=F) nA 9
 rw[n3]at kA
 have kn:=jt (F:=F) nA 12 n1
 have q1:=fun Y=>BV (F:=F) .str (.i .i64 0) true Y ((gT.old (c+1) (by omega)).trans m1)
 have g13:Gr c1 M1 (c1+1+12+6) N:=gN.up (by omega)
 have okN:=g13.ok ok1
 simp only[WX,Nat.reduceAdd,bp1,bp2,bp3,bp4,lZ,ec,k4,k3,kA,q1,Ed,s00,k6,kn]
 refine cL7 _ _ _ _ _ _ _ _ _ _ _ okN ?_
 intro F1 N1 okn hlk
 refine(show xe (fc (mK Φ) F1 23 [.g es,.i .i64 (at_:Int)] N1 _ (Φ 23)) _ from(r23 Φ h23 okn hl (.i .i64 (at_:Int))).mono ?_)
 rintro v M2 c3 ⟨rfl,g2⟩
 refine⟨g2,fun M3 g3 _=>?_⟩
 have hlb:(j0 x).length≤4:=by
  cases x with
  |inl x=>exact ak 4
  |inr bs=>obtain⟨b,_,_,_,_,h5⟩:=hl;exact h5
 have q8:aK .add (.i .i64 (at_:Int)) (.i .i64 ((j0 x).length:Int))=some (.i .i64 ((at_+(j0 x).length:Nat):Int)):=by rw[bH _ _ (by omega) (by omega)];simp
 have gS:=(gT.trans ((Gr.refl (gN.ok ok1)).up (show c1+1≤c1+1+12+6 by omega))).trans g3
 have ok3:=gS.ok ok
 have gSl:=gS.le
 have g2l:=g3.le
 have b6:=(gS.old (c+6) (by omega)).trans r6
 have st1:=bG b6 0 [.i .i64 ((at_+(j0 x).length:Nat):Int)] (by simp) rfl
 rw[show over [V.i .i64 (at_:Int)] 0 [.i .i64 ((at_+(j0 x).length:Nat):Int)]=[.i .i64 ((at_+(j0 x).length:Nat):Int)]from rfl]at st1
 have ok4:dH F (M3.set (c+6) (aw 3 [.i .i64 ((at_+(j0 x).length:Nat):Int)])) c3:=ok3.put (by omega) b6
 have hfr:=ok4.free
 simp only[WX,Nat.reducePow,Nat.reduceDiv,Nat.reduceMod,Nat.reduceBEq,fg,q8,st1,hfr]
 have gU:=g13.trans g3
 have b5:(M3.set (c+6) (aw 3 [.i .i64 ((at_+(j0 x).length:Nat):Int)])).get (c+5)=some (aw 69 [acc]):=(am _ _ (by omega)).trans ((gS.old (c+5) (by omega)).trans r5)
 have bA:(M3.set (c+6) (aw 3 [.i .i64 ((at_+(j0 x).length:Nat):Int)])).get c1=some (aw 74 es):=(am _ _ (by omega)).trans ((g3.old c1 (by omega)).trans nA)
 have l5:=aX (F:=F) b5 0
 have lA:=jt (F:=F) bA 12 n1
 rw[show([acc]:List V)[0]?=some acc from rfl]at l5
 obtain⟨z1,z2,z3⟩:=acs.one
 have hM4:∀y,y<cc→y≠c+6→(M3.set (c+6) (aw 3 [.i .i64 ((at_+(j0 x).length:Nat):Int)])).get y=M.get y:=fun y y1 y2=>(am _ _ y2).trans (gS.old y y1)
 have hM4':∀y,cc≤y→y<c1→(M3.set (c+6) (aw 3 [.i .i64 ((at_+(j0 x).length:Nat):Int)])).get y=M1.get y:=fun y y1 y2=>(am _ _ (by omega)).trans (gU.old y y2)
 have b6':(M3.set (c+6) (aw 3 [.i .i64 ((at_+(j0 x).length:Nat):Int)])).get (c+6)=some (aw 3 [.i .i64 ((at_+(j0 x).length:Nat):Int)]):=av _ _ _
 generalize M3.set (c+6) (aw 3 [.i .i64 ((at_+(j0 x).length:Nat):Int)])=M4 at ok4 b5 bA l5 lA hM4 hM4' b6'⊢
 simp only[WX,B7,l5,lA,n1,n2]
 have g5:Gr c3 M4 (c3+1) (M4.set c3 (fV [.b false,.b false,.b false,.b false,.i .i64 0,.i .i64 0,.i .i64 0,.i .i64 0,.i .i64 0,.s 0 0,.s 0 0,.l0] 74 es)):=(Gr.refl ok4).set c3 _ (ak _) (bf _) (bD _)
 have hy:dp F (M4.set c3 (fV [.b false,.b false,.b false,.b false,.i .i64 0,.i .i64 0,.i .i64 0,.i .i64 0,.i .i64 0,.s 0 0,.s 0 0,.l0] 74 es)) (c3+1) 12 (.l c3 0 1 1) [es]:=
  Ys (d:=[.b false,.b false,.b false,.b false,.i .i64 0,.i .i64 0,.i .i64 0,.i .i64 0,.i .i64 0,.s 0 0,.s 0 0,.l0]) (ty:=74) (by rw[av];simp) (by omega) (fun e he=>by rw[List.mem_singleton]at he;subst he;exact n1) rfl
 refine aC ((G5.push (R:=av0) (lo:=cc) (hi:=c1) (a:=x) acs le2 (by omega) (fun y y1 y2=>(g5.old y (by omega)).trans (hM4 y y2 (by omega))) (g5.ok ok4) (by decide) hy n2 (ak _) gle (by omega) (fun M' hM'=>⟨cc,IA hl fun y y1 y2=>(hM' y y1 y2).trans ((g5.old y (by omega)).trans (hM4' y y1 y2))⟩) (by omega) (by decide)).mono ?_)
 rintro v' M6 c6 ⟨hA,ok6,hle6,f1,f2⟩
 obtain⟨w1,w2,w3⟩:=hA.one
 have lo6:∀y,y<cS→y≠c+6→M6.get y=M.get y:=fun y y1 y2=>(f1 y y1).trans ((g5.old y (by omega)).trans (hM4 y (by omega) y2))
 have b55:=(lo6 (c+5) (by omega) (by omega)).trans r5
 have st5:=bG b55 0 [v'] (by simp) w3
 rw[show over [acc] 0 [v']=[v']from rfl]at st5
 simp only[WX,w2,st5]
 refine hQ _ _ _ v' ⟨ok6.put (by omega) b55,⟨le1,by omega⟩,fun y hy=>?_,?_,?_,?_,?_,?_,av _ _ _,?_,hA.keep (ak _) fun y y1 y2=>am _ _ (by omega)⟩ (fun y y1 y2 y3=>(am _ _ y2).trans (lo6 y y1 y3)) (by omega)
 ·rw[am _ _ (by omega),lo6 y (by omega) (by omega),old y hy]
 ·rw[am _ _ (by omega),lo6 _ (by omega) (by omega),r0]
 ·rw[am _ _ (by omega),lo6 _ (by omega) (by omega),m1]
 ·rw[am _ _ (by omega),lo6 _ (by omega) (by omega),m2]
 ·rw[am _ _ (by omega),lo6 _ (by omega) (by omega),r3]
 ·rw[am _ _ (by omega),lo6 _ (by omega) (by omega),r4]
 ·rw[am _ _ (by omega),f1 _ (by omega),g5.old _ (by omega)];exact b6'
abbrev YB(u:List (Option V))(x2 x3 x4:V):T:=(.n (.n (.n (.n (aO u 63 31 95 15 79 47 111) (uO u 7) (aO u 71 39 103 23 87 55 119)) (some x3) (.n (aO u 67 35 99 19 83 51 115) (uO u 11) (aO u 75 43 107 27 91 59 123))) (uO u 1) (.n (.n (aO u 65 33 97 17 81 49 113) (uO u 9) (aO u 73 41 105 25 89 57 121)) (uO u 5) (.n (aO u 69 37 101 21 85 53 117) (uO u 13) (aO u 77 45 109 29 93 61 125)))) (uO u 0) (.n (.n (.n (aO u 64 32 96 16 80 48 112) (uO u 8) (aO u 72 40 104 24 88 56 120)) (some x4) (.n (aO u 68 36 100 20 84 52 116) (uO u 12) (aO u 76 44 108 28 92 60 124))) (some x2) (.n (.n (aO u 66 34 98 18 82 50 114) (uO u 10) (aO u 74 42 106 26 90 58 122)) (uO u 6) (.n (aO u 70 38 102 22 86 54 118) (uO u 14) (aO u 78 46 110 30 94 62 126)))))
abbrev bl1(u:List (Option V))(x0 x2 x3 x4 x5 x6 x7:V):T:=(.n (.n (.n (.n (aO u 63 31 95 15 79 47 111) (some x7) (aO u 71 39 103 23 87 55 119)) (some x3) (.n (aO u 67 35 99 19 83 51 115) (uO u 11) (aO u 75 43 107 27 91 59 123))) (uO u 1) (.n (.n (aO u 65 33 97 17 81 49 113) (uO u 9) (aO u 73 41 105 25 89 57 121)) (some x5) (.n (aO u 69 37 101 21 85 53 117) (uO u 13) (aO u 77 45 109 29 93 61 125)))) (some x0) (.n (.n (.n (aO u 64 32 96 16 80 48 112) (uO u 8) (aO u 72 40 104 24 88 56 120)) (some x4) (.n (aO u 68 36 100 20 84 52 116) (uO u 12) (aO u 76 44 108 28 92 60 124))) (some x2) (.n (.n (aO u 66 34 98 18 82 50 114) (uO u 10) (aO u 74 42 106 26 90 58 122)) (some x6) (.n (aO u 70 38 102 22 86 54 118) (uO u 14) (aO u 78 46 110 30 94 62 126)))))
abbrev cz4(u:List (Option V))(x0 x2 x3 x4 x5 x6 x7 x13 x14 x64 x65 x66:V):T:=(.n (.n (.n (.n (aO u 63 31 95 15 79 47 111) (some x7) (aO u 71 39 103 23 87 55 119)) (some x3) (.n (aO u 67 35 99 19 83 51 115) (uO u 11) (aO u 75 43 107 27 91 59 123))) (uO u 1) (.n (.n (.n (.n (.n .e (some x65) .e) (uO u 33) (pd u 97)) (uO u 17) (j7 u 81 49 113)) (uO u 9) (aO u 73 41 105 25 89 57 121)) (some x5) (.n (aO u 69 37 101 21 85 53 117) (some x13) (aO u 77 45 109 29 93 61 125)))) (some x0) (.n (.n (.n (.n (.n (.n .e (some x64) .e) (uO u 32) (pd u 96)) (uO u 16) (j7 u 80 48 112)) (uO u 8) (aO u 72 40 104 24 88 56 120)) (some x4) (.n (aO u 68 36 100 20 84 52 116) (uO u 12) (aO u 76 44 108 28 92 60 124))) (some x2) (.n (.n (.n (.n (.n .e (some x66) .e) (uO u 34) (pd u 98)) (uO u 18) (j7 u 82 50 114)) (uO u 10) (aO u 74 42 106 26 90 58 122)) (some x6) (.n (aO u 70 38 102 22 86 54 118) (some x14) (aO u 78 46 110 30 94 62 126)))))
theorem YF{α:Type}{l:List α}{j:Nat}(h:j<l.length):l.take (j+1)=l.take j++[l[j]]:=by rw[List.take_add_one,List.getElem?_eq_getElem h];rfl
def ew(xs:List uq):List UInt8:=xs.flatMap j0
theorem w5(l:List uq)(x:uq):ew (l++[x])=ew l++j0 x:=by simp[ew]
theorem cA5(Φ:Nat→Option CF)(h24:Φ 24=some c24)(h51:Φ 51=some c51)(h62:Φ 62=some (.orc (ah h62)))(h25:Φ 25=some c25)(h53:Φ 53=some c53)(h26:Φ 26=some c26)(h54:Φ 54=some c54)(h83:Φ 83=some c83)(h55:Φ 55=some c55)(h92:Φ 92=some (.orc (ah h92))){F:RO}{M0 M:Mem}{ds:List Nat}{c cS cc at_:Nat}{acc:V}{s:List UInt8}{xs:List uq}
 (h:P7 F M0 M c cS cc acc at_ xs) (hs:s=[]∨sC s [10]=true) (hsl:s.length≤1000000) (hxs:xs.length≤131072) (hB:(ew xs).length≤8000) (hal:∀j (hj:j<xs.length) y,xs[j]= .inl y→(ew (xs.take j)).length%4=0) (u:List (Option V)) (Q:Ex→St→Prop)
 (hQ:∀(u:List (Option V)) M' c' bv b1,dH F M' c'→cc≤c'→(∀y,y<cc→y≠c→y≠c+3→M'.get y=M.get y)→d6 M' cc c' b1 5 1 bv ((ew xs).map fun x=>[bV x])→M'.get c=some (aw 28 [bv,.l0,.l0])→Q .ret (.mk ((YB u (.p c 0) (.i .i64 0) (.i .i64 0))) ds M' c')):
 Wp (.seq VS (.seq .skip (.seq VT VU))) (K Φ none 7 F) (.mk ((bl1 u (sV s) (.p c 0) (.i .i64 0) (.i .i64 0) (.p (c+4) 0) (.p (c+5) 0) (.p (c+6) 0))) ds M cc) Q:=by
 obtain⟨ok,⟨le1,le2⟩,old,r0,m1,m2,r3,r4,r5,r6,acs⟩:=h
 obtain⟨b,es,hA,e1,e2,e3⟩:=acs
 have l5:=aX (F:=F) r5 0
 have hln:=(hA.sl (F:=F)).len
 rw[e1]at hln
 simp only[WX,bp6,bp7,bq6,l5,hln]
 obtain⟨I,hI⟩:∃I:Nat→St→Prop,∀n s',I n s'↔(∃(j c2 b1:Nat) (bv:V) (M2:Mem) (u:List (Option V)),n=xs.length-j∧j≤xs.length∧s'= .mk ((cz4 u (sV s) (.p c 0) (.i .i64 0) (.i .i64 0) (.p (c+4) 0) (.p (c+5) 0) (.p (c+6) 0) (.i .i64 0) (.i .i64 0) acc (.i .i64 (xs.length:Int)) (.i .i64 (j:Int)))) ds M2 c2∧dH F M2 c2∧cc≤c2∧(∀y,y<cc→y≠c+3→M2.get y=M.get y)∧M2.get (c+3)=some (aw 68 (dg bv (c+1) (c+2)))∧d6 M2 cc c2 b1 5 1 bv ((ew (xs.take j)).map fun x=>[bV x])):=⟨fun n s'=>_,fun _ _=>Iff.rfl⟩
 refine de I ?_ xs.length _ ((hI _ _).2 ⟨0,cc,0,.l0,M,(G1 (X1 (G4 (G2 (X4 (X1 (G2 (gu (eG (X1 (G2 (G1 (gu (eG (X8 (X4 [])))))))))))))))),rfl,aP _,rfl,ok,ak _,fun _ _ _=>rfl,r3,by rw[List.take_zero];exact d6.nil⟩)
 intro n s' hIs
 obtain⟨j,c2,b1,bv,M2,u,rfl,hj,rfl,ok2,le3,o2,r32,hAc⟩:=(hI _ _).1 hIs
 clear hIs
 have b4:=(o2 (c+4) (by omega) (by omega)).trans r4
 have l4:=aX (F:=F) b4 0
 rw[show([V.p (c+3) 0]:List V)[0]?=some (.p (c+3) 0)from rfl]at l4
 by_cases hlt:j<xs.length
 ·have d1:decide ((j:Int)<(xs.length:Int))=true:=af (by omega);have hA2:=hA.keep (M':=M2) (c':=c2) (by omega) fun y y1 y2=>o2 y y2 (by omega);obtain⟨pb,po,hpb,hia,hcs⟩:=(hA2.sl (F:=F)).at j (by omega);have n1:=hA2.1 _ (List.getElem_mem (show j<es.length by omega));have hld:=hcs.load (by intro e;rw[e]at n1;cases n1);rw[n1]at hld;obtain⟨lo,hi,f1,f2,f3,f4,f5⟩:=e3 j (by omega) hlt;obtain⟨lo',hl⟩:=f5 M2 fun y y1 y2=>o2 y (by omega) (by omega);obtain⟨_,n2,_⟩:=BS hl;have hia:=hia .i64;generalize es[j]'(by omega)=el at n1 hld hl n2;have ov:over [V.b false,.b false,.b false,.b false,.i .i64 0,.i .i64 0,.i .i64 0,.i .i64 0,.i .i64 0,.s 0 0,.s 0 0,.l0] 0 el=el:=yD _ _ n1;have st0:=bG (av M2 c2 fU) 0 el (by show 0+el.length≤12;omega) n2;rw[ov]at st0;unfold fU at st0;simp only[WX,bp8,bp9,bq0,bq1,bq5,d1,hia,hld,n1,st0];have gN:Gr c2 M2 (c2+1) ((M2.set c2 fU).set c2 (aw 74 el)):=((Gr.refl ok2).set c2 fU (ak _) (bf _) (bD _)).set c2 (aw 74 el) (ak _) (bf _) (ak _);have nA:((M2.set c2 fU).set c2 (aw 74 el)).get c2=some (aw 74 el):=av _ _ _;unfold fU at gN nA;generalize(M2.set c2 (aw 74 [V.b false,.b false,.b false,.b false,.i .i64 0,.i .i64 0,.i .i64 0,.i .i64 0,.i .i64 0,.s 0 0,.s 0 0,.l0])).set c2 (aw 74 el)=N at gN nA⊢;have l4':=aX (F:=F) ((gN.old (c+4) (by omega)).trans b4) 0;rw[show([V.p (c+3) 0]:List V)[0]?=some (.p (c+3) 0)from rfl]at l4';have kn:=jt (F:=F) nA 12 n1;have okN:=gN.ok ok2;have oN:∀y,y<cc→y≠c+3→N.get y=M.get y:=fun y y1 y2=>(gN.old y (by omega)).trans (o2 y y1 y2);have hlen:(ew (xs.take j)).length≤(ew xs).length:=by
   unfold ew;rw[←List.take_append_drop j xs,List.flatMap_append,List.take_append_drop,aV];omega
  simp only[WX,l4',kn];refine aC ((r24 Φ h24 h51 h62 (cB:=cc) okN ((gN.old _ (by omega)).trans r32) ((oN _ (by omega) (by omega)).trans m1) ((oN _ (by omega) (by omega)).trans m2) (by omega) (by omega) (by omega) (by omega) (hAc.gr gN) (by omega) (IA hl fun y y1 y2=>gN.old y (by omega)) (by omega) (hal j hlt)).mono ?_);rintro r M3 c3 ⟨rfl,ok3,Dn,o3,bv',b1',r33,hAc3⟩;have q8:aK .add (.i .i64 (j:Int)) (.i .i64 1)=some (.i .i64 ((j+1:Nat):Int)):=by rw[bH _ _ (by omega) (by omega)];simp
  simp only[WX,bq2,bq3,bq4,q8,ne_eq,eq_self,not_true_eq_false];refine⟨xs.length-(j+1),by omega,(hI _ _).2 ⟨j+1,c3,b1',bv',M3,(G1 (X1 (G4 (G2 (X4 (X1 (G2 (gu (eG (X1 (G2 (G1 (gu (eG (X8 (X4 [])))))))))))))))),rfl,hlt,rfl,ok3,by omega,fun y y1 y2=>(o3 y y1 y2).trans (oN y y1 y2),r33,?_⟩⟩;rw[YF hlt,w5];exact hAc3
 ·obtain rfl:j=xs.length:=by omega
  have d1:decide ((xs.length:Int)<(xs.length:Int))=false:=ag (by omega);rw[List.take_length]at hAc;have l31:=aX (F:=F) r32 1;rw[show(dg bv (c+1) (c+2))[1]?=some .l0 from rfl]at l31;have l33:loadN F M2 (c+3) 0 3=some [bv,.l0,.l0]:=(ku r32).loadN 0 3 (show 0+3≤5 by decide);have b0:=(o2 c (by omega) (by omega)).trans r0;obtain⟨z1,z2,z3⟩:cU bv=true∧flatten bv=[bv]∧bh [bv,.l0,.l0]=true:=by rcases hAc with⟨_,⟨_,rfl⟩|⟨_,_,rfl,_⟩⟩<;>exact⟨rfl,rfl,rfl⟩
  have st:=bG b0 0 [bv,.l0,.l0] (by simp) z3;rw[show over [V.l0,.l0,.l0] 0 [bv,.l0,.l0]=[bv,.l0,.l0]from rfl]at st;have fin:∀u,Q .ret (.mk ((YB u (.p c 0) (.i .i64 0) (.i .i64 0))) ds (M2.set c (aw 28 [bv,.l0,.l0])) c2):=fun u=>
   hQ u _ _ bv b1 (ok2.put (by omega) b0) le3 (fun y y1 y2 y3=>(am _ _ y2).trans (o2 y y1 y3)) (hAc.keep (ak _) fun y y1 y2=>am _ _ (by omega)) (av _ _ _)
  have l4:=l4;rcases hs with rfl|hs
  ·have s0:aK .neq (sV []) (.s 0 0)=some (.b false):=s00;simp only[WX,B7,d1,s0,l4,l31,jf,ec,ne_eq,eq_self,not_true_eq_false];refine aC ((r26 Φ h26 h54 h83 h55 h92 (.f 27 [] [])).mono ?_);rintro r M3 c3 ⟨rfl,rfl⟩;simp only[WX,Nat.reduceAdd,B7,l4,l33,st,jf,ec];exact fin (X2 (G2 (G1 (ka (gu (eG (X8 (X2 []))))))))
  ·have hne:s≠[]:=by intro e;rw[e]at hs;exact absurd hs (by decide)
   have s0:aK .neq (sV s) (.s 0 0)=some (.b true):=by have:=ss s [];rwa [ag hne]at this
   have e10:V.s 1 10=sV [10]:=rfl;simp only[WX,B7,d1,s0,e10,eq_self];refine aC ((r25 Φ h25 h53 s [10] hsl (by decide)).mono ?_);rintro r M3 c3 ⟨rfl,rfl,rfl⟩;rw[hs];simp only[WX,B7,l4,l31,jf,ec,ne_eq,eq_self,not_true_eq_false];refine aC ((r26 Φ h26 h54 h83 h55 h92 (.f 27 [] [])).mono ?_);rintro r M3 c3 ⟨rfl,rfl⟩;simp only[WX,Nat.reduceAdd,B7,l4,l33,st,jf,ec];exact fin (X2 (G2 (G1 (ka (gu (eG (X8 (X2 []))))))))
abbrev cy9(u:List (Option V))(x0 x1 x3 x4:V):T:=(.n (.n (.n (j7 u 15 7 23) (some x3) (j7 u 19 11 27)) (some x1) (aO u 17 9 25 5 21 13 29)) (some x0) (.n (.n (j7 u 16 8 24) (some x4) (j7 u 20 12 28)) (uO u 2) (aO u 18 10 26 6 22 14 30)))
def qf:List UInt8→List UInt8→List (List UInt8)
 |[],_=>[]
 |x::r,a=>if x=10 then a::qf r []else qf r (a++[x])
def pv(l:List UInt8):List (List UInt8):=qf l []
theorem BZ:∀(l a:List UInt8) (i:Nat),nc 10 l i=none→qf l a=[]
 |[],_,_,_=>rfl
 |x::r,a,i,h=>by
  unfold nc at h;split at h
  ·cases h
  ·rename_i hx;unfold qf;rw[ab hx];exact BZ r _ (i+1) h
theorem C0:∀(l a:List UInt8) (i k:Nat),nc 10 l i=some k→qf l a=(a++l.take (k-i))::pv (l.drop (k-i+1))
 |[],_,_,_,h=>by cases h
 |x::r,a,i,k,h=>by
  have hl:=(zX h).1;unfold nc at h;split at h
  ·rename_i hx;obtain rfl:=ae h;unfold qf;rw[ac hx,Nat.sub_self,List.take_zero,dw];rfl
  ·rename_i hx;have h1:=(zX h).1;unfold qf;rw[ab hx,C0 r _ (i+1) k h,show k-i=k-(i+1)+1 by omega];simp
theorem rc:∀(l a:List UInt8),(qf l a).length≤l.length
 |[],_=>ak _
 |x::r,a=>by
  unfold qf;split
  ·have:=rc r [];rw[bq,bq];omega
  ·have:=rc r (a++[x]);rw[bq];omega
def aA5:CC:=(.reg [(aa a1 (.bx 9 1 z0)),(qq a2 (.mv (.c .f0)))])
def aA6:CC:=(.reg [(qq a3 (.mkf 43 [] [z1])),(qq a2 (.mv z3))])
def c21:CF:= .mk 3 [.t a2] (.seq aA5 (.seq aA6 .ret))
theorem e21(v0:V):aN 3 [v0]=(.n jq (some v0) jq):=rfl
def B21:=ai @e21 (ai (wu aA5.eq_1) (wu aA6.eq_1))
def aO1:CC:=(.reg [(qq a8 (.ld1 z1)),(qq a3 (.mv z8))])
def aO2:CC:=(.reg [(qq a4 (.mv (x6 0)))])
def aO3:CC:=(.reg [(qq dh (.mv z3)),(ee d8 (.call 44 [cH,(.c (.s 1 10))])),(qq cW (.mv cI)),(qq dK (.ex 0 cM)),(qq dL (.ex 1 cM)),(qq dJ (.ex 2 cM)),(qq a5 (.mv dM)),(qq a6 (.mv dA)),(qq a7 (.mv dX))])
def aO4:CC:=(.reg [(qq eD (.mv z7)),(qq eZ (.un .not eJ)),(qq eN (.mv fh)),(bk fq (.mv z0) eN),(bk ej (.mv z4) eN),(bk eE (.mv z5) eN),(X3 eT (.cv fO [gD,gw]) eN),(bk ga (.un .not ia) eN),(qq fP (.pk fL xT ib))])
def aO5:CC:=(.reg [(qq ft (.mv z6)),(qq a3 (.mv gy))])
def aO6:CC:=(.seq (.seq aO4 (.cond gV .ret .skip)) aO5)
def aO7:CC:=(.reg [(qq a9 (.mv z4)),(qq cE (.bi .add z9 (x6 1))),(qq a4 (.mv cT))])
def aO8:CC:=(.block 0 (.loop (.seq (.block 1 (.seq aO3 aO6)) aO7)))
def c43:CF:= .mk 5 [] (.seq aO1 (.seq aO2 aO8))
theorem e43(v0 v1:V):aN 5 [v0,v1]=(.n (.n eX (some v1) eX) (some v0) kV):=rfl
def B43:=ai @e43 (ai (wu aO1.eq_1) (ai (wu aO2.eq_1) (ai (wu aO3.eq_1) (ai (wu aO4.eq_1) (ai (wu aO5.eq_1) (ai (wu aO6.eq_1) (ai (wu aO7.eq_1) (wu aO8.eq_1))))))))
def cg6:CC:=(.reg [(qq a3 (.mv z0)),(qq a2 (.mv z3))])
def cg7:CC:=(.seq (.reg [(qq a2 (.mv (x6 0)))]) (.seq cg6 .ret))
def c8:CF:= .mk 3 [.t a2] cg7
theorem e8(v0:V):aN 3 [v0]=(.n jq (some v0) jq):=rfl
def B8:=ai @e8 (ai (wu cg6.eq_1) (wu cg7.eq_1))
theorem t8(Φ:Nat→Option CF)(h:Φ 8=some c8)(n:Int)(ct:Nat):To Φ 8 [.i .i64 n] ct (.i .i64 n):=by
 refine bX h ?_
 simp only[WX,B8]
def h8:List V→Option V
 |[.i .i64 n]=>some (.i .i64 n)
 |_=>none
theorem cp1(n:Int):h8 [.i .i64 n]=some (.i .i64 n):=rfl
theorem r21(Φ:Nat→Option CF)(h:Φ 21=some c21){F:RO}{M:Mem}{c:Nat}(ok:dH F M c)(l:List UInt8):
 Calls Φ F 21 [sV l] M c fun r M' c'=>∃pb,r= .f 43 [] [.p pb 0]∧c≤pb∧pb<c'∧M'.get pb=some (aw 9 [sV l])∧Gr c M c' M':=by
 refine aq h ?_
 have hg:=fun x=>(Gr.refl ok).set c x (ak _) (bf _) (bD _)
 have fS:flatten (sV l)=[sV l]:=rfl
 have aS:bh [sV l]=true:=rfl
 simp only[WX,B21,fS,aS]
 exact⟨_,rfl,ak _,bf _,av _ _ _,hg _⟩
theorem r43(Φ:Nat→Option CF)(h:Φ 43=some c43)(h44:Φ 44=some (.orc (ah uy))){F:RO}{M:Mem}{c y pb:Nat}{l:List UInt8}(hl:l.length≤1000000)(hb:M.get pb=some (aw 9 [sV l])){I:Nat→Mem→Nat→Prop}{J:Mem→Nat→Prop}(h0:I 0 M c)
 (hY:∀k M c,(hk:k<(pv l).length)→I k M c→xe (la (K Φ none 43 F) (.y y) [.i .i64 (k:Int),sV (pv l)[k]] M c) fun r M' c'=>(r= .b true∧I (k+1) M' c')∨(r= .b false∧J M' c')):
 Calls Φ F 43 [.y y,.p pb 0] M c fun _ M' c'=>I (pv l).length M' c'∨J M' c':=by
 refine aq h ?_
 have hld:load1 F M pb 0=some (sV l):=aX hb 0
 have e46:V.s 1 10=sV [10]:=rfl
 have hll:=rc l []
 simp only[WX,B43,hld]
 obtain⟨Iv,hIv⟩:∃Iv:Nat→St→Prop,∀n s,Iv n s↔(∃(k:Nat) (r:List UInt8) (M1:Mem) (c1:Nat) (u:List (Option V)),n=(pv l).length-k∧k≤(pv l).length∧s= .mk ((cy9 u (.y y) (.p pb 0) (sV r) (.i .i64 (k:Int)))) [] M1 c1∧pv r=(pv l).drop k∧r.length≤l.length∧I k M1 c1):=⟨fun n s=>_,fun _ _=>Iff.rfl⟩
 refine de Iv ?_ (pv l).length _ ((hIv _ _).2 ⟨0,l,_,_,(G2 (X1 (G2 (eG (X8 (X2 [])))))),rfl,aP _,rfl,rfl,ak _,h0⟩)
 intro n s hIs
 obtain⟨k,r,M1,c1,u,rfl,hk,rfl,hpre,hr,hi⟩:=(hIv _ _).1 hIs
 clear hIs
 have q8:aK .add (.i .i64 (k:Int)) (.i .i64 1)=some (.i .i64 ((k+1:Nat):Int)):=by rw[bH _ _ (by unfold pv at hk;omega) (by unfold pv at hk;omega)];simp
 have hc:=EA r 10 (by omega)
 rw[←e46]at hc
 unfold sA at hc
 cases hf:nc 10 r 0 with
 |none=>
  rw[hf]at hc;simp only[WX,B43,h44,hc];have hn:=BZ r [] 0 hf;have hke:k=(pv l).length:=by
   by_cases hh:k<(pv l).length
   ·rw[show qf r []=pv r from rfl,hpre,l6 hh]at hn;cases hn
   ·omega
  exact .inl (hke▸hi)
 |some j=>
  rw[hf]at hc;have hn:=C0 r [] 0 j hf;rw[show qf r []=pv r from rfl,hpre,List.nil_append,Nat.sub_zero]at hn;have hklt:k<(pv l).length:=by
   by_cases hh:k<(pv l).length
   ·exact hh
   ·rw[List.drop_eq_nil_of_le (by omega)]at hn;cases hn
  rw[l6 hklt]at hn;injection hn with g1 g2
  have hy:=hY k M1 c1 hklt hi;rw[g1]at hy;simp only[WX,B43,h44,hc];refine aC (hy.mono ?_);rintro b M3 c1003 (⟨rfl,hi3⟩|⟨rfl,hj⟩)
  ·simp only[WX,B43,q8];exact⟨(pv l).length-(k+1),by omega,(hIv _ _).2 ⟨k+1,r.drop (j+1),M3,c1003,(G2 (X1 (G2 (eG (X8 (X2 [])))))),rfl,hklt,rfl,g2.symm,by rw[dv];omega,hi3⟩⟩
  ·simp only[WX];exact .inr hj
abbrev cz5(u:List (Option V))(x0 x2 x3 x4 x5 x6 x7 x25 x26:V):T:=(.n (.n (.n (.n (aO u 63 31 95 15 79 47 111) (some x7) (aO u 71 39 103 23 87 55 119)) (some x3) (.n (aO u 67 35 99 19 83 51 115) (uO u 11) (aO u 75 43 107 27 91 59 123))) (uO u 1) (.n (.n (aO u 65 33 97 17 81 49 113) (uO u 9) (.n (j7 u 73 41 105) (some x25) (j7 u 89 57 121))) (some x5) (.n (aO u 69 37 101 21 85 53 117) (uO u 13) (aO u 77 45 109 29 93 61 125)))) (some x0) (.n (.n (.n (aO u 64 32 96 16 80 48 112) (uO u 8) (aO u 72 40 104 24 88 56 120)) (some x4) (.n (aO u 68 36 100 20 84 52 116) (uO u 12) (aO u 76 44 108 28 92 60 124))) (some x2) (.n (.n (aO u 66 34 98 18 82 50 114) (uO u 10) (.n (j7 u 74 42 106) (some x26) (j7 u 90 58 122))) (some x6) (.n (aO u 70 38 102 22 86 54 118) (uO u 14) (aO u 78 46 110 30 94 62 126)))))
def scF:Nat→Nat→St→Prop:=fun _ _ _=>False
theorem MA(b:Nat)(t:T):jX .mkm b t=some (.m b,.map [] 0):=Eq.trans rfl (Eq.refl _)
theorem P7.loop{F:RO}{M0 M:Mem}{c cS cc y at_:Nat}{acc:V}{xs:List uq}{b b':bw}(h:P7 F M0 M c cS cc acc at_ xs)(h1:c+7≤y)(h2:y<cS)(hM:M.get y=some b):P7 F M0 (M.set y b') c cS cc acc at_ xs:=by
 have:=h.le
 exact⟨h.ok.put (by omega) hM,h.le,fun x hx=>(am _ _ (by omega)).trans (h.old x hx),(am _ _ (by omega)).trans h.r0,(am _ _ (by omega)).trans h.m1,(am _ _ (by omega)).trans h.m2,(am _ _ (by omega)).trans h.r3,(am _ _ (by omega)).trans h.r4,(am _ _ (by omega)).trans h.r5,(am _ _ (by omega)).trans h.r6,h.acs.keep (ak _) fun x hx _=>am _ _ (by omega)⟩
theorem cX8(Φ:Nat→Option CF){L:List gk}(h21:Φ 21=some c21)(h43:Φ 43=some c43)(h22:Φ 22=some c22)(h49:Φ 49=some c49)(h23:Φ 23=some c23)(e:RdP Φ L)(h24:Φ 24=some c24)(h51:Φ 51=some c51)(h62:Φ 62=some (.orc (ah h62)))(h25:Φ 25=some c25)(h26:Φ 26=some c26)(h54:Φ 54=some c54)(h83:Φ 83=some c83)(h55:Φ 55=some c55)(h92:Φ 92=some (.orc (ah h92)))
 {F:RO} {M0 M:Mem} {c:Nat} (ht:bE F L=true) (hE1:cD F 2) (hE2:cD F 3) (hlow:∀g,g<1000→M0.get g=none) (hc:1000≤c) {s:List UInt8} {xs:List uq} (hsl:s.length≤131072) (hs:s=[]∨sC s [10]=true) (hlx:(pv s).length=xs.length) (htx:∀k (hk:k<(pv s).length) (hk':k<xs.length),TxL (pv s)[k] xs[k]) (hB:(ew xs).length≤8000) (hal:∀j (hj:j<xs.length) y,xs[j]= .inl y→(ew (xs.take j)).length%4=0)
 (h:P7 F M0 M c (c+7) (c+7) .l0 0 []) (u:List (Option V)) (Q:Ex→St→Prop)
 (hQ:∀(u:List (Option V)) (d cc b1 c':Nat) M' bv,c+7≤d→d<cc→cc≤c'→M'.get d=some (.defs false)→dH F M' c'→(∀y,y<c→M'.get y=M0.get y)→d6 M' cc c' b1 5 1 bv ((ew xs).map fun x=>[bV x])→M'.get c=some (aw 28 [bv,.l0,.l0])→Q .ret (.mk ((YB u (.p c 0) (.i .i64 0) (.i .i64 0))) [d] M' c')):
 Wp VV (K Φ none 7 F) (.mk ((bl1 u (sV s) (.p c 0) (.i .i64 0) (.i .i64 0) (.p (c+4) 0) (.p (c+5) 0) (.p (c+6) 0))) [] M (c+7)) Q:=by
 have hxs:xs.length≤131072:=by have:=rc s [];unfold pv at hlx;omega
 simp only[WX,cL6,bq7]
 refine aC ((r21 Φ h21 h.ok s).mono ?_)
 rintro r M1 c1 ⟨pb,rfl,p1,p2,p3,hg⟩
 have ok1:=hg.ok h.ok
 have gle:=hg.le
 simp only[WX,bp5]
 refine Zr ?_
 simp only[WX,HZ]
 obtain⟨BL,hBL⟩:∃BL:LS→nj→bw,BL=fun s' p=>bw.loop s' p 7 ((cz5 u (sV s) (.p c 0) (.i .i64 0) (.i .i64 0) (.p (c+4) 0) (.p (c+5) 0) (.p (c+6) 0) (sV s) (.f 43 [] [.p pb 0]))) [(.l (.l (.r (.r .h)))),(.r (.l (.r (.r .h))))] bu0 HW c1:=⟨_,rfl⟩
 obtain⟨Ik,hIk⟩:∃I:Nat→Mem→Nat→Prop,∀k M cc,I k M cc↔(∃acc,P7 F M0 M c (c1+2) cc acc (ew (xs.take k)).length (xs.take k)∧M.get (c1+1)=some (BL .ready .none)∧M.get c1=some (.defs false)∧k≤xs.length):=⟨fun k M cc=>_,fun _ _ _=>Iff.rfl⟩
 have gZ:Gr (c+7) M (c1+2) ((M1.set c1 (.defs false)).set (c1+1) (BL .ready .none)):=((hg.set c1 _ (by omega) (show c1<c1+1 by omega) (by omega)).set (c1+1) _ (by omega) (by omega) (by omega))
 have okZ:=gZ.ok h.ok
 refine(r43 Φ h43 e.h44 (y:=c1+1) (pb:=pb) (l:=s) (by omega) ?_ (I:=Ik) (J:=fun _ _=>False) ?_ ?_).mono ?_
 ·rw[am _ _ (by omega),am _ _ (by omega)];exact p3
 ·refine(hIk _ _ _).2 ⟨.l0,⟨?_,⟨by omega,ak _⟩,fun y hy=>?_,?_,?_,?_,?_,?_,?_,?_,by rw[List.take_zero];exact G5.nil⟩,?_,?_,aP _⟩
  ·rw[hBL]at okZ;exact okZ
  ·rw[am _ _ (by omega),am _ _ (by omega),hg.old _ (by omega),h.old y hy]
  ·rw[am _ _ (by omega),am _ _ (by omega),hg.old _ (by omega)];exact h.r0
  ·rw[am _ _ (by omega),am _ _ (by omega),hg.old _ (by omega)];exact h.m1
  ·rw[am _ _ (by omega),am _ _ (by omega),hg.old _ (by omega)];exact h.m2
  ·rw[am _ _ (by omega),am _ _ (by omega),hg.old _ (by omega)];exact h.r3
  ·rw[am _ _ (by omega),am _ _ (by omega),hg.old _ (by omega)];exact h.r4
  ·rw[am _ _ (by omega),am _ _ (by omega),hg.old _ (by omega)];exact h.r5
  ·rw[am _ _ (by omega),am _ _ (by omega),hg.old _ (by omega)];exact h.r6
  ·rw[hBL];exact av _ _ _
  ·rw[am _ _ (by omega)];exact av _ _ _
 ·intro k M2 cc hklt hi;obtain⟨acc,a1,a2,a3,a4⟩:=(hIk _ _ _).1 hi;have hk:k<xs.length:=by omega
  have hl5:=a2;rw[hBL]at hl5;refine CK hl5 (pC _ _ _ _ _) ?_;simp only[WX,B7];refine Gj hl5 ?_;have aB:=a1.loop (b':=BL .busy .none) (by omega) (show c1+1<c1+2 by omega) a2;have yB:(M2.set (c1+1) (BL .busy .none)).get (c1+1)=some (BL .busy .none):=av _ _ _;have dB:(M2.set (c1+1) (BL .busy .none)).get c1=some (.defs false):=(am _ _ (by omega)).trans a3;rw[show bw.loop LS.busy _ _ _ _ _ _ _=BL .busy .none by rw[hBL]];generalize M2.set (c1+1) (BL .busy .none)=MB at aB yB dB⊢;have hlB:(ew (xs.take k)).length≤8000:=by
   have:(ew (xs.take k)).length≤(ew xs).length:=by
    unfold ew;rw[←List.take_append_drop k xs,List.flatMap_append,List.take_append_drop,aV];omega
   omega
  refine cg9 Φ h22 h49 h23 e (c:=c) (cS:=c1+2) (fv:= .f 43 [] [.p pb 0]) (sv:=sV s) (kv:= .i .i64 (k:Int)) (t:=(pv s)[k]) (x:=xs[k]) ht hE1 hE2 (fun g hg=>(aB.old g (by omega)).trans (hlow g hg)) aB (htx k hklt hk) (by omega) (by rw[List.length_take];omega) (G1 (X1 (G4 (G2 (X1 (G1 (eG (G2 (G1 (ka (gu (X2 [])))))))))))) _ ?_;intro t' M' c' acc' hP hMM hcc;have hly:=(hMM (c1+1) (by omega) (by omega) (by omega)).trans yB;rw[hBL]at hly;refine Zz hly ?_;refine⟨rfl,(hIk _ _ _).2 ⟨acc',?_,by rw[hBL];exact av _ _ _,?_,hk⟩⟩
  ·rw[YF hk,w5,aV];exact hP.loop (by omega) (show c1+1<c1+2 by omega) hly
  ·rw[am _ _ (by omega),hMM c1 (by omega) (by omega) (by omega)];exact dB
 ·intro v' M2 cc hij;rcases hij with hi|hj
  rotate_left
  ·exact hj.elim
  obtain⟨acc,a1,a2,a3,a4⟩:=(hIk _ _ _).1 hi;rw[hlx,List.take_length]at a1;have hl5:=a2;rw[hBL]at hl5;refine⟨_,_,_,_,_,_,_,_,hl5,(by intro h;cases h),?_⟩;have aB:=a1.loop (b':=BL .exhausted .none) (by omega) (show c1+1<c1+2 by omega) a2;have dB:(M2.set (c1+1) (BL .exhausted .none)).get c1=some (.defs false):=(am _ _ (by omega)).trans a3;rw[show bw.loop LS.exhausted _ _ _ _ _ _ _=BL .exhausted .none by rw[hBL]];generalize M2.set (c1+1) (BL .exhausted .none)=MX at aB dB⊢;simp only[WX,tJ];rw[←AN];exact cA5 Φ h24 h51 h62 h25 e.h53 h26 h54 h83 h55 h92 aB hs (by omega) hxs hB hal (G1 (X1 (G4 (G2 (ka (gu (eG (X4 (X2 (X1 [])))))))))) Q fun u M' c' bv b1 k1 k2 k3 k4 k5=>hQ u c1 cc b1 c' M' bv (by omega) (by have:=aB.le;omega) k2 ((k3 c1 (by have:=aB.le;omega) (by omega) (by omega)).trans dB) k1 (fun y hy=>(k3 y (by have:=aB.le;omega) (by omega) (by omega)).trans (aB.old y hy)) k4 k5
theorem r7(Φ:Nat→Option CF){L:List gk}(h:Φ 7=some c7)(h21:Φ 21=some c21)(h43:Φ 43=some c43)(h22:Φ 22=some c22)(h49:Φ 49=some c49)(h23:Φ 23=some c23)(e:RdP Φ L)(h24:Φ 24=some c24)(h51:Φ 51=some c51)(h62:Φ 62=some (.orc (ah h62)))(h25:Φ 25=some c25)(h26:Φ 26=some c26)(h54:Φ 54=some c54)(h83:Φ 83=some c83)(h55:Φ 55=some c55)(h92:Φ 92=some (.orc (ah h92)))
 {F:RO} {M:Mem} {c:Nat} (ok:dH F M c) (ht:bE F L=true) (hE1:cD F 2) (hE2:cD F 3) (hlow:∀g,g<1000→M.get g=none) {s:List UInt8} {xs:List uq} (hsl:s.length≤131072) (hs:s=[]∨sC s [10]=true) (hlx:(pv s).length=xs.length) (htx:∀k (hk:k<(pv s).length) (hk':k<xs.length),TxL (pv s)[k] xs[k]) (hB:(ew xs).length≤8000) (hal:∀j (hj:j<xs.length) y,xs[j]= .inl y→(ew (xs.take j)).length%4=0):
 Calls Φ F 7 [sV s] M c fun r M' c'=>∃bv,r= .t [.g [bv,.l0,.l0],.i .i64 0,.i .i64 0]∧nk F M' c' bv (ew xs)∧Gr c M c' M':=by
 refine aq h ?_
 have hge:=ok.ge
 have hxs:xs.length≤131072:=by have:=rc s [];unfold pv at hlx;omega
 have hd:decide ((131072:Int)<(s.length:Int))=false:=ag (by omega)
 simp only[WX,e7,cH8,bq9]
 refine LQ scF (fun n l s h=>h.elim) 0 _ _ ?_
 simp only[WX,Nat.reduceAdd,Nat.reduceLeDiff,cI2,cJ3,cK3,cL4,bq8,hd,MA]
 have gX:Gr c M (c+7) (((((((M.set c (aw 28 [V.l0,V.l0,V.l0])).set (c+1) (bw.map [] 0)).set (c+2) (bw.map [] 0)).set (c+3) (aw 68 [V.l0,V.l0,V.l0,V.m (c+1),V.m (c+2)])).set (c+4) (aw 64 [V.p (c+3) 0])).set (c+5) (aw 69 [V.l0])).set (c+6) (aw 3 [V.i IntKind.i64 0])):=
  (((((((Gr.refl ok).set c _ (ak _) (show c<c+1 by omega) (by omega)).set (c+1) _ (by omega) (show c+1<c+2 by omega) (by omega)).set (c+2) _ (by omega) (show c+2<c+3 by omega) (by omega)).set (c+3) _ (by omega) (show c+3<c+4 by omega) (by omega)).set (c+4) _ (by omega) (show c+4<c+5 by omega) (by omega)).set (c+5) _ (by omega) (show c+5<c+6 by omega) (by omega)).set (c+6) _ (by omega) (by omega) (by omega)
 refine cX8 Φ h21 h43 h22 h49 h23 e h24 h51 h62 h25 h26 h54 h83 h55 h92 ht hE1 hE2 hlow hge hsl hs hlx htx hB hal ⟨gX.ok ok,⟨ak _,ak _⟩,gX.old,?_,?_,?_,?_,?_,?_,av _ _ _,G5.nil⟩ (G1 (X1 (G4 (G2 (ka (gu (eG (X4 (X2 (X1 [])))))))))) _ ?_
 ·rw[am _ _ (by omega),am _ _ (by omega),am _ _ (by omega),am _ _ (by omega),am _ _ (by omega),am _ _ (by omega)];exact av _ _ _
 ·rw[am _ _ (by omega),am _ _ (by omega),am _ _ (by omega),am _ _ (by omega),am _ _ (by omega)];exact av _ _ _
 ·rw[am _ _ (by omega),am _ _ (by omega),am _ _ (by omega),am _ _ (by omega)];exact av _ _ _
 ·rw[am _ _ (by omega),am _ _ (by omega),am _ _ (by omega)];exact av _ _ _
 ·rw[am _ _ (by omega),am _ _ (by omega)];exact av _ _ _
 ·rw[am _ _ (by omega)];exact av _ _ _
 intro u d cc b1 c' M' bv k1 k2 k3 k4 k5 k6 k7 k8
 rw[Fh]
 have ht1:cG [d] M'=some (M'.set d (.defs true)):=by rw[mC k4];rfl
 have ln:=jt (F:=F) ((am M' (.defs true) (show c≠d by omega)).trans k8) 3 rfl
 rw[sE,ht1,sD]
 simp only[WX,ln]
 refine⟨_,rfl,(k7.keep (M':=M'.set d (.defs true)) (ak _) fun y y1 y2=>am _ _ (by omega)).sl,⟨by omega,fun y hy=>(am _ _ (by omega)).trans (k6 y hy),fun y hy=>(am _ _ (by omega)).trans (k5.hiM y hy)⟩⟩
def byL(x:UInt8):uq:= .inr [x]
def cp7(x:Dw):uq:= .inl x
def wdL(w:Nat):uq:= .inr (Dn w)
open Classical in
def BT(w:Nat):uq:=if oZ w then cp7 ⟨lu w,dW w,aW w,bW w,iW w⟩else wdL w
theorem Xy{w:Nat}(h:oZ w):BT w=cp7 ⟨lu w,dW w,aW w,bW w,iW w⟩:=ac h
theorem Xx{w:Nat}(h:¬oZ w):BT w=wdL w:=ab h
theorem ID{w:Nat}(h:oZ w):fT w=cV (lu w) (dW w) (aW w) (bW w) (iW w):=ac h
theorem IC{w:Nat}(h:¬oZ w):fT w=eB++32::bn w:=ab h
def p7:List UInt8→List uq
 |a::b::c::d::r=>BT (w4 a b c d)::p7 r
 |l=>l.map byL
def xD:List UInt8→List (List UInt8)
 |a::b::c::d::r=>fT (w4 a b c d)::xD r
 |l=>l.map dN
theorem mj{P:List UInt8→Prop}(h4:∀a b c d r,P r→P (a::b::c::d::r))(h0:∀l,l.length<4→P l):∀l,P l
 |a::b::c::d::r=>h4 a b c d r (mj h4 h0 r)
 |[]=>h0 _ (by decide)
 |[x]=>h0 _ (by show 1<4;decide)
 |[x,y]=>h0 _ (by show 2<4;decide)
 |[x,y,z]=>h0 _ (by show 3<4;decide)
theorem A9(a b c d:UInt8)(r:List UInt8):p7 (a::b::c::d::r)=BT (w4 a b c d)::p7 r:=by rw[p7]
theorem EP(a b c d:UInt8)(r:List UInt8):xD (a::b::c::d::r)=fT (w4 a b c d)::xD r:=by rw[xD]
theorem WY{l:List UInt8}(h:l.length<4):∀a b c d r,l=a::b::c::d::r→False:=fun a b c d r e=>by rw[e]at h;simp at h;omega
theorem re{l:List UInt8}(h:l.length<4):p7 l=l.map byL:=by
 rw[p7];exact WY h
theorem w9{l:List UInt8}(h:l.length<4):xD l=l.map dN:=by
 rw[xD];exact WY h
theorem yw:∀(w a r:List UInt8),(10:UInt8)∉w→qf (w++10::r) a=(a++w)::pv r
 |[],a,r,_=>by
  show(if(10:UInt8)=10 then a::qf r []else _)=_;rw[ac rfl,dw];rfl
 |x::w,a,r,h=>by
  rw[bj,not_or]at h;show(if x=10 then _ else qf (w++10::r) (a++[x]))=_;rw[ab (fun e=>h.1 e.symm),yw w (a++[x]) r h.2];simp
theorem BX(w r:List UInt8)(h:(10:UInt8)∉w):pv (w++10::r)=w::pv r:=yw w [] r h
theorem KW(w:Nat):(10:UInt8)∉fT w:=by
 by_cases h:oZ w
 ·rw[ID h];intro h10;have:=List.all_eq_true.1 (AE h.1).1 _ h10;revert this;decide
 ·rw[IC h];intro h10;rw[List.mem_append,bj]at h10;rcases h10 with h|h|h
  ·revert h;decide
  ·exact absurd h (by decide)
  ·exact absurd (uv h) (by decide)
theorem KV(x:UInt8):(10:UInt8)∉dN x:=by
 unfold dN
 intro h10
 rw[List.mem_append,bj]at h10
 rcases h10 with h|h|h
 ·revert h;decide
 ·exact absurd h (by decide)
 ·exact absurd (uv h) (by decide)
theorem IE:∀l:List UInt8,pv (l.flatMap fun x=>dN x++[10])=l.map dN
 |[]=>rfl
 |x::l=>by
  rw[List.flatMap_cons,oD,List.singleton_append,BX _ _ (KV x),IE l];rfl
theorem A7:∀bs,pv (jk bs)=xD bs:=by
 refine mj (fun a b c d r ih=>?_) fun l h=>?_
 ·rw[wa,EP,BX _ _ (KW _),ih]
 ·rw[iQ h,w9 h,IE]
theorem XE:∀bs,(xD bs).length=(p7 bs).length:=by
 refine mj (fun a b c d r ih=>?_) fun l h=>?_
 ·rw[EP,A9,bq,bq,ih]
 ·rw[w9 h,re h,List.length_map,List.length_map]
theorem Xz(w:Nat)(hw:w<4294967296):TxL (fT w) (BT w):=by
 by_cases h:oZ w
 ·rw[Xy h,ID h];exact⟨h.1,rfl⟩
 ·rw[Xx h,IC h];exact Or.inl ⟨w,hw,rfl,rfl⟩
theorem K8(x:UInt8):TxL (dN x) (byL x):=Or.inr ⟨x.toNat,UInt8.toNat_lt x,rfl,by simp⟩
theorem bD5:∀bs k (hk:k<(xD bs).length) (hk':k<(p7 bs).length),TxL (xD bs)[k] (p7 bs)[k]:=by
 refine mj (fun a b c d r ih=>?_) fun l h=>?_
 ·rw[EP,A9];intro k hk hk';cases k with
  |zero=>exact Xz _ (Zk _ _ _ _)
  |succ k=>exact ih k (by simpa using hk) (by simpa using hk')
 ·rw[w9 h,re h];intro k hk hk';rw[List.getElem_map,List.getElem_map];exact K8 _
theorem bC3(a b c d:UInt8):Dn (w4 a b c d)=[a,b,c,d]:=by
 have h0:=UInt8.toNat_lt a;have h1:=UInt8.toNat_lt b;have h2:=UInt8.toNat_lt c;have h3:=UInt8.toNat_lt d
 have key:∀(n:Nat) (x:UInt8),n%256=x.toNat→UInt8.ofNat n=x:=fun n x h=>UInt8.toNat_inj.1 (by rw[UInt8.toNat_ofNat'];exact h)
 unfold Dn w4
 rw[key _ a (by omega),key _ b (by omega),key _ c (by omega),key _ d (by omega)]
theorem Xw(w:Nat):j0 (BT w)=Dn w:=by
 by_cases h:oZ w
 ·rw[Xy h];show Dn (ei _ _ _ _ _)=_;rw[h.2]
 ·rw[Xx h];rfl
theorem IB:∀l:List UInt8,ew (l.map byL)=l
 |[]=>rfl
 |x::l=>by
  have:=IB l;unfold ew at this⊢;rw[List.map_cons,List.flatMap_cons,this];rfl
theorem yx:∀bs,ew (p7 bs)=bs:=by
 refine mj (fun a b c d r ih=>?_) fun l h=>?_
 ·rw[A9];show j0 (BT _)++ew (p7 r)=_;rw[Xw,bC3,ih];rfl
 ·rw[re h,IB]
theorem bD4:∀bs j (hj:j<(p7 bs).length) y,(p7 bs)[j]= .inl y→(ew ((p7 bs).take j)).length%4=0:=by
 refine mj (fun a b c d r ih=>?_) fun l h=>?_
 ·rw[A9];intro j hj y hy;cases j with
  |zero=>rfl
  |succ j=>
   have:=ih j (by simpa using hj) y hy;show(j0 (BT _)++ew ((p7 r).take j)).length%4=0;rw[aV,Xw,show(Dn (w4 a b c d)).length=4 from rfl];omega
 ·rw[re h];intro j hj y hy;rw[List.getElem_map]at hy;cases hy
theorem WO(t:List UInt8):sC (t++[10]) [10]=true:=by
 unfold sC
 rw[aJ]
 refine⟨af (by simp),af ?_⟩
 rw[aV,Nat.add_sub_cancel]
 exact List.drop_left
theorem Ie:∀l:List UInt8,(l.flatMap fun x=>dN x++[10])=[]∨ ∃t,(l.flatMap fun x=>dN x++[10])=t++[10]
 |[]=> .inl rfl
 |x::l=>by
  right;rw[List.flatMap_cons];rcases Ie l with h|⟨t,h⟩
  ·exact⟨dN x,by rw[h,dw]⟩
  ·exact⟨dN x++[10]++t,by rw[h];simp⟩
theorem XD:∀bs,jk bs=[]∨ ∃t,jk bs=t++[10]:=by
 refine mj (fun a b c d r ih=>?_) fun l h=>?_
 ·right;rw[wa];rcases ih with h|⟨t,h⟩
  ·exact⟨fT (w4 a b c d),by rw[h]⟩
  ·exact⟨fT (w4 a b c d)++10::t,by rw[h];simp⟩
 ·rw[iQ h];exact Ie l
theorem al0(bs:List UInt8):jk bs=[]∨sC (jk bs) [10]=true:=by
 rcases XD bs with h|⟨t,h⟩
 ·exact .inl h
 ·exact .inr (by rw[h];exact WO t)
abbrev cz8(u:List (Option V))(x0 x2 x3:V):T:=(.n (.n (.n (.n (aO u 63 31 95 15 79 47 111) (uO u 7) (aO u 71 39 103 23 87 55 119)) (some x3) (.n (aO u 67 35 99 19 83 51 115) (uO u 11) (aO u 75 43 107 27 91 59 123))) (uO u 1) (.n (.n (aO u 65 33 97 17 81 49 113) (uO u 9) (aO u 73 41 105 25 89 57 121)) (uO u 5) (.n (aO u 69 37 101 21 85 53 117) (uO u 13) (aO u 77 45 109 29 93 61 125)))) (some x0) (.n (.n (.n (aO u 64 32 96 16 80 48 112) (uO u 8) (aO u 72 40 104 24 88 56 120)) (uO u 4) (.n (aO u 68 36 100 20 84 52 116) (uO u 12) (aO u 76 44 108 28 92 60 124))) (some x2) (.n (.n (aO u 66 34 98 18 82 50 114) (uO u 10) (aO u 74 42 106 26 90 58 122)) (uO u 6) (.n (aO u 70 38 102 22 86 54 118) (uO u 14) (aO u 78 46 110 30 94 62 126)))))
abbrev cz9(u:List (Option V))(x0 x2:V):T:=(.n (.n (.n (.n (aO u 63 31 95 15 79 47 111) (uO u 7) (aO u 71 39 103 23 87 55 119)) (uO u 3) (.n (aO u 67 35 99 19 83 51 115) (uO u 11) (aO u 75 43 107 27 91 59 123))) (uO u 1) (.n (.n (aO u 65 33 97 17 81 49 113) (uO u 9) (aO u 73 41 105 25 89 57 121)) (uO u 5) (.n (aO u 69 37 101 21 85 53 117) (uO u 13) (aO u 77 45 109 29 93 61 125)))) (some x0) (.n (.n (.n (aO u 64 32 96 16 80 48 112) (uO u 8) (aO u 72 40 104 24 88 56 120)) (uO u 4) (.n (aO u 68 36 100 20 84 52 116) (uO u 12) (aO u 76 44 108 28 92 60 124))) (some x2) (.n (.n (aO u 66 34 98 18 82 50 114) (uO u 10) (aO u 74 42 106 26 90 58 122)) (uO u 6) (.n (aO u 70 38 102 22 86 54 118) (uO u 14) (aO u 78 46 110 30 94 62 126)))))
theorem r5n(Φ:Nat→Option CF)(h:Φ 5=some c5){F:RO}{M:Mem}{c:Nat}{v:V}{bs:List UInt8}(ok:dH F M c)(hs:nk F M c v bs)(hl:8192<bs.length):
 Calls Φ F 5 [v] M c fun r M' c'=>r= .s 0 0∧Gr c M c' M':=by
 refine aq h ?_
 have hln:=hs.len
 have d0:decide ((8192:Int)<(bs.length:Int))=true:=af (by omega)
 simp only[WX,B5,hln,d0]
 exact Gr.refl ok
theorem r6n(Φ:Nat→Option CF)(h:Φ 6=some c6){F:RO}{M:Mem}{c:Nat}{v:V}{bs:List UInt8}(ok:dH F M c)(hs:nk F M c v bs)(hl:8192<bs.length):
 Calls Φ F 6 [v] M c fun r M' c'=>r= .s 0 0∧Gr c M c' M':=by
 refine aq h ?_
 have hln:=hs.len
 have d0:decide ((8192:Int)<(bs.length:Int))=true:=af (by omega)
 simp only[WX,B6,hln,d0]
 exact Gr.refl ok
structure LsP(Φ:Nat→Option CF)(L:List gk):Prop where
 e:RdP Φ L
 h5:Φ 5=some c5
 h6:Φ 6=some c6
 h7:Φ 7=some c7
 h8:Φ 8=some (.orc (ah h8))
 h11:Φ 11=some c11
 h12:Φ 12=some Wg
 h13:Φ 13=some ZW
 h14:Φ 14=some c14
 h17:Φ 17=some (.orc (bT L h38))
 h18:Φ 18=some Wh
 h19:Φ 19=some c19
 h20:Φ 20=some (.orc (bT L h20))
 h21:Φ 21=some c21
 h22:Φ 22=some c22
 h23:Φ 23=some c23
 h24:Φ 24=some c24
 h25:Φ 25=some c25
 h26:Φ 26=some c26
 h30:Φ 30=some Ka
 h31:Φ 31=some Wi
 h32:Φ 32=some (.orc (ah h32))
 h39:Φ 39=some (.orc (ah h39))
 h43:Φ 43=some c43
 h49:Φ 49=some c49
 h51:Φ 51=some c51
 h54:Φ 54=some c54
 h55:Φ 55=some c55
 h60:Φ 60=some Me
 h62:Φ 62=some (.orc (ah h62))
 h83:Φ 83=some c83
 h92:Φ 92=some (.orc (ah h92))
def cc3:CC:=(.reg [(qq a8 (.mv z0)),(qq a9 (.ln .slice z8)),(qq cE (.bi .gtr z9 (x6 4000))),(qq cW (.mv cT)),(aj dh (.mv z0) cW),(aj d8 (.ln .slice cH) cW),(aj dK (.bi .leq cI (x6 8192)) cW),(qq dL (.pk cM dM xF)),(qq dJ (.mv dA)),(bk eD (.mv z0) dJ),(bk eZ (.ln .slice eJ) dJ),(bk eN (.bi .gtr fh (x6 100000)) dJ),(qq fq (.pk dX xT fL))])
def bN1:=wu cc3.eq_1
def cc4:CC:=(.reg [(ee ej (.call 4 [])),(qq a2 (.mv gD))])
def dd2:=wu cc4.eq_1
def cc5:CC:=(.seq cc3 (.cond fO (.seq cc4 .ret) .skip))
def bN2:=wu cc5.eq_1
def bt3:CC:=(.reg [(qq eE (.mv z0)),(ee eT (.app 5 1 1 (.c .l0) gw)),(aa ga (.bsl 5 1 1 [(.i .u8 0)] [(0,(.c (.i .u8 119)))])),(ee fP (.app 5 1 1 ia ib)),(qq a3 (.mv gV))])
def dd3:=wu bt3.eq_1
def cc6:CC:=(.reg [(qq ft (.mv z3)),(qq ie (.mv z0)),(qq gz (.ln .slice iU)),(qq fJ (.slL 1 gy none (some iK) none)),(ee gR (.call 5 [j8])),(qq a4 (.mv iV))])
def bN3:=wu cc6.eq_1
def cc7:CC:=(.reg [(qq gW (.mv z4)),(qq ig (.mv z0)),(ee iE (.call 6 [jR])),(qq fj (.bi .neq iX kC)),(qq fQ (.mv kQ)),(bk kc (.mv z3) fQ),(bk kd (.bs lM) fQ),(bk kE (.mv z0) fQ),(bk jS (.bs lO) fQ),(bk gC (.bi .add lF (.c (.s 1 119))) fQ),(bk kR (.bi .neq lN lG) fQ),(qq lJ (.pk jY xT lQ))])
def bN4:=wu cc7.eq_1
def cc8:CC:=(.seq (.reg [(qq a2 (.mv xF))]) .ret)
def dd4:=wu cc8.eq_1
def cc9:CC:=(.seq cc7 (.cond n6 cc8 .skip))
def bN5:=wu cc9.eq_1
def cd0:CC:=(.reg [(qq kW (.mv z0)),(qq kS (.ln .slice og)),(qq kT (.bi .gtr oq (x6 8192)))])
def dd5:=wu cd0.eq_1
def aL5:CC:=(.reg [(qq kU (.mv z4)),(qq mG (.bi .eql oT (.c (.s 0 0)))),(qq jV (.mv n7)),(dZ ke (.call 4 []) jV),(qq mH (.pk ot n8 xF)),(qq a2 (.mv mV))])
def cE4:=wu aL5.eq_1
def aL6:CC:=(.cond mU (.seq aL5 .ret) .skip)
def cE5:=wu aL6.eq_1
def aL7:CC:=(.reg [(qq jW (.mv z4)),(ee gb (.call 7 [oU])),(qq kX (.mv pG)),(qq ow (.ex 0 ng)),(qq oy (.ex 1 ng)),(qq kF (.ex 2 ng)),(aa a5 (.al 28 [.l0,.l0,.l0])),(ez (.st 3 z5 qB)),(qq a6 (.mv pf)),(qq a7 (.mv qC))])
def cE6:=wu aL7.eq_1
def aL8:CC:=(.reg [(qq kY (.fa 0 z5)),(qq lK (.ld1 qE)),(qq nn (.bs pg)),(qq pM (.mv z0)),(qq oz (.bs rV)),(qq n9 (.bi .eql pH um)),(qq kZ (.mv tS)),(aj oX (.fa 1 z5) kZ),(aj oA (.ld1 rX) kZ),(aj pN (.ln .slice rP) kZ),(aj oB (.fa 2 z5) kZ),(aj lL (.ld1 rY) kZ),(aj oY (.ln .slice uo) kZ),(aj sf (.bi .add pI uQ) kZ),(aj pO (.bi .eql uR (x6 0)) kZ),(qq rR (.pk rW uS xF)),(qq sg (.mv xn)),(aj ur (.mv z7) sg),(dZ va (.call 8 [xR]) sg),(aj rS (.bi .eql yW (x6 0)) sg),(qq rT (.pk xp AR xF)),(qq vc (.mv AU)),(dZ xw (.call 4 []) vc),(qq pP (.pk AV AY xF)),(qq a2 (.mv AZ))])
def cE7:=wu aL8.eq_1
def aL9:CC:=(.seq cc9 (.seq (.seq cd0 aL6) (.seq aL7 (.seq aL8 .ret))))
def Zc:=wu aL9.eq_1
def aM0:CC:=(.seq (.reg [(qq a2 (.mv xF))]) (.seq cc5 (.seq bt3 (.seq cc6 aL9))))
def Zd:=wu aM0.eq_1
def c3:CF:= .mk 7 [.t a2] aM0
theorem e3(v0:V):aN 7 [v0]=(.n nX (some v0) nX):=rfl
def B3:=ai @e3 (ai @bN1 (ai @dd2 (ai @bN2 (ai @dd3 (ai @bN3 (ai @bN4 (ai @dd4 (ai @bN5 (ai @dd5 (ai @cE4 (ai @cE5 (ai @cE6 (ai @cE7 (ai @Zc (@Zd)))))))))))))))
theorem l3(Φ:Nat→Option CF)(h:Φ 3=some c3){L:List gk}(h4:Φ 4=some (.orc (vY L [2,3])))(p:LsP Φ L){F:RO}{M:Mem}{c:Nat}{v:V}{bs:List UInt8}(ok:dH F M c)(hs:nk F M c v bs)(hlow:∀g,g<1000→M.get g=none)(ht:bE F L=true)(he:jH F [2,3]=true):
 Calls Φ F 3 [v] M c fun r _ _=>r= .b true:=by
 have hkn:=fun M c=>EG ht he M c
 have hE:∀g∈[2,3],cD F g:=fun g hg=>by
  obtain⟨_,ty,t,b,o,h⟩:=qb he g hg;exact Kp (by rw[h];rfl)
 refine aq h ?_
 have hln:=hs.len
 by_cases h1:(4000<bs.length∧bs.length≤8192)∨100000<bs.length
 ·rcases h1 with⟨h1,h2⟩|h1
  ·have d1:decide ((4000:Int)<(bs.length:Int))=true:=af (by omega);have d2:decide ((bs.length:Int)≤8192)=true:=af (by omega);simp only[WX,B3,hln,d1,d2,h4,hkn]
  ·have d1:decide ((4000:Int)<(bs.length:Int))=true:=af (by omega);have d2:decide ((bs.length:Int)≤8192)=false:=ag (by omega);have d3:decide ((100000:Int)<(bs.length:Int))=true:=af (by omega);simp only[WX,B3,hln,d1,d2,d3,h4,hkn]
 ·have hlen:bs.length≤100000:=by omega
  have d3:decide ((100000:Int)<(bs.length:Int))=false:=ag (by omega);have start:∀(u:List (Option V)) (Q:Ex→St→Prop),(∀(u:List (Option V)) (v2:V) M' c',Gr c M c' M'→nk F M' c' v2 (bs++[119])→Q .nrm (.mk ((cz8 u v (.b false) v2)) [] M' c'))→Wp bt3 (K Φ none 3 F) (.mk ((cz9 u v (.b false))) [] M c) Q:=by
   intro u Q hQ;simp only[WX,B3];refine aC ((uu (c0:=c) (b:=0) (es:=[]) d6.nil ok (ak _) (by decide) hs (oE _) (jp (by rw[List.length_map,eP];omega) (by rw[List.length_map,eP];omega))).mono ?_);rintro v1 M1 c1 ⟨b1,hA1,ok1,le1,o1⟩;rw[List.nil_append]at hA1;have gX:=(Gr.refl ok1).set c1 (fV [.i .u8 0] 5 [.i .u8 119]) (ak _) (bf _) (bD _);have hy:dp F (M1.set c1 (fV [.i .u8 0] 5 [.i .u8 119])) (c1+1) 1 (.l c1 0 1 1) ([(119:UInt8)].map fun x=>[bV x]):=Ys (d:=[.i .u8 0]) (ty:=5) (av _ _ _) (by omega) (fun e he=>by obtain⟨x,_,rfl⟩:=List.mem_map.1 he;rfl) rfl;simp only[WX];refine aC ((uu (c0:=c) (hA1.gr gX) (gX.ok ok1) (by omega) (by decide) hy rfl (jp (by rw[List.length_map,List.length_map,List.length_singleton];omega) (by rw[List.length_map,List.length_map,List.length_singleton];omega))).mono ?_);rintro v2 M2 c2 ⟨b2,hA2,ok2,le2,o2⟩;simp only[WX];rw[←List.map_append]at hA2;exact hQ (G1 (X1 (G2 (ka (gu (eG (X8 (X2 (X1 []))))))))) v2 M2 c2 ⟨by omega,fun x hx=>(o2 x hx).trans ((gX.old x (by omega)).trans (o1 x hx)),ok2.hiM⟩ hA2.sl
  have q0:∀t:List UInt8,aK .neq (sV t) (sV t)=some (.b false):=fun t=>by have:=ss t t;rwa [af rfl]at this
  have q1:aK .add (sV bs) (.s 1 119)=some (sV (bs++[119])):=dy bs [119] (by rw[List.length_singleton];omega);by_cases h2:8192<bs.length
  ·have d1:decide ((4000:Int)<(bs.length:Int))=true:=af (by omega);have d2:decide ((bs.length:Int)≤8192)=false:=ag (by omega);have d4:decide ((8192:Int)<(bs.length:Int))=true:=af (by omega);simp only[WX,e3,bN1,bN2,Zd,hln,d1,d2,d3];refine start (G1 (X1 (G1 (ka (gu (eG (X8 (X4 [])))))))) _ ?_;intro u v2 M2 c2 g2 hv2;have ok2:=g2.ok ok;obtain⟨v4,e4,hs4⟩:=hv2.take bs.length (by simp);rw[List.take_left]at hs4;simp only[WX,bN3,hln,e4];refine aC ((r5n Φ p.h5 ok2 hs4 h2).mono ?_);rintro r M3 c3 ⟨rfl,g3⟩;have g23:=g2.trans g3;simp only[WX,bN4,bN5,Zc];refine aC ((r6n Φ p.h6 (g3.ok ok2) (hs.grow g23) h2).mono ?_);rintro r M4 c4 ⟨rfl,g4⟩;have b1:=qL (hv2.grow (g3.trans g4));have b0:=qL (hs.grow (g23.trans g4));have z0:aK .neq (.s 0 0) (.s 0 0)=some (.b false):=s00;have z1:aK .eql (.s 0 0) (.s 0 0)=some (.b true):=ag0 [];simp only[WX,B3,b0,b1,q0,q1,z0,z1,hln,d4,h4,hkn]
  ·have d1:decide ((4000:Int)<(bs.length:Int))=false:=ag (by omega);have d4:decide ((8192:Int)<(bs.length:Int))=false:=ag (by omega);have hl4:bs.length≤4000:=by omega
   simp only[WX,e3,bN1,bN2,Zd,hln,d1,d3];refine start (G1 (X1 (G1 (ka (gu (eG (X8 (X4 [])))))))) _ ?_;intro u v2 M2 c2 g2 hv2;have ok2:=g2.ok ok;obtain⟨v4,e4,hs4⟩:=hv2.take bs.length (by simp);rw[List.take_left]at hs4;simp only[WX,bN3,hln,e4];refine aC ((r5 Φ p.h5 p.h14 p.h32 p.e.h15 p.h17 p.e.h16 p.e.h37 p.e.h65 p.e.h66 p.e.h67 p.h11 p.h13 p.h31 p.h12 p.h18 p.h30 p.h60 ht ok2 hs4 hl4).mono ?_);rintro r M3 c3 ⟨rfl,g3⟩;have g23:=g2.trans g3;simp only[WX,bN4,bN5,Zc];refine aC ((r6 Φ p.h6 p.h19 p.h39 p.h20 p.h17 p.e.h16 p.e.h37 p.e.h65 p.e.h66 p.e.h67 ht (g3.ok ok2) (hs.grow g23) hl4).mono ?_);rintro r M4 c4 ⟨rfl,g4⟩;have g24:=g23.trans g4;have b1:=qL (hv2.grow (g3.trans g4));have b0:=qL (hs.grow g24);have ok4:=g24.ok ok;simp only[WX,B3,b0,b1,q0,q1,hln,d4];have hll:=uA bs;refine aC ((r7 Φ p.h7 p.h21 p.h43 p.h22 p.h49 p.h23 p.e p.h24 p.h51 p.h62 p.h25 p.h26 p.h54 p.h83 p.h55 p.h92 ok4 ht (hE 2 (by simp)) (hE 3 (by simp)) (fun g hg=>(g24.old g (by have:=ok.ge;omega)).trans (hlow g hg)) (s:=jk bs) (xs:=p7 bs) (by omega) (al0 bs) (by rw[A7];exact XE bs) (fun k hk hk'=>by have:=bD5 bs k (by rwa [A7]at hk) hk';simpa only[A7]using this) (by rw[yx];omega) (bD4 bs)).mono ?_);rintro r M5 c5 ⟨bv,rfl,hbv,g5⟩;rw[yx]at hbv;have ok5:=g5.ok ok4;have gX:=(Gr.refl ok5).set c5 (aw 28 [bv,.l0,.l0]) (ak _) (bf _) (bD _);obtain⟨z1,z2,z3⟩:cU bv=true∧flatten bv=[bv]∧bh [bv,.l0,.l0]=true:=by
    rcases hbv with⟨_,⟨_,rfl|⟨b,o0,o,rfl⟩⟩|⟨b,o,⟨cap,_,rfl⟩|⟨el,kn,_,rfl⟩,_⟩⟩<;>exact⟨rfl,rfl,rfl⟩
   have b5:=qL (hbv.grow gX);have b6:=qL (hs.grow ((g24.trans g5).trans gX));have e0:aK .eql (sV bs) (sV bs)=some (.b true):=ag0 bs;have a0:aK .add (.i .i64 0) (.i .i64 0)=some (.i .i64 0):=bH 0 0 (by omega) (by omega);simp only[WX,Nat.reduceAdd,Nat.reduceLeDiff,B3,z3,b5,b6,e0,a0,p.h8,cp1,h4,hkn]
theorem bk1{ct:Nat}(h:1000≤ct):dH [] (.e:Mem) ct:=⟨fun b _=>rfl,fun b _=>rfl,fun b hb=>(by cases hb),h⟩
section
variable{P:Program}(hm:P.follows .mixedOrders=true){Φ:Nat→Option CF}(hΦ:eO P Φ)
include hm hΦ
theorem o8(h:Φ 8=some c8):b7 P 8 (ah h8):=bO hm hΦ (by
 intro args v ct hv hct;unfold h8 at hv;split at hv
 ·obtain rfl:=ae hv;exact⟨trivial,t8 Φ h _ _⟩
 ·cases hv)
theorem o76(h:Φ 76=some c76):b7 P 76 (ah KF):=bO hm hΦ (by
 intro args v ct hv hct;unfold KF at hv;split at hv
 ·obtain rfl:=ae hv;exact⟨trivial,t76 Φ h _ _⟩
 ·cases hv)
theorem cY9(h:Φ 125=some ac2)(KF:Φ 76=some (.orc (ah KF))):b7 P 125 (ah vO):=bO hm hΦ (by
 intro args v ct hv hct;unfold vO at hv;split at hv
 ·obtain⟨l,rfl,hv1⟩:=ij hv;split at hv1
  ·rename_i hl;obtain rfl:=ae hv1;obtain⟨r,M1,c1,e,rfl⟩:=d90 Φ h KF (bk1 hct) l hl;exact⟨trivial,M1,c1,e⟩
  ·cases hv1
 ·cases hv)
theorem cY5(h:Φ 108=some ab8)(vO:Φ 125=some (.orc (ah vO))):b7 P 108 (ah vM):=bO hm hΦ (by
 intro args v ct hv hct;unfold vM at hv;split at hv
 ·obtain⟨l,rfl,hv1⟩:=ij hv;split at hv1
  ·rename_i hl;obtain rfl:=ae hv1;exact⟨trivial,db4 Φ h vO l hl _⟩
  ·cases hv1
 ·cases hv)
theorem o75(h:Φ 75=some c75)(vM:Φ 108=some (.orc (ah vM))):b7 P 75 (ah Xd):=bO hm hΦ (by
 intro args v ct hv hct;unfold Xd at hv;split at hv
 ·obtain⟨l,rfl,hv1⟩:=ij hv;split at hv1
  ·rename_i hl;obtain rfl:=ae hv1;exact⟨trivial,t75 Φ h vM l hl _⟩
  ·cases hv1
 ·cases hv)
theorem o46(h:Φ 46=some c46)(h74:Φ 74=some c74)(h107:Φ 107=some (.orc (ah h107)))(h64:Φ 64=some (.orc (ah h64)))(h124:Φ 124=some Bl)(Xd:Φ 75=some (.orc (ah Xd))):b7 P 46 (ah h46):=bO hm hΦ (by
 intro args v ct hv hct;unfold h46 at hv;split at hv
 ·obtain⟨l,rfl,hv1⟩:=ij hv;split at hv1
  ·rename_i hl;obtain rfl:=ae hv1;obtain⟨r,M1,c1,e,rfl⟩:=r46 Φ h h74 h107 h64 h124 Xd (bk1 hct) l hl;exact⟨trivial,M1,c1,e⟩
  ·cases hv1
 ·cases hv)
end
end
end Go.Proofs.YtmjeiphepinphaaGreatDoor.Ev
