/- What is proved here: pieces of the evaluator's soundness: if the evaluator comes to a value, the model's run comes to it, for every world and tape; no conditions beyond the hypotheses of each theorem. -/
import Derived.Test.YtmjeiphepinphaaGreatDoorEv6
set_option linter.unusedSimpArgs false
set_option linter.unusedVariables false
set_option linter.defProp false
set_option maxRecDepth 10000
set_option maxHeartbeats 16000000
namespace Go.Proofs.YtmjeiphepinphaaGreatDoor.Ev
open Go
noncomputable section
theorem d87(Φ:Nat→Option CF)(h:Φ 109=some u2)(h126:Φ 126=some su)(h57:Φ 57=some Bm)(h94:Φ 94=some (.orc (ah h94))){F:RO}{M:Mem}{c:Nat}(ok:dH F M c)(l:List UInt8)(hl:l.length≤1000000):
 Calls Φ F 109 [sV l] M c fun r M' c'=>∃(z:Int) (e:V),r= .t [.i .i64 z,e]∧xq e∧Gr c M c' M'∧(∀m,-10000000<m→m<10000000→l=cz m→z=m∧e= .a0):=by
 refine aq h ?_
 by_cases hs:1≤l.length∧l.length<19
 ·obtain⟨hs1,hs2⟩:=hs;have d1:decide ((0:Int)<(l.length:Int))=true:=af (by omega);have d2:decide ((l.length:Int)<19)=true:=af (by omega);have hix:uf (sV l) (.i .i64 0)=some (.i .u8 (l[0].toNat:Int)):=BR l .i64 0 (by omega);have hd:=yM l .i64 1 hs1;rw[show((1:Nat):Int)=1 from rfl]at hd;have conv:∀x:UInt8,x.toNat=45→x=45:=fun x hx=>UInt8.toNat_inj.1 (by rw[hx];rfl)
  have shp:∀m,-10000000<m→m<10000000→l=cz m→(l[0].toNat=45∧l.drop 1≠[]∧(∀x∈l.drop 1,io x)∧m= -(kO (l.drop 1):Int))∨(l[0].toNat≠45∧l[0].toNat≠43∧(∀x∈l,io x)∧m=(kO l:Int)):=by
   intro m m1 m2 e;obtain⟨_,h1|h1⟩:=jJ m1 m2
   ·right;obtain⟨h2,h1003,h1004⟩:=h1;rw[←e]at h1003 h1004;have:=h1003 l[0] (List.getElem_mem _);unfold io at this;exact⟨by omega,by omega,h1003,h1004.symm⟩
   ·left;obtain⟨h2,r,h1003,h1004,h1005,h1006⟩:=h1;have hlr:l=45::r:=by rw[e,h1003]
    subst hlr;exact⟨rfl,h1004,h1005,by rw[List.drop_one,List.tail_cons];omega⟩
  by_cases h78:l[0].toNat=45
  ·have d45:decide ((l[0].toNat:Int)=45)=true:=af (by omega);by_cases hlen1:(l.drop 1).length<1
   ·have dl:decide (((l.drop 1).length:Int)<1)=true:=af (by omega);simp only[WX,Bs,o9,oa,oc,tj,tk,wS,wT,Fx,wU,oR,oS,kz,kB,d1,d2,hix,d45,hd,dl,fH];refine⟨_,_,rfl,.inr (.inr rfl),Gr.refl ok,fun m m1 m2 e=>?_⟩;rcases shp m m1 m2 e with⟨_,h2,_⟩|⟨h2,_⟩
    ·exact absurd (List.length_eq_zero_iff.1 (by omega)) h2
    ·exact absurd h78 h2
   ·have dl:decide (((l.drop 1).length:Int)<1)=false:=ag (by omega);simp only[WX,Bs,o9,oa,oc,tj,tk,wS,wT,wU,oR,uL,oS,kz,kB,d1,d2,hix,d45,hd,dl];refine(AD ok l (l.drop 1) hs1 (by rw[dv];omega) (G1 (X4 (G2 (ka (gu (eG (X8 [])))))))).mono ?_;rintro e s ⟨rfl,t,M',c',z,er,rfl,g1,g2,he,hg,hval⟩;simp only[WX,g1,g2];refine⟨z,er,rfl,he,hg,fun m m1 m2 e=>?_⟩;rcases shp m m1 m2 e with⟨_,_,h1003,h1004⟩|⟨h2,_⟩
    ·obtain⟨a1,a2⟩:=hval h1003;rw[ac h78]at a2;exact⟨a2.trans h1004.symm,a1⟩
    ·exact absurd h78 h2
  ·have d45:decide ((l[0].toNat:Int)=45)=false:=ag (by omega);by_cases h77:l[0].toNat=43
   ·have d43:decide ((l[0].toNat:Int)=43)=true:=af (by omega);by_cases hlen1:(l.drop 1).length<1
    ·have dl:decide (((l.drop 1).length:Int)<1)=true:=af (by omega);simp only[WX,Bs,o9,oa,oc,tj,tk,wS,wT,Fx,wU,oR,oS,kz,kB,d1,d2,hix,d45,d43,hd,dl,fH];refine⟨_,_,rfl,.inr (.inr rfl),Gr.refl ok,fun m m1 m2 e=>?_⟩;rcases shp m m1 m2 e with⟨h2,_⟩|⟨_,h2,_⟩
     ·exact absurd h2 h78
     ·exact absurd h77 h2
    ·have dl:decide (((l.drop 1).length:Int)<1)=false:=ag (by omega);simp only[WX,Bs,o9,oa,oc,tj,tk,wS,wT,wU,oR,uL,oS,kz,kB,d1,d2,hix,d45,d43,hd,dl];refine(AD ok l (l.drop 1) hs1 (by rw[dv];omega) (G1 (X4 (G2 (ka (gu (eG (X8 [])))))))).mono ?_;rintro e s ⟨rfl,t,M',c',z,er,rfl,g1,g2,he,hg,hval⟩;simp only[WX,g1,g2];refine⟨z,er,rfl,he,hg,fun m m1 m2 e=>?_⟩;rcases shp m m1 m2 e with⟨h2,_⟩|⟨_,h2,_⟩
     ·exact absurd h2 h78
     ·exact absurd h77 h2
   ·have d43:decide ((l[0].toNat:Int)=43)=false:=ag (by omega);simp only[WX,Bs,o9,oa,oc,tj,tk,oR,uL,oS,kz,kB,d1,d2,hix,d45,d43];refine(AD ok l l hs1 (by omega) (G1 (X4 (G2 (ka (gu (eG (X8 [])))))))).mono ?_;rintro e s ⟨rfl,t,M',c',z,er,rfl,g1,g2,he,hg,hval⟩;simp only[WX,g1,g2];refine⟨z,er,rfl,he,hg,fun m m1 m2 e=>?_⟩;rcases shp m m1 m2 e with⟨h2,_⟩|⟨_,_,h1003,h1004⟩
    ·exact absurd h2 h78
    ·obtain⟨a1,a2⟩:=hval h1003;rw[ab h78]at a2;exact⟨a2.trans h1004.symm,a1⟩
 ·have hno:∀m,-10000000<m→m<10000000→l≠cz m:=by
   intro m m1 m2 e;obtain⟨⟨h1,h2⟩,_⟩:=jJ m1 m2;rw[←e]at h1 h2;omega
  have fin:∀{z:Int} {e:V} {M1:Mem} {c1:Nat},xq e→Gr c M c1 M1→ ∃(z':Int) (e':V),V.t [.i .i64 z,e]= .t [.i .i64 z',e']∧xq e'∧Gr c M c1 M1∧(∀m,-10000000<m→m<10000000→l=cz m→z'=m∧e'= .a0):=fun he hg=>⟨_,_,rfl,he,hg,fun m m1 m2 e=>absurd e (hno m m1 m2)⟩;cases d1:decide ((0:Int)<(l.length:Int))with
  |true=>
   have d2:decide ((l.length:Int)<19)=false:=ag (by rw[decide_eq_true_eq]at d1;omega);simp only[WX,Bs,o9,oa,oc,kz,AL,kB,d1,d2];refine aC ((cw4 Φ h126 h57 h94 ok l hl).mono ?_);rintro r M1 c1 ⟨z,e,rfl,he,hg⟩;simp only[WX,Ds];exact fin he hg
  |false=>
   simp only[WX,Bs,o9,oa,oc,kz,AL,kB,d1];refine aC ((cw4 Φ h126 h57 h94 ok l hl).mono ?_);rintro r M1 c1 ⟨z,e,rfl,he,hg⟩;simp only[WX,Ds];exact fin he hg
def aE3:CC:=(.reg [(qq a2 (.mv z0)),(qq a3 (.nck z2)),(qq a4 (.fa 0 z3)),(qq a5 (.ld1 z4)),(qq a6 (.eq false .ptr true z5 (.c .p0)))])
def aE4:CC:=(.reg [(qq a7 (.mv z0)),(qq a8 (.mv z0)),(qq a9 (.up z8)),(qq cE (.mv z9)),(qq cW (.dn 41 2 cT)),(qq dh (.nck z7)),(qq d8 (.fa 0 cH)),(ez (.st 1 cI cM))])
def aE5:CC:=(.reg [(qq dK (.mv z0)),(qq dL (.nck dM)),(qq dJ (.fa 0 dA)),(qq eD (.ld1 dX)),(qq eZ (.mv z0)),(qq eN (.eq true .ptr false eJ fh))])
def aE6:CC:=(.cond z6 aE4 (.seq aE5 (.cond fL .bad .skip)))
def Ka:CF:= .mk 5 [] (.seq aE3 aE6)
theorem e30(v0:V):aN 5 [v0]=(.n kV (some v0) kV):=rfl
def B30:=ai @e30 (ai (wu aE3.eq_1) (ai (wu aE4.eq_1) (ai (wu aE5.eq_1) (wu aE6.eq_1))))
def aX8:CC:=(.dreg 16 [(0,0,(qq a5 (.mv z0))),(1,1,(qq a6 (.nck z5))),(2,3,(qq a7 (.fa 1 z6))),(3,7,(qq a8 (.ld1 z7))),(4,15,(qq a9 (.cp z8))),(5,31,(qq cE (.bi .mul (x6 2) z9))),(6,0,(qq cW (.mv z1))),(7,127,(qq dh (.bi .add cT cM))),(8,255,(aa d8 (.nz 5 cH))),(9,0,(qq dK (.mv z0))),(10,512,(qq dL (.nck dM))),(11,1536,(qq dJ (.fa 1 dA))),(12,3584,(qq eD (.ld1 dX))),(13,7680,(qq eZ (.ln .slice eJ))),(14,16383,(qq eN (.slL 1 cI none (some fh) none))),(15,32767,(qq a4 (.mv fL)))])
def aX9:CC:=(.reg [(qq fq (.mv z4)),(qq ej (.mv z0)),(qq eE (.nck gD)),(qq eT (.fa 1 gw)),(qq ga (.ld1 ia)),(ee fP (.cpy 1 fO ib))])
def aY0:CC:=(.reg [(qq ft (.mv z0)),(qq ie (.mv z4)),(qq gz (.nck gy)),(qq fJ (.fa 1 iK)),(ez (.st 1 j8 iU))])
def Me:CF:= .mk 5 [] (.seq aX8 (.seq aX9 aY0))
theorem e60(v0 v1:V):aN 5 [v0,v1]=(.n (.n eX (some v1) eX) (some v0) kV):=rfl
def B60:=ai @e60 (ai (wu aX8.eq_1) (ai (wu aX9.eq_1) (wu aY0.eq_1)))
def aE7:CC:=(.reg [(qq a4 (.mv z0)),(ee a5 (.call 30 [z4]))])
def aE8:CC:=(.reg [(qq a6 (.mv z1)),(qq a7 (.bi .lss z6 (x6 0)))])
def aE9:CC:=(.reg [(qq a8 (.mki 9 (.c (.s 36 226187813140227768008177986391742176399534891738691412630441701833056540972817830802547)))),⟨none,.q (.bad),none⟩])
def aF0:CC:=(.dreg 13 [(0,0,(qq a9 (.mv z0))),(1,1,(qq cE (.nck z9))),(2,3,(qq cW (.fa 1 cT))),(3,7,(qq dh (.ld1 cM))),(4,15,(qq d8 (.cp cH))),(5,0,(qq dK (.mv z0))),(6,32,(qq dL (.nck dM))),(7,96,(qq dJ (.fa 1 dA))),(8,224,(qq eD (.ld1 dX))),(9,480,(qq eZ (.ln .slice eJ))),(10,1023,(qq eN (.bi .sub cI fh))),(11,0,(qq fq (.mv z1))),(12,4095,(qq ej (.bi .lss fL fO)))])
def aF1:CC:=(.reg [(qq eE (.mv z0)),(qq eT (.mv z1)),(ee ga (.call 60 [gw,ia]))])
def aF2:CC:=(.seq aF0 (.cond gD aF1 .skip))
def aF3:CC:=(.seq (.seq aE8 (.cond z7 aE9 .skip)) aF2)
def Wi:CF:= .mk 5 [] (.seq aE7 aF3)
theorem e31(v0 v1:V):aN 5 [v0,v1]=(.n (.n eX (some v1) eX) (some v0) kV):=rfl
def B31:=ai @e31 (ai (wu aE7.eq_1) (ai (wu aE8.eq_1) (ai (wu aE9.eq_1) (ai (wu aF0.eq_1) (ai (wu aF1.eq_1) (ai (wu aF2.eq_1) (wu aF3.eq_1)))))))
def aw0:CC:=(.reg [(qq a4 (.mv (x6 0))),(qq a5 (.mv (.c .a0)))])
def aw1:CC:=(.reg [(qq a6 (.mv z0)),(ee a7 (.call 30 [z6]))])
def aw2:CC:=(.reg [(qq a8 (.mv z0)),(qq a9 (.mv z0)),(qq cE (.nck z9)),(qq cW (.fa 1 cT)),(qq dh (.ld1 cM)),(qq d8 (.mv z1)),(ee dK (.app 5 1 1 cH cI)),(qq dL (.nck z8)),(qq dJ (.fa 1 dA)),(ez (.st 1 dX dM))])
def aw3:CC:=(.reg [(qq eD (.mv z1)),(qq eZ (.ln .str eJ)),(qq a4 (.mv fh)),(qq a5 (.mv (.c .a0)))])
def Wg:CF:= .mk 5 [.t a4,.t a5] (.seq aw0 (.seq aw1 (.seq aw2 (.seq aw3 .ret))))
theorem e12(v0 v1:V):aN 5 [v0,v1]=(.n (.n eX (some v1) eX) (some v0) kV):=rfl
def B12:=ai @e12 (ai (wu aw0.eq_1) (ai (wu aw1.eq_1) (ai (wu aw2.eq_1) (wu aw3.eq_1))))
def az1:CC:=(.dreg 12 [(0,0,(qq a3 (.mv z0))),(1,1,(qq a4 (.nck z3))),(2,3,(qq a5 (.fa 1 z4))),(3,7,(qq a6 (.ld1 z5))),(4,15,(qq a7 (.sd z6))),(5,0,(qq a8 (.mv z0))),(6,32,(qq a9 (.nck z8))),(7,96,(qq cE (.fa 1 z9))),(8,224,(qq cW (.ld1 cT))),(9,480,(qq dh (.ln .slice cM))),(10,1023,(ee d8 (.us 5 z7 cH))),(11,2047,(qq a2 (.mv cI)))])
def az2:CC:=(.seq (.reg [(qq a2 (.mv (.c (.s 0 0))))]) (.seq az1 .ret))
def Wh:CF:= .mk 4 [.t a2] az2
theorem e18(v0:V):aN 4 [v0]=(.n eX (some v0) eX):=rfl
def B18:=ai @e18 (ai (wu az1.eq_1) (wu az2.eq_1))
def ic(M:Mem)(c0 c b bb:Nat)(l:List UInt8):Prop:=
 c0≤b∧b<c∧b≠bb∧ ∃a v,M.get b=some (aw 41 [a,v])∧(a= .p0∨a= .p b 0)∧tl M c0 c bb v l
theorem ic.up{M M':Mem}{c0 c c' b bb:Nat}{l:List UInt8}(h:ic M c0 c b bb l)(hc:c≤c')(hb:∀x,x<c→M'.get x=M.get x):ic M' c0 c' b bb l:=by
 obtain⟨h1,h2,h1003,a,v,h1004,h1005,h1006⟩:=h
 exact⟨h1,by omega,h1003,a,v,by rw[hb b h2];exact h1004,h1005,h1006.up hc (hb bb)⟩
theorem by9{F:RO}(lit:Bool)(M:Mem):xj F M .ptr lit .p0 .p0=some true:=Eq.trans rfl (Eq.refl _)
theorem bz0{F:RO}(lit:Bool)(M:Mem)(b o:Nat):xj F M .ptr lit (.p b o) .p0=some false:=Eq.trans rfl (Eq.refl _)
theorem bz1{F:RO}(lit:Bool)(M:Mem)(b o:Nat):xj F M .ptr lit (.p b o) (.p b o)=some true:=by
 show Ca F M b o b o=_
 unfold Ca
 rw[bF,af rfl,cond_true,Nat.beq_refl]
theorem HY{M:Mem}{c0 c b:Nat}{v:V}{l:List UInt8}(h:tl M c0 c b v l):cU v=true∧flatten v=[v]∧BW v=some (.i .i64 (l.length:Int)):=by
 rcases h with⟨rfl,rfl⟩|⟨_,_,n,_,rfl,_⟩
 ·exact⟨rfl,rfl,A6⟩
 ·exact⟨rfl,rfl,XA _ _ _ _ _⟩
theorem r30(Φ:Nat→Option CF)(h:Φ 30=some Ka){F:RO}{M:Mem}{c b:Nat}{a v:V}(hM:M.get b=some (aw 41 [a,v]))(ha:a= .p0∨a= .p b 0):
 Calls Φ F 30 [.p b 0] M c fun _ M' c'=>M'=M.set b (aw 41 [.p b 0,v])∧c'=c:=by
 refine aq h ?_
 have l0:load1 F M b 0=some a:=aX hM 0
 rcases ha with rfl|rfl
 ·have hu:upV F M (.p b 0)=some (.p b 0):=ar0 hM (by simp);have hd:dnV 41 2 F M (.p b 0)=some (.p b 0):=ae6 hM;have hst:=bG hM 0 [.p b 0] (by simp) rfl;simp only[WX,B30,jf,ec,l0,by9,dd1,dc8,hu,hd,hst]
 ·simp only[WX,B30,jf,ec,l0,bz0,bz1];exact rE hM
theorem r60(Φ:Nat→Option CF)(h:Φ 60=some Me){F:RO}{M:Mem}{c b:Nat}(ok:dH F M c)(hb:b<c)(hM:M.get b=some (aw 41 [.p b 0,.l0]))(n:Nat)(hn:n≤1099511627776):
 Calls Φ F 60 [.p b 0,.i .i64 (n:Int)] M c fun _ M' c'=>M'=(M.set (c+8) (t0 5 n [])).set b (aw 41 [.p b 0,.u (c+8) 0 0 0 n])∧c'=c+16:=by
 refine aq h ?_
 have l1:load1 F M b 1=some .l0:=aX hM 1
 have hlk:(look F M (c+8)).isNone=true:=by rw[ok.look (show c≤c+8 by omega)];rfl
 have hne:b≠c+8:=by omega
 have m2:aK .mul (.i .i64 2) (.i .i64 0)=some (.i .i64 0):=mi 2 0 (by omega) (by omega)
 have a2:aK .add (.i .i64 0) (.i .i64 (n:Int))=some (.i .i64 (n:Int)):=by rw[bH _ _ (by omega) (by omega)];simp
 have hsl:Fo 1 (.u (c+8) 0 n 0 n) none (some (.i .i64 0)) none=some (.u (c+8) 0 0 0 n):=by
  show(pD 1 (c+8) 0 0 n 0 0).val=_;unfold pD;rw[bQ,bQ,af (aP n),af (aP 0)];show(mkU (c+8) 0 0 0 n).val=_;rw[Ac];rfl
 have l2:load1 F (M.set (c+8) (t0 5 n [])) b 1=some .l0:=by rw[C1 _ _ _ hne];exact l1
 have hg2:(M.set (c+8) (t0 5 n [])).get b=some (aw 41 [.p b 0,.l0]):=by rw[am _ _ hne];exact hM
 have hst:=bG hg2 1 [.u (c+8) 0 0 0 n] (by simp) rfl
 simp only[WX,Nat.reduceAdd,B60,lZ,ec,jf,l1,WC,E8,m2,a2,bs7,at4,IR,cr7,hn,hlk,jo,ed,hne,ne_eq,not_false_eq_true,by4,hsl,kK,l2,CI,bw7,hst]
theorem Aw{n:Nat}(h:n≤1073741824):pa n 1=true:=jp (by omega) (by omega)
theorem r31(Φ:Nat→Option CF)(h:Φ 31=some Wi)(h30:Φ 30=some Ka)(h60:Φ 60=some Me){F:RO}{M0 M:Mem}{c0 c b:Nat}(ok:dH F M c)(hg:Gr c0 M0 c M)(k1:c0≤b)(k2:b<c)(hM:M.get b=some (aw 41 [.p0,.l0]))(n:Nat)(hn:n≤1099511627776):
 Calls Φ F 31 [.p b 0,.i .i64 (n:Int)] M c fun _ M' c'=>∃bb',ic M' c0 c' b bb' []∧Gr c0 M0 c' M'∧c≤c'∧(∀x,x<c→x≠b→M'.get x=M.get x):=by
 refine aq h ?_
 simp only[WX,B31]
 refine aC ((r30 Φ h30 hM (.inl rfl)).mono ?_)
 rintro v1 M1 c1 ⟨rfl,rfl⟩
 have hg1:=hg.set b (aw 41 [.p b 0,.l0]) k1 k2 (ak _)
 have ok1:=ok.put (y:=aw 41 [.p b 0,.l0]) k2 hM
 have g1:(M.set b (aw 41 [.p b 0,.l0])).get b=some (aw 41 [.p b 0,.l0]):=av _ _ _
 have l1:load1 F (M.set b (aw 41 [.p b 0,.l0])) b 1=some .l0:=aX g1 1
 have d0:decide ((n:Int)<0)=false:=ag (by omega)
 have s0:aK .sub (.i .i64 0) (.i .i64 0)=some (.i .i64 0):=by rw[iZ];rfl
 by_cases hz:n=0
 ·have d1:decide ((0:Int)<(n:Int))=false:=ag (by omega);simp only[WX,B31,d0,lZ,ec,l1,WC,E8,s0,d1];exact⟨c1,⟨k1,by omega,by omega,_,_,g1,.inr rfl,.inl ⟨rfl,rfl⟩⟩,hg1.up (by omega),by omega,fun x hx hxb=>am _ _ hxb⟩
 ·have d1:decide ((0:Int)<(n:Int))=true:=af (by omega);simp only[WX,B31,d0,lZ,ec,l1,WC,E8,s0,d1];have ok2:dH F (M.set b (aw 41 [.p b 0,.l0])) (c1+13):=⟨fun x hx=>ok1.hiM x (by omega),fun x hx=>ok1.hiF x (by omega),ok1.ap,by have:=ok1.ge;omega⟩
  refine aC ((r60 Φ h60 ok2 (by omega) g1 n hn).mono ?_);rintro v2 M2 c2 ⟨rfl,rfl⟩;simp only[WX,Nat.reduceAdd];refine⟨c1+13+8,⟨k1,by omega,by omega,_,_,av _ _ _,.inr rfl,.inr ⟨by omega,by omega,n,⟨aP _,by omega⟩,rfl,?_⟩⟩,?_,by omega,fun x hx hxb=>?_⟩
  ·rw[am _ _ (by omega),av];rfl
  ·exact((hg1.up (show c1≤c1+13 by omega)).set (c1+13+8) _ (by have:=hg.le;omega) (show c1+13+8<c1+13+16 by omega) (by omega)).set b _ k1 (by omega) (by omega)
  ·rw[am _ _ hxb,am _ _ (by omega),am _ _ hxb]
theorem r12(Φ:Nat→Option CF)(h:Φ 12=some Wg)(h30:Φ 30=some Ka){F:RO}{M0 M:Mem}{c0 c b bb:Nat}{l:List UInt8}(ok:dH F M c)(hg:Gr c0 M0 c M)(hb:ic M c0 c b bb l)(s:List UInt8)(hr:pa (l.length+s.length) 1=true):
 Calls Φ F 12 [.p b 0,sV s] M c fun _ M' c'=>∃bb',ic M' c0 c' b bb' (l++s)∧Gr c0 M0 c' M'∧c≤c'∧(∀x,x<c→x≠b→x≠bb→M'.get x=M.get x)∧(bb'=bb∨c≤bb'):=by
 obtain⟨k1,k2,k3,a,v,hM,ha,hbuf⟩:=hb
 refine aq h ?_
 simp only[WX,B12]
 refine aC ((r30 Φ h30 hM ha).mono ?_)
 rintro v1 M1 c1 ⟨rfl,rfl⟩
 have hg1:=hg.set b (aw 41 [.p b 0,v]) k1 k2 (ak _)
 have g1:(M.set b (aw 41 [.p b 0,v])).get b=some (aw 41 [.p b 0,v]):=av _ _ _
 have l1:load1 F (M.set b (aw 41 [.p b 0,v])) b 1=some v:=aX g1 1
 have hbuf1:tl (M.set b (aw 41 [.p b 0,v])) c0 c1 bb v l:=by
  rcases hbuf with h|⟨a1,a2,n,a3,a4,a5⟩
  ·exact .inl h
  ·exact .inr ⟨a1,a2,n,a3,a4,by rw[am _ _ (Ne.symm k3)];exact a5⟩
 simp only[WX,B12,jf,ec,l1]
 refine aC ((bv1 (F:=F) (s:=s) hbuf1 hg1 hr).mono ?_)
 rintro v2 M2 c2 ⟨bb',hb2,hg2,hle,hfr,hbb⟩
 have g2:M2.get b=some (aw 41 [.p b 0,v]):=by rw[hfr b (by omega) k3];exact g1
 obtain⟨o1,o2,_⟩:=HY hb2
 have hst:=bG g2 1 [v2] (by simp) (by rw[iM,o1];rfl)
 simp only[WX,Nat.reduceAdd,B12,jf,ec,o2,hst]
 have hne:b≠bb':=by rcases hbb with h|h<;>omega
 refine⟨bb',⟨k1,by omega,hne,_,_,av _ _ _,.inr rfl,?_⟩,hg2.set b _ k1 (by omega) (ak _),hle,fun x hx hxb hxbb=>?_,hbb⟩
 ·rcases hb2 with h|⟨a1,a2,n,a3,a4,a5⟩
  ·exact .inl h
  ·exact .inr ⟨a1,a2,n,a3,a4,by rw[am _ _ (Ne.symm hne)];exact a5⟩
 ·rw[am _ _ hxb,hfr x hx hxbb,am _ _ hxb]
def usE(F:RO)(M:Mem)(c ty:Nat)(x n:V):RC:=WJ ty (.c x) (.c n) F M c .e
theorem uP{Φ:Nat→Option CF}{rd:Option Nat}{fn:Nat}{F:RO}(ty:Nat)(x n:X)(M:Mem)(c:Nat)(t:T):hU (.us ty x n) (K Φ rd fn F) M c t=usE F M c ty (x.ev t) (n.ev t):=Eq.trans rfl (Eq.refl _)
theorem cC0{F:RO}(M:Mem)(c ty:Nat):usE F M c ty .p0 (.i .i64 0)= .k (.s 0 0) M c:=Eq.trans rfl (Eq.refl _)
theorem bH3{F:RO}(M:Mem)(c ty b o:Nat):usE F M c ty (.p b o) (.i .i64 0)= .k (.s 0 0) M c:=Eq.trans rfl (Eq.refl _)
theorem ar1{F:RO}{M:Mem}{b n:Nat}(c:Nat){l:List UInt8}(hM:M.get b=some (t0 5 n (l.map bV)))(hn:l.length≤n)(hl:l≠[])(hl2:l.length≤1099511627776):
 ∃y,usE F M c 5 (.p b 0) (.i .i64 (l.length:Int))= .k (sV l) (M.set b y) c:=by
 have hld:=(wB (F:=F) hM (by rw[List.length_map];exact hn)).load (by
  intro e;rw[List.map_eq_nil_iff]at e;exact hl e)
 rw[List.length_map]at hld
 have h0:l.length≠0:=fun e=>hl (List.length_eq_zero_iff.1 e)
 refine⟨.cells 5 n false (if 0≤0+l.length then 0+l.length else 0) false [] (j5 (l.map bV)),?_⟩
 show yf F M c 5 b 0 l.length=_
 unfold yf
 rw[bF,ag h0,cond_false]
 have ht:Fv M b 5=true:=by unfold Fv;rw[hM];rfl
 rw[ht,bQ,af hl2]
 show(match loadN F M b 0 l.length with|some vs=>yg M c b 0 (gc vs)|none=>RC.f)=_
 rw[hld]
 show yg M c b 0 (gc (l.map bV))=_
 rw[qM]
 have hf:jj M b 0 l.length=some (M.set b (.cells 5 n false (if 0≤0+l.length then 0+l.length else 0) false [] (j5 (l.map bV)))):=by
  unfold jj;rw[hM];show(bif false then none else fN (bif Nat.ble 0 (Nat.add 0 l.length)then Nat.add 0 l.length else 0) fun fz=>some (M.set b (.cells 5 n false fz false [] (j5 (l.map bV)))))=_;rw[cond_false,aQ,bQ];by_cases h:0≤0+l.length
  ·rw[af (show 0≤Nat.add 0 l.length from h),ac h];rfl
  ·exact absurd (aP _) h
 show(match jj M b 0 l.length with|some M=>fN l.length fun n=>fN (bP l) fun s=>RC.k (.s n s) M c|none=> .f)=_
 rw[hf]
 show(fN l.length fun n=>fN (bP l) fun s=>RC.k (.s n s) _ c)=_
 rw[aQ,aQ];rfl
theorem r18(Φ:Nat→Option CF)(h:Φ 18=some Wh){F:RO}{M0 M:Mem}{c0 c b bb:Nat}{l:List UInt8}(ok:dH F M c)(hg:Gr c0 M0 c M)(hb:ic M c0 c b bb l)(hl:l.length≤1099511627776):
 Calls Φ F 18 [.p b 0] M c fun r M' c'=>r=sV l∧Gr c0 M0 c' M'∧c≤c'∧(∀x,x≠bb→M'.get x=M.get x):=by
 obtain⟨k1,k2,k3,a,v,hM,ha,hbuf⟩:=hb
 refine aq h ?_
 have l1:load1 F M b 1=some v:=aX hM 1
 obtain⟨o1,o2,o1003⟩:=HY hbuf
 rcases hbuf with⟨rfl,rfl⟩|⟨a1,a2,n,⟨a3,a4⟩,rfl,a5⟩
 ·have hf:=ok.free;rw[eP]at o1003;simp only[WX,Nat.reducePow,Nat.reduceDiv,Nat.reduceMod,Nat.reduceBEq,fg,B18,lZ,ec,l1,WD,bG4,o1003,uP,cC0,Int.ofNat_zero,hf];exact⟨rfl,hg.up (by omega),by omega,fun _ _=>trivial⟩
 ·by_cases hl0:l=[]
  ·subst hl0;have hf:=ok.free;rw[eP]at o1003;simp only[WX,Nat.reducePow,Nat.reduceDiv,Nat.reduceMod,Nat.reduceBEq,fg,B18,lZ,ec,l1,WD,bk7 a4,o1003,uP,bH3,Int.ofNat_zero,hf];exact⟨rfl,hg.up (by omega),by omega,fun _ _=>trivial⟩
  ·obtain⟨y,hy⟩:=ar1 (F:=F) (c+12) a5 a3 hl0 hl;have hf:bz (M.set bb y) F=true:=(ok.put (y:=y) a2 a5).free;simp only[WX,Nat.reducePow,Nat.reduceDiv,Nat.reduceMod,Nat.reduceBEq,fg,B18,lZ,ec,l1,WD,bk7 a4,o1003,uP,hy,hf];exact⟨(hg.set bb y a1 a2 (ak _)).up (by omega),by omega,fun x hx=>am _ _ hx⟩
def Nh:CC:=(.reg [(qq a4 (.mv z0)),(qq a5 (.ln .str z4)),(qq a6 (.bi .eql z5 (x6 0)))])
def Ni:CC:=(.seq (.reg [(qq a2 (.mv (.c (.s 0 0))))]) .ret)
def Nj:CC:=(.reg [(qq a7 (.mv z0)),(qq a8 (.ln .str z7)),(aa a9 (.mks 5 1 1 [(.i .u8 0)] z8 z8)),(qq a3 (.mv z9))])
def Nk:CC:=(.reg [(qq cE (.mv z3)),(qq cW (.mv z0)),(ee dh (.cpy 1 cT cM))])
def Nl:CC:=(.reg [(qq d8 (.mv z3)),(qq dK (.iaS 1 cI (x6 0))),(qq dL (.mv z3)),(qq dJ (.ln .slice dA)),(ee eD (.us 5 dM dX)),(qq a2 (.mv eJ))])
def Nm:CC:=(.seq (.seq Nh (.cond z6 Ni .skip)) (.seq Nj (.seq Nk (.seq Nl .ret))))
def Nn:CC:=(.seq (.reg [(qq a2 (.mv (.c (.s 0 0))))]) Nm)
def ac0:CF:= .mk 5 [.t a2] Nn
theorem cV7(v0:V):aN 5 [v0]=(.n kV (some v0) kV):=rfl
def bZ3:=ai @cV7 (ai (wu Nh.eq_1) (ai (wu Ni.eq_1) (ai (wu Nj.eq_1) (ai (wu Nk.eq_1) (ai (wu Nl.eq_1) (ai (wu Nm.eq_1) (wu Nn.eq_1)))))))
def bg6:CC:=(.dreg 7 [(0,0,(qq a5 (.mv z0))),(1,0,(qq a6 (.mv z1))),(3,0,(qq a8 (.ld1 (.c (.p 2 0))))),(2,2,(ee a7 (.call 116 [z6]))),(4,15,(qq a9 (.bld [(.s 0 0),(.s 0 0),.a0] [(0,1,z5),(1,1,z7),(2,1,z8)]))),(5,31,(aa cE (.bx 175 3 z9))),(6,63,(qq a4 (.mv cT)))])
def bg7:CC:=(.seq (.reg [(qq a4 (.mv (.c .p0)))]) (.seq bg6 .ret))
def Kb:CF:= .mk 4 [.t a4] bg7
theorem e96(v0 v1:V):aN 4 [v0,v1]=(.n (.n jq (some v1) jq) (some v0) eX):=rfl
def B96:=ai @e96 (ai (wu bg6.eq_1) (wu bg7.eq_1))
def bg8:CC:=(.dreg 7 [(0,0,(qq a5 (.mv z0))),(1,0,(qq a6 (.mv z1))),(3,0,(qq a8 (.ld1 (.c (.p 3 0))))),(2,2,(ee a7 (.call 116 [z6]))),(4,15,(qq a9 (.bld [(.s 0 0),(.s 0 0),.a0] [(0,1,z5),(1,1,z7),(2,1,z8)]))),(5,31,(aa cE (.bx 175 3 z9))),(6,63,(qq a4 (.mv cT)))])
def bg9:CC:=(.seq (.reg [(qq a4 (.mv (.c .p0)))]) (.seq bg8 .ret))
def Kc:CF:= .mk 4 [.t a4] bg9
theorem e97(v0 v1:V):aN 4 [v0,v1]=(.n (.n jq (some v1) jq) (some v0) eX):=rfl
def B97:=ai @e97 (ai (wu bg8.eq_1) (wu bg9.eq_1))
def aV4:CC:=(.reg [(qq cE (.mv (.c .a0)))])
def aV5:CC:=(.reg [(qq cW (.mv z4))])
def aV6:CC:=(.reg [(qq d8 (.mki 153 (x6 2))),(qq dK (.eq false (.ifs [2,3,5,6,12,21,29,49,56,57,63,93,122,146,153,159,168,197,198,200,201]) false cM cI)),(qq dh (.mv dM))])
def aV7:CC:=(.reg [(qq dL (.mv z0)),(qq dJ (.mv z1)),(ee eD (.call 96 [dA,dX])),(qq eZ (.mki 155 eJ)),(qq cE (.mv fh))])
def aV8:CC:=(.reg [(qq fq (.mki 153 (x6 1))),(qq ej (.eq false (.ifs [2,3,5,6,12,21,29,49,56,57,63,93,122,146,153,159,168,197,198,200,201]) false cM fO)),(qq eN (.mv gD))])
def aV9:CC:=(.reg [(qq eE (.mv z0)),(qq eT (.mv z1)),(ee ga (.call 97 [gw,ia])),(qq fP (.mki 155 ib)),(qq cE (.mv gV))])
def aW0:CC:=(.reg [(qq ie (.mki 153 (x6 3))),(qq gz (.eq false (.ifs [2,3,5,6,12,21,29,49,56,57,63,93,122,146,153,159,168,197,198,200,201]) false cM iU)),(qq ft (.mv iK))])
def aW1:CC:=(.reg [(qq fJ (.mv z0)),(qq gR (.mv z1)),(qq gW (.mv z2)),(ee ig (.call 98 [j8,iV,iX])),(qq iE (.mki 155 jR)),(qq cE (.mv kC))])
def aW2:CC:=(.reg [(qq fQ (.mki 153 (x6 4))),(qq kc (.eq false (.ifs [2,3,5,6,12,21,29,49,56,57,63,93,122,146,153,159,168,197,198,200,201]) false cM jY)),(qq fj (.mv lM))])
def UW:CC:=(.reg [(qq kd (.mv z0)),(qq kE (.mv z1)),(qq jS (.mv z3)),(ee gC (.call 99 [lN,lO,lF])),(qq kR (.mki 155 lG)),(qq cE (.mv lQ))])
def UX:CC:=(.cond kQ (.seq UW .ret) .skip)
def UY:CC:=(.cond gy (.seq aW1 .ret) (.seq aW2 UX))
def UZ:CC:=(.cond fL (.seq aV9 .ret) (.seq aW0 UY))
def V0:CC:=(.cond cH (.seq aV7 .ret) (.seq aV8 UZ))
def V1:CC:=(.reg [(qq lJ (.mv z4)),(qq cE (.mv n6))])
def V2:CC:=(.seq (.seq aV5 (.block 0 (.seq aV6 V0))) (.seq V1 .ret))
def Md:CF:= .mk 6 [.t cE] (.seq aV4 V2)
theorem e58(v0 v1 v2 v3 v4:V):aN 6 [v0,v1,v2,v3,v4]=(.n (.n (.n eX (some v3) eX) (some v1) kV) (some v0) (.n (.n eX (some v4) eX) (some v2) kV)):=rfl
def B58:=ai @e58 (ai (wu aV4.eq_1) (ai (wu aV5.eq_1) (ai (wu aV6.eq_1) (ai (wu aV7.eq_1) (ai (wu aV8.eq_1) (ai (wu aV9.eq_1) (ai (wu aW0.eq_1) (ai (wu aW1.eq_1) (ai (wu aW2.eq_1) (ai (wu UW.eq_1) (ai (wu UX.eq_1) (ai (wu UY.eq_1) (ai (wu UZ.eq_1) (ai (wu V0.eq_1) (ai (wu V1.eq_1) (wu V2.eq_1))))))))))))))))
def b75:CC:=(.reg [(qq a2 (.mv (x6 0))),(qq a3 (.mv (.c .a0)))])
def b76:CC:=(.reg [(qq a7 (.mv z0)),(ee a8 (.call 109 [z7])),(qq a6 (.mv z8)),(qq a9 (.ex 0 z6)),(qq cE (.ex 1 z6)),(qq a4 (.mv z9)),(qq a5 (.mv cT))])
def b77:CC:=(.reg [(qq cW (.mv z5)),(qq dh (.eq true .iface true cM (.c .a0)))])
def b78:CC:=(.reg [(qq d8 (.mv z4)),(qq dK (.mv z0)),(qq dL (.mv z5)),(ee dJ (.call 58 [(.c (.s 4 1768911937)),dM,(x6 0),(x6 0),dA])),(qq a2 (.mv cI)),(qq a3 (.mv dX))])
def b79:CC:=(.seq b77 (.cond cH (.seq b78 .ret) .skip))
def b80:CC:=(.reg [(qq eD (.mv z4)),(qq a2 (.mv eJ)),(qq a3 (.mv (.c .a0)))])
def Wk:CF:= .mk 5 [.t a2,.t a3] (.seq b75 (.seq b76 (.seq b79 (.seq b80 .ret))))
theorem e79(v0:V):aN 5 [v0]=(.n kV (some v0) kV):=rfl
def B79:=ai @e79 (ai (wu b75.eq_1) (ai (wu b76.eq_1) (ai (wu b77.eq_1) (ai (wu b78.eq_1) (ai (wu b79.eq_1) (wu b80.eq_1))))))
theorem ar2{F:RO}{M:Mem}{b n:Nat}{ex:Bool}{d:List V}{t:T}(c:Nat){l:List UInt8}(hM:M.get b=some (.cells 5 n ex 0 false d t))(hld:loadN F M b 0 l.length=some (l.map bV))(hl:l≠[])(hl2:l.length≤1099511627776):
 ∃y,usE F M c 5 (.p b 0) (.i .i64 (l.length:Int))= .k (sV l) (M.set b y) c:=by
 have h0:l.length≠0:=fun e=>hl (List.length_eq_zero_iff.1 e)
 refine⟨.cells 5 n ex (if 0≤0+l.length then 0+l.length else 0) false d t,?_⟩
 show yf F M c 5 b 0 l.length=_
 unfold yf
 rw[bF,ag h0,cond_false]
 have ht:Fv M b 5=true:=by unfold Fv;rw[hM];rfl
 rw[ht,bQ,af hl2]
 show(match loadN F M b 0 l.length with|some vs=>yg M c b 0 (gc vs)|none=>RC.f)=_
 rw[hld]
 show yg M c b 0 (gc (l.map bV))=_
 rw[qM]
 have hf:jj M b 0 l.length=some (M.set b (.cells 5 n ex (if 0≤0+l.length then 0+l.length else 0) false d t)):=by
  unfold jj;rw[hM];show(bif false then none else fN (bif Nat.ble 0 (Nat.add 0 l.length)then Nat.add 0 l.length else 0) fun fz=>some (M.set b (.cells 5 n ex fz false d t)))=_;rw[cond_false,aQ,bQ];by_cases h:0≤0+l.length
  ·rw[af (show 0≤Nat.add 0 l.length from h),ac h];rfl
  ·exact absurd (aP _) h
 show(match jj M b 0 l.length with|some M=>fN l.length fun n=>fN (bP l) fun s=>RC.k (.s n s) M c|none=> .f)=_
 rw[hf]
 show(fN l.length fun n=>fN (bP l) fun s=>RC.k (.s n s) _ c)=_
 rw[aQ,aQ];rfl
theorem bw8{F:RO}{M:Mem}{b:Nat}{ex:Bool}{d:List V}{t:T}(c:Nat){l:List UInt8}(hM:M.get b=some (.cells 5 l.length ex 0 false d t))(hl:l≠[]):
 bw6 F M c 1 (.l b 0 l.length l.length) (sV l)= .k (.i .i64 (l.length:Int)) (M.set b (.cells 5 l.length ex 0 false d (bu (l.map bV) 0 t))) c:=by
 have h0:l.length≠0:=fun e=>hl (List.length_eq_zero_iff.1 e)
 show fN (bif Nat.ble l.length l.length then l.length else l.length) (fun n=>bif Nat.beq n 0 then RC.k (.i .i64 0) M c else bw9 M c n (.l b 0 l.length l.length) (pW F M 1 n (sV l)))=_
 rw[aQ,bQ,af (ak _),cond_true,bF,ag h0,cond_false]
 have hs:pW F M 1 l.length (sV l)=some (l.map bV):=by
  show(bif Nat.beq 1 1 then some (ce l.length (bP l%256^l.length))else none)=_;rw[Nat.mod_eq_of_lt (uG l),ki];rfl
 rw[hs]
 show(match du M b 0 (l.map bV)with|some M=>RC.k (.i .i64 (.ofNat l.length)) M c|none=> .f)=_
 rw[t7 hM (by rw[List.length_map];omega) (aP _) (gG l)];rfl
theorem db6(Φ:Nat→Option CF)(h:Φ 116=some ac0)(l:List UInt8)(hl:l.length≤1000000)(ct:Nat):To Φ 116 [sV l] ct (sV l):=by
 refine bX h ?_
 by_cases h0:l=[]
 ·subst h0;have e0:((([]:List UInt8).length:Nat):Int)=0:=rfl;simp only[WX,bZ3,Int.ofNat_zero];rfl
 ·have hn0:l.length≠0:=fun e=>h0 (List.length_eq_zero_iff.1 e);have d0:decide ((l.length:Int)=0)=false:=ag (by omega);have hmk:=XG 5 1 1 [.i .u8 0] .i64 .i64 l.length l.length ct (ak _) (by omega);rw[Nat.mul_one]at hmk;have hcp:=bw8 (F:=[]) (M:=(Tr.e:Mem).set ct (.cells 5 l.length true 0 false [.i .u8 0] .e)) (ct+1) (l:=l) (av _ _ _) h0;rw[Az]at hcp;have hia:=bm 1 ct 0 l.length l.length 0 .i64 (by omega);rw[show((0:Nat):Int)=0 from rfl]at hia;have hld:loadN [] ((Tr.e:Mem).set ct (.cells 5 l.length true 0 false [.i .u8 0] (bu (l.map bV) 0 .e))) ct 0 l.length=some (l.map bV):=by
   have hc:cQ [] ((Tr.e:Mem).set ct (.cells 5 l.length true 0 false [.i .u8 0] (bu (l.map bV) 0 .e))) ct 0 (l.map bV):=by
    have hg:((Tr.e:Mem).set ct (.cells 5 l.length true 0 false [.i .u8 0] (bu (l.map bV) 0 .e))).get ct=some (fV [.i .u8 0] 5 (l.map bV)):=by
     rw[av];unfold fV;rw[List.length_map];rfl
    exact(Ay hg).cells
   have:=hc.load (by intro e;rw[List.map_eq_nil_iff]at e;exact h0 e)
   rwa [List.length_map]at this
  obtain⟨y,hy⟩:=ar2 (F:=[]) (M:=(Tr.e:Mem).set ct (.cells 5 l.length true 0 false [.i .u8 0] (bu (l.map bV) 0 .e))) (ct+1) (l:=l) (av _ _ _) hld h0 (by omega);simp only[WX,bZ3,d0,hmk,CI,hcp,hia,uP,hy]
def h116:List V→Option V
 |[v]=>(pl v).bind fun l=>if l.length≤1000000 then some (sV l)else none
 |_=>none
theorem Ip(l:List UInt8)(hl:l.length≤1000000):h116 [sV l]=some (sV l):=by
 show(pl (sV l)).bind (fun l=>if l.length≤1000000 then some (sV l)else none)=_
 rw[kf,Option.bind_some];exact ac hl
theorem WB{F:RO}(zero:List V)(ps:List (Nat×Nat×X))(M:Mem)(t:T):nw (.bld zero ps) F M t=oV ((tD zero (evP t ps)).map .g):=by
 refine(il ?_).trans (congrArg oV (bl4 (F:=F) zero ps M t))
 intro F' M'
 refine mQ ?_
 show(qg (fillParts t zero ps)= .f∨ ∃y,qg (fillParts t zero ps)= .v y)
 cases fillParts t zero ps with
 |none=>exact .inl rfl
 |some x=>exact .inr ⟨_,rfl⟩
theorem r96(Φ:Nat→Option CF)(h:Φ 96=some Kb)(h116:Φ 116=some (.orc (ah h116))){F:RO}{M:Mem}{c:Nat}(ok:dH F M c)(hE:cD F 2)(hg:M.get 2=none)(f l:List UInt8)(hl:l.length≤1000000):
 Calls Φ F 96 [sV f,sV l] M c fun r M' c'=>(∃b,r= .p b 0)∧Gr c M c' M':=by
 refine aq h ?_
 obtain⟨t,b,o,hld⟩:=hE
 have ld:=hld M hg
 have hlk:(look F M (c+5)).isNone=true:=by rw[ok.look (show c≤c+5 by omega)];rfl
 have hn1:1≠c+5:=by have:=ok.ge;omega
 simp only[WX,B96,ld]
 refine Ju _ _ _ _ _ _ _ _ _ _ _ h116 ok.free ?_
 simp only[WX,Nat.reduceEqDiff,Nat.reduceAdd,Nat.reduceLeDiff,Ip l hl,WB,at4,IR,hlk,jo,ed,ne_eq,not_false_eq_true,show∀l,cU (sV l)=true from fun _=>rfl,show∀l,flatten (sV l)=[sV l]from fun _=>rfl,It,ym,kK]
 exact⟨⟨_,rfl⟩,(Gr.refl ok).set (c+5) _ (by omega) (show c+5<c+7 by omega) (by omega)⟩
theorem r97(Φ:Nat→Option CF)(h:Φ 97=some Kc)(h116:Φ 116=some (.orc (ah h116))){F:RO}{M:Mem}{c:Nat}(ok:dH F M c)(hE:cD F 3)(hg:M.get 3=none)(f l:List UInt8)(hl:l.length≤1000000):
 Calls Φ F 97 [sV f,sV l] M c fun r M' c'=>(∃b,r= .p b 0)∧Gr c M c' M':=by
 refine aq h ?_
 obtain⟨t,b,o,hld⟩:=hE
 have ld:=hld M hg
 have hlk:(look F M (c+5)).isNone=true:=by rw[ok.look (show c≤c+5 by omega)];rfl
 have hn1:2≠c+5:=by have:=ok.ge;omega
 simp only[WX,B97,ld]
 refine Ju _ _ _ _ _ _ _ _ _ _ _ h116 ok.free ?_
 simp only[WX,Nat.reduceEqDiff,Nat.reduceAdd,Nat.reduceLeDiff,Ip l hl,WB,at4,IR,hlk,jo,ed,ne_eq,not_false_eq_true,show∀l,cU (sV l)=true from fun _=>rfl,show∀l,flatten (sV l)=[sV l]from fun _=>rfl,It,ym,kK]
 exact⟨⟨_,rfl⟩,(Gr.refl ok).set (c+5) _ (by omega) (show c+5<c+7 by omega) (by omega)⟩
theorem r58(Φ:Nat→Option CF)(h:Φ 58=some Md)(h96:Φ 96=some Kb)(h97:Φ 97=some Kc)(h116:Φ 116=some (.orc (ah h116))){F:RO}{M:Mem}{c:Nat}(ok:dH F M c)(hE1:cD F 2)(hg1:M.get 2=none)(hE2:cD F 3)(hg2:M.get 3=none)(f l:List UInt8)(hl:l.length≤1000000)(e:V)(he:e= .a 153 (.i .i64 1)∨e= .a 153 (.i .i64 2))(x y:V):
 Calls Φ F 58 [sV f,sV l,x,y,e] M c fun r M' c'=>(∃b,r= .a 155 (.p b 0))∧Gr c M c' M':=by
 refine aq h ?_
 have hm1:sM 153 [2,3,5,6,12,21,29,49,56,57,63,93,122,146,153,159,168,197,198,200,201]=true:=rfl
 rcases he with rfl|rfl
 ·simp only[WX,Int.reduceEq,B58,fH,ko,hm1];refine aC ((r97 Φ h97 h116 ok hE2 hg2 f l hl).mono ?_);rintro r M1 c1 ⟨⟨b,rfl⟩,hg⟩;simp only[WX,fH];exact⟨⟨_,rfl⟩,hg⟩
 ·simp only[WX,B58,fH,ko,hm1];refine aC ((r96 Φ h96 h116 ok hE1 hg1 f l hl).mono ?_);rintro r M1 c1 ⟨⟨b,rfl⟩,hg⟩;simp only[WX,fH];exact⟨⟨_,rfl⟩,hg⟩
def ZOf(l:List UInt8)(z:Int):Prop:=∀m,-10000000<m→m<10000000→l=cz m→z=m
theorem r79(Φ:Nat→Option CF)(h:Φ 79=some Wk)(h109:Φ 109=some u2)(h58:Φ 58=some Md)(h96:Φ 96=some Kb)(h97:Φ 97=some Kc)(h126:Φ 126=some su)(h57:Φ 57=some Bm)(h116:Φ 116=some (.orc (ah h116)))(h94:Φ 94=some (.orc (ah h94)))
 {F:RO} {M:Mem} {c:Nat} (ok:dH F M c) (hE1:cD F 2) (hE2:cD F 3) (hlow:∀g,g<1000→M.get g=none) (l:List UInt8) (hl:l.length≤1000000):
 Calls Φ F 79 [sV l] M c fun r M' c'=>∃(z:Int) (e:V),r= .t [.i .i64 z,e]∧ZOf l z∧Gr c M c' M':=by
 refine aq h ?_
 simp only[WX,B79]
 refine aC ((d87 Φ h109 h126 h57 h94 ok l hl).mono ?_)
 rintro r M1 c1 ⟨z,e,rfl,he,hg,hz⟩
 have hge:=ok.ge
 rcases he with rfl|he
 ·simp only[WX,B79,qV];exact⟨z,_,rfl,fun m m1 m2 e=>(hz m m1 m2 e).1,hg⟩
 ·have hne:xj F M1 .iface true e .a0=some false:=by rcases he with rfl|rfl<;>exact me _ _ _ _
  have ok1:=hg.ok ok;simp only[WX,B79,hne];refine aC ((r58 (f:=[65,116,111,105]) Φ h58 h96 h97 h116 ok1 hE1 (by rw[hg.old 2 (by omega)];exact hlow 2 (by omega)) hE2 (by rw[hg.old 3 (by omega)];exact hlow 3 (by omega)) l hl e he _ _).mono ?_);rintro r M2 c2 ⟨⟨b,rfl⟩,hg2⟩;simp only[WX];exact⟨z,_,rfl,fun m m1 m2 e=>(hz m m1 m2 e).1,hg.trans hg2⟩
abbrev cA2(u:List (Option V))(x0 x1 x5 x39 x40 x41:V):T:=(.n (.n (.n (.n (aO u 63 31 95 15 79 47 111) (uO u 7) (.n (.n (pd u 71) (some x39) (pd u 103)) (uO u 23) (j7 u 87 55 119))) (uO u 3) (.n (aO u 67 35 99 19 83 51 115) (uO u 11) (aO u 75 43 107 27 91 59 123))) (some x1) (.n (.n (aO u 65 33 97 17 81 49 113) (uO u 9) (.n (.n (pd u 73) (some x41) (pd u 105)) (uO u 25) (j7 u 89 57 121))) (some x5) (.n (aO u 69 37 101 21 85 53 117) (uO u 13) (aO u 77 45 109 29 93 61 125)))) (some x0) (.n (.n (.n (aO u 64 32 96 16 80 48 112) (uO u 8) (.n (.n (pd u 72) (some x40) (pd u 104)) (uO u 24) (j7 u 88 56 120))) (uO u 4) (.n (aO u 68 36 100 20 84 52 116) (uO u 12) (aO u 76 44 108 28 92 60 124))) (uO u 2) (.n (.n (aO u 66 34 98 18 82 50 114) (uO u 10) (aO u 74 42 106 26 90 58 122)) (uO u 6) (.n (aO u 70 38 102 22 86 54 118) (uO u 14) (aO u 78 46 110 30 94 62 126)))))
abbrev cA3(u:List (Option V))(x0 x1 x8 x63 x64 x65:V):T:=(.n (.n (.n (.n (.n (.n (.n .e (some x63) .e) (uO u 31) (pd u 95)) (uO u 15) (j7 u 79 47 111)) (uO u 7) (aO u 71 39 103 23 87 55 119)) (uO u 3) (.n (aO u 67 35 99 19 83 51 115) (uO u 11) (aO u 75 43 107 27 91 59 123))) (some x1) (.n (.n (.n (.n (.n .e (some x65) .e) (uO u 33) (pd u 97)) (uO u 17) (j7 u 81 49 113)) (uO u 9) (aO u 73 41 105 25 89 57 121)) (uO u 5) (.n (aO u 69 37 101 21 85 53 117) (uO u 13) (aO u 77 45 109 29 93 61 125)))) (some x0) (.n (.n (.n (.n (.n (.n .e (some x64) .e) (uO u 32) (pd u 96)) (uO u 16) (j7 u 80 48 112)) (some x8) (aO u 72 40 104 24 88 56 120)) (uO u 4) (.n (aO u 68 36 100 20 84 52 116) (uO u 12) (aO u 76 44 108 28 92 60 124))) (uO u 2) (.n (.n (aO u 66 34 98 18 82 50 114) (uO u 10) (aO u 74 42 106 26 90 58 122)) (uO u 6) (.n (aO u 70 38 102 22 86 54 118) (uO u 14) (aO u 78 46 110 30 94 62 126)))))
def aw4:CC:=(.reg [(qq a4 (.mv (.c (.s 0 0))))])
def aw5:CC:=(.reg [(qq cW (.mv z0)),(qq dh (.ln .slice cM))])
def aw6:CC:=(.reg [(qq dK (.bi .eql cH (x6 0))),(qq d8 (.mv dM))])
def aw7:CC:=(.reg [(qq a4 (.mv (.c (.s 0 0))))])
def aw8:CC:=(.reg [(qq dJ (.bi .eql cH (x6 1))),(qq dL (.mv dX))])
def aw9:CC:=(.reg [(qq eD (.mv z0)),(qq eZ (.iaS 1 eJ (x6 0))),(qq eN (.ld1 fh)),(qq a4 (.mv fL))])
def ax0:CC:=(.seq aw8 (.cond dA (.seq aw9 .ret) .skip))
def ax1:CC:=(.seq aw6 (.cond cI (.seq aw7 .ret) ax0))
def ax2:CC:=(.reg [(qq a5 (.mv (x6 0)))])
def NT:CC:=(.reg [(qq fq (.mv z1)),(qq ej (.ln .str fO)),(qq eE (.bi .gtr gD (x6 0)))])
def NU:CC:=(.reg [(qq eT (.mv z1)),(qq ga (.ln .str ia)),(qq fP (.mv z0)),(qq ft (.ln .slice gV)),(qq ie (.bi .sub gy (x6 1))),(qq gz (.bi .quo (x6 9223372036854775807) iU)),(qq fJ (.bi .geq ib iK))])
def NW:CC:=(.reg [(qq gR (.mki 9 (.c (.s 36 232023140547069528372253906381035003553488466437483087989658184371904395368843875349619)))),⟨none,.q (.bad),none⟩])
def NX:CC:=(.seq NU (.cond j8 NW .skip))
def NY:CC:=(.reg [(qq gW (.mv z5)),(qq ig (.mv z1)),(qq iE (.ln .str jR)),(qq fj (.mv z0)),(qq fQ (.ln .slice kQ)),(qq kc (.bi .sub jY (x6 1))),(qq kd (.bi .mul kC lM)),(qq kE (.bi .add iX lN)),(qq a5 (.mv lO))])
def NZ:CC:=(.cond gw (.seq NX NY) .skip)
def O0:CC:=(.reg [(qq jS (.mv z0)),(qq gC (.ln .slice lF)),(qq kR (.mv (x6 0)))])
def O1:CC:=(.reg [(qq lJ (.bi .lss lQ lG))])
def O2:CC:=(.reg [(qq kW (.iaS 1 lF lQ)),(qq kS (.ld1 og)),(qq a7 (.mv oq))])
def O3:CC:=(.reg [(qq kT (.mv z7)),(qq kU (.ln .str mU)),(qq mG (.mv z5)),(qq jV (.bi .sub (x6 9223372036854775807) n7)),(qq ke (.bi .gtr oT ot))])
def O4:CC:=(.reg [(qq mH (.mki 9 (.c (.s 36 232023140547069528372253906381035003553488466437483087989658184371904395368843875349619)))),⟨none,.q (.bad),none⟩])
def O5:CC:=(.seq O3 (.cond n8 O4 .skip))
def O6:CC:=(.reg [(qq kX (.mv z5)),(qq jW (.mv z7)),(qq gb (.ln .str oU)),(qq ow (.bi .add ng pG)),(qq a5 (.mv qB))])
def O7:CC:=(.reg [(qq oy (.bi .add lQ (x6 1))),(qq kR (.mv pf))])
def O8:CC:=(.seq (.cond n6 .skip (.exit 1)) (.seq (.block 2 (.seq O2 (.seq O5 O6))) O7))
def O9:CC:=(.reg [(aa a8 (.al 41 [.p0,.l0]))])
def Oa:CC:=(.reg [(qq kF (.mv z5)),(ee kY (.call 31 [z8,qC]))])
def Ob:CC:=(.reg [(qq lK (.mv z0)),(qq nn (.iaS 1 pg (x6 0))),(qq pM (.ld1 pH)),(ee oz (.call 12 [z8,rV]))])
def Oc:CC:=(.reg [(qq n9 (.mv z0)),(qq kZ (.slL 1 tS (some (x6 1)) none none)),(qq oX (.ln .slice rW)),(qq oA (.mv (x6 0)))])
def Od:CC:=(.reg [(qq pN (.bi .lss rP rX))])
def Oe:CC:=(.cond pI .skip (.exit 3))
def Of:CC:=(.reg [(qq oB (.iaS 1 rW rP)),(qq lL (.ld1 rY)),(qq cE (.mv uo))])
def Og:CC:=(.reg [(qq oY (.mv z1)),(ee sf (.call 12 [z8,uQ]))])
def Oh:CC:=(.reg [(qq pO (.mv cT)),(ee rR (.call 12 [z8,uS]))])
def Oi:CC:=(.reg [(qq sg (.bi .add rP (x6 1))),(qq oA (.mv xp))])
def Oj:CC:=(.seq Oe (.seq (.block 4 (.seq Of (.seq Og Oh))) Oi))
def Ok:CC:=(.reg [(ee ur (.call 18 [z8])),(qq a4 (.mv xR))])
def Ol:CC:=(.seq (.seq Oc (.block 3 (.loop (.seq Od Oj)))) (.seq Ok .ret))
def Om:CC:=(.seq (.seq O0 (.block 1 (.loop (.seq O1 O8)))) (.seq O9 (.seq Oa (.seq Ob Ol))))
def On:CC:=(.seq (.seq aw5 (.block 0 ax1)) (.seq ax2 (.seq (.seq NT NZ) Om)))
def ZW:CF:= .mk 7 [.t a4] (.seq aw4 On)
theorem e13(v0 v1:V):aN 7 [v0,v1]=(.n (.n nW (some v1) nW) (some v0) nX):=rfl
def Mq:=ai @e13 (ai (wu aw4.eq_1) (ai (wu aw5.eq_1) (ai (wu aw6.eq_1) (ai (wu aw7.eq_1) (ai (wu aw8.eq_1) (ai (wu aw9.eq_1) (ai (wu ax0.eq_1) (ai (wu ax1.eq_1) (ai (wu ax2.eq_1) (ai (wu NT.eq_1) (ai (wu NU.eq_1) (ai (wu NW.eq_1) (ai (wu NX.eq_1) (ai (wu NY.eq_1) (ai (wu NZ.eq_1) (ai (wu O0.eq_1) (ai (wu O1.eq_1) (ai (wu O2.eq_1) (ai (wu O3.eq_1) (ai (wu O4.eq_1) (ai (wu O5.eq_1) (ai (wu O6.eq_1) (ai (wu O7.eq_1) (ai (wu O8.eq_1) (ai (wu O9.eq_1) (ai (wu Oa.eq_1) (ai (wu Ob.eq_1) (ai (wu Oc.eq_1) (ai (wu Od.eq_1) (ai (wu Oe.eq_1) (ai (wu Of.eq_1) (ai (wu Og.eq_1) (ai (wu Oh.eq_1) (ai (wu Oi.eq_1) (ai (wu Oj.eq_1) (ai (wu Ok.eq_1) (ai (wu Ol.eq_1) (ai (wu Om.eq_1) (wu On.eq_1)))))))))))))))))))))))))))))))))))))))
def fX(l:List (List UInt8)):List (List V):=l.map fun w=>[sV w]
theorem wJ{F:RO}{M:Mem}{c:Nat}{v:V}{l:List (List UInt8)}(hs:dp F M c 1 v (fX l))(i:Nat)(hi:i<l.length):
 ∃b o,b<c∧(∀k,bL 1 v (.i k (i:Int))=some (.p b o))∧load1 F M b o=some (sV l[i]):=
 dp.one hs i (by simpa [fX]using hi) (by simp[fX])
theorem Jn{F:RO}{M:Mem}{c:Nat}{v:V}{l:List (List UInt8)}(hs:dp F M c 1 v (fX l)):BW v=some (.i .i64 (l.length:Int)):=by
 have:=hs.len;rwa [fX,List.length_map]at this
def jv:List (List UInt8)→Nat
 |[]=>0
 |w::r=>w.length+1+jv r
theorem wK:∀(l:List (List UInt8)) (k:Nat),jv (l.take k)≤jv l
 |[],k=>by rw[List.take_nil];exact ak _
 |w::r,0=>aP _
 |w::r,k+1=>by rw[List.take_succ_cons,jv,jv];have:=wK r k;omega
theorem gj:∀(a b:List (List UInt8)),jv (a++b)=jv a+jv b
 |[],b=>by rw[List.nil_append,jv];omega
 |w::r,b=>by rw[List.cons_append,jv,jv,gj r b];omega
theorem rK:∀(a:List (List UInt8)),a.length≤jv a
 |[]=>ak _
 |w::r=>by rw[bq,jv];have:=rK r;omega
theorem AC{l:List (List UInt8)}{i:Nat}(h:i<l.length):l[i].length≤jv l:=by
 induction l generalizing i with
 |nil=>cases h
 |cons w r ih=>
  cases i with
  |zero=>rw[List.getElem_cons_zero,jv];omega
  |succ i=>rw[List.getElem_cons_succ,jv];have:=ih (i:=i) (by simpa using h);omega
def bN(s:List UInt8):List (List UInt8)→List UInt8
 |[]=>[]
 |w::r=>w++(r.map fun x=>s++x).flatten
theorem KH(s w:List UInt8)(r:List (List UInt8))(x:List UInt8):bN s (w::(r++[x]))=bN s (w::r)++s++x:=by
 simp[bN,List.map_append,List.flatten_append]
theorem Xq(s:List UInt8):∀(w:List UInt8) (r:List (List UInt8)),(bN s (w::r)).length≤jv (w::r)+s.length*r.length:=by
 intro w r
 induction r generalizing w with
 |nil=>simp[bN,jv]
 |cons x r ih=>
  have:=ih x;simp only[bN,jv,List.map_cons,List.flatten_cons,aV,bq]at this⊢;rw[Nat.mul_add];omega
theorem oH(s:List UInt8)(l:List (List UInt8)):(bN s l).length≤jv l+s.length*l.length:=by
 cases l with
 |nil=>simp[bN]
 |cons w r=>have:=Xq s w r;rw[bq,Nat.mul_add];omega
theorem KI(s:List UInt8)(L:List (List UInt8))(i:Nat)(h:i+1<L.length):bN s (L.take (i+1+1))=bN s (L.take (i+1))++s++L[i+1]:=by
 cases L with
 |nil=>cases h
 |cons w r=>
  rw[List.take_succ_cons,List.take_succ_cons,List.getElem_cons_succ,List.take_succ_eq_append_getElem (by simpa using h),KH]
theorem kp(a b:Int)(h1: -9223372036854775808≤a-b)(h2:a-b<9223372036854775808):aK .sub (.i .i64 a) (.i .i64 b)=some (.i .i64 (a-b)):=by
 rw[iZ,eC h1 h2]
theorem ah3(a b:Nat)(hb:0<b)(ha:a<9223372036854775808):aK .quo (.i .i64 (a:Int)) (.i .i64 (b:Int))=some (.i .i64 ((a/b:Nat):Int)):=by
 have hle:a/b≤a:=Nat.div_le_self a b
 show(mI .i64 (a:Int) (b:Int)).val=_
 unfold mI
 rw[cR,ag (show¬((b:Int)=0) by omega),cond_false,eA,iT,←Int.ofNat_tdiv]
 generalize a/b=q at hle⊢
 rw[eC (by omega) (by omega)];rfl
theorem r13(Φ:Nat→Option CF)(h:Φ 13=some ZW)(h31:Φ 31=some Wi)(h12:Φ 12=some Wg)(h18:Φ 18=some Wh)(h30:Φ 30=some Ka)(h60:Φ 60=some Me){F:RO}{M:Mem}{c:Nat}{v:V}{l:List (List UInt8)}{s:List UInt8}(ok:dH F M c)(hs:dp F M c 1 v (fX l))
 (hl:jv l≤1000000) (hs1:1≤s.length) (hs2:s.length≤100):Calls Φ F 13 [v,sV s] M c fun r M' c'=>r=sV (bN s l)∧Gr c M c' M':=by
 refine aq h ?_
 have hn:=Jn hs
 have hll:=rK l
 match l,hs,hn,hl,hll with
 |[],hs,hn,hl,hll=>
  rw[eP]at hn;simp only[WX,Mq,hn,Int.ofNat_zero];exact⟨rfl,Gr.refl ok⟩
 |[w],hs,hn,hl,hll=>
  obtain⟨b1,o1,_,ia1,ld1⟩:=wJ hs 0 (by simp);have ia1:=ia1 .i64;rw[List.length_singleton]at hn;rw[Int.ofNat_zero]at ia1;rw[List.getElem_cons_zero]at ld1;simp only[WX,Int.reduceEq,Mq,hn,Int.ofNat_one,ia1,ld1];exact⟨by simp[bN],Gr.refl ok⟩
 |w0::w1::r,hs,hn,hl,hll=>
  generalize hL:w0::w1::r=L at hs hn hl hll⊢;have hL2:2≤L.length:=by rw[←hL];simp
  have d0:decide ((L.length:Int)=0)=false:=ag (by omega);have d1:decide ((L.length:Int)=1)=false:=ag (by omega);have d2:decide ((0:Int)<(s.length:Int))=true:=af (by omega);have sb:aK .sub (.i .i64 (L.length:Int)) (.i .i64 1)=some (.i .i64 ((L.length-1:Nat):Int)):=by rw[kp _ _ (by omega) (by omega)];congr 2;omega
  have qu:=ah3 9223372036854775807 (L.length-1) (by omega) (by omega);rw[show((9223372036854775807:Nat):Int)=9223372036854775807 from rfl]at qu;have hq:9223372036854≤9223372036854775807/(L.length-1):=by
   rw[Nat.le_div_iff_mul_le (by omega)];have:9223372036854*(L.length-1)≤9223372036854*1000000:=Nat.mul_le_mul_left _ (by omega);omega
  have d3:decide (((9223372036854775807/(L.length-1):Nat):Int)≤(s.length:Int))=false:=ag (by omega);have hmb:s.length*(L.length-1)≤100*1000000:=Nat.mul_le_mul hs2 (by omega);have mu:aK .mul (.i .i64 (s.length:Int)) (.i .i64 ((L.length-1:Nat):Int))=some (.i .i64 ((s.length*(L.length-1):Nat):Int)):=by
   have:((s.length:Int)*((L.length-1:Nat):Int))=((s.length*(L.length-1):Nat):Int):=by rw[Int.natCast_mul]
   rw[mi _ _ (by rw[this];omega) (by rw[this];omega),this]
  have ad:aK .add (.i .i64 0) (.i .i64 ((s.length*(L.length-1):Nat):Int))=some (.i .i64 ((s.length*(L.length-1):Nat):Int)):=by rw[bH _ _ (by omega) (by omega)];simp
  simp only[WX,Mq,hn,d0,d1,d2,sb,qu,d3,mu,ad];obtain⟨I1,hI1⟩:∃I:Nat→St→Prop,∀n s',I n s'↔(∃(i a:Nat) (u:List (Option V)),n=L.length-i∧i≤L.length∧s'= .mk ((cA2 u v (sV s) (.i .i64 (a:Int)) v (.i .i64 (L.length:Int)) (.i .i64 (i:Int)))) [] M c∧a≤100000000+jv (L.take i)):=⟨fun n s'=>_,fun _ _=>Iff.rfl⟩
  refine de I1 ?_ L.length _ ((hI1 _ _).2 ⟨0,s.length*(L.length-1),(G2 (X2 (X1 (G1 (gu (X1 (G2 (G1 (ka (eG (X4 (X1 [])))))))))))),rfl,aP _,rfl,by omega⟩);intro n s' hIs;obtain⟨i,a,u,rfl,hi,rfl,ha⟩:=(hI1 _ _).1 hIs;clear hIs;have htk:=wK L i;by_cases hlt:i<L.length
  ·have e1:decide ((i:Int)<(L.length:Int))=true:=af (by omega);obtain⟨b1,o1,_,ia1,ld1⟩:=wJ hs i hlt;have hge:=AC hlt;have sb2:aK .sub (.i .i64 9223372036854775807) (.i .i64 (a:Int))=some (.i .i64 (9223372036854775807-(a:Int))):=kp _ _ (by omega) (by omega);have e2:decide ((9223372036854775807-(a:Int))<(L[i].length:Int))=false:=ag (by omega);have ad2:aK .add (.i .i64 (a:Int)) (.i .i64 (L[i].length:Int))=some (.i .i64 ((a+L[i].length:Nat):Int)):=by rw[bH _ _ (by omega) (by omega)];simp
   have q8:aK .add (.i .i64 (i:Int)) (.i .i64 1)=some (.i .i64 ((i+1:Nat):Int)):=by rw[bH _ _ (by omega) (by omega)];simp
   simp only[WX,Mq,e1,ia1,ld1,sb2,e2,ad2,q8];refine⟨L.length-(i+1),by omega,(hI1 _ _).2 ⟨i+1,a+L[i].length,(G2 (X2 (X1 (G1 (gu (X1 (G2 (G1 (ka (eG (X4 (X1 [])))))))))))),rfl,by omega,rfl,?_⟩⟩;rw[List.take_succ_eq_append_getElem hlt,gj,jv,jv];omega
  ·have e1:decide ((i:Int)<(L.length:Int))=false:=ag (by omega);have gr0:Gr c M (c+1) (M.set c (aw 41 [.p0,.l0])):=(Gr.refl ok).set c _ (ak _) (bf _) (bD _);have ok0:=gr0.ok ok;simp only[WX,Mq,e1];refine aC ((r31 Φ h31 h30 h60 ok0 gr0 (ak _) (bf _) (av _ _ _) a (by omega)).mono ?_);rintro v1 M1 c1 ⟨bb,hb1,gr1,hle1,hfr1⟩;have ok1:=gr1.ok ok;have hs1':=hs.grow gr1;obtain⟨b1,o1,hb1c,ia1,ld1⟩:=wJ hs1' 0 (by omega);have ia1:=ia1 .i64;rw[Int.ofNat_zero]at ia1;simp only[WX,Mq,ia1,ld1];have hg0:=AC (l:=L) (i:=0) (by omega);refine aC ((r12 Φ h12 h30 ok1 gr1 hb1 L[0] (Aw (by simp only[eP];omega))).mono ?_);rintro v2 M2 c2 ⟨bb2,hb2,gr2,hle2,_,_⟩;rw[List.nil_append]at hb2;have ok2:=gr2.ok ok;obtain⟨v3,⟨_,_,hsl,_⟩,hs3⟩:=AA (lo:=1) (hi:=(fX L).length) hs (by simp[fX];omega) (ak _);have hsl':Fo 1 v (some (.i .i64 1)) none none=some v3:=congrArg QR.val (hsl rfl);have hs3':dp F M c 1 v3 (fX (L.drop 1)):=by
    rw[List.take_length,fX,←List.map_drop]at hs3;exact hs3
   have hn3:=Jn hs3';rw[dv]at hn3;simp only[WX,Mq,hsl',hn3];obtain⟨I2,hI2⟩:∃I:Nat→St→Prop,∀n s',I n s'↔(∃(i:Nat) (M3:Mem) (c1003 bb3:Nat) (u:List (Option V)),n=L.length-1-i∧i≤L.length-1∧s'= .mk ((cA3 u v (sV s) (.p c 0) v3 (.i .i64 ((L.length-1:Nat):Int)) (.i .i64 (i:Int)))) [] M3 c1003∧ic M3 c c1003 c bb3 (bN s (L.take (i+1)))∧Gr c M c1003 M3):=⟨fun n s'=>_,fun _ _=>Iff.rfl⟩
   refine de I2 ?_ (L.length-1) _ ((hI2 _ _).2 ⟨0,M2,c2,bb2,(G2 (X4 (X2 (G1 (gu (eG (X4 (X2 (G2 (G1 (gu (eG (X8 (X4 (X1 []))))))))))))))),rfl,aP _,rfl,?_,gr2⟩)
   ·intro n s' hIs;obtain⟨i,M3,c1003,bb3,u,rfl,hi,rfl,hb3,gr3⟩:=(hI2 _ _).1 hIs;clear hIs;have hs4:=hs3'.grow gr3;have ok3:=gr3.ok ok;have hj:=oH s (L.take (i+1));have hj2:=wK L (i+1);have hj3:s.length*(L.take (i+1)).length≤100*1000000:=Nat.mul_le_mul hs2 (by rw[List.length_take];omega);by_cases hlt:i<L.length-1
    ·have e1:decide ((i:Int)<((L.length-1:Nat):Int))=true:=af (by omega);obtain⟨b1004,o1004,hb4,ia4,ld4⟩:=wJ hs4 i (by rw[dv];omega);have hge:(L.drop 1)[i]'(by rw[dv];omega)=L[i+1]:=by rw[List.getElem_drop];congr 1;omega
     rw[hge]at ld4;have hgl:=AC (l:=L) (i:=i+1) (by omega);have q8:aK .add (.i .i64 (i:Int)) (.i .i64 1)=some (.i .i64 ((i+1:Nat):Int)):=by rw[bH _ _ (by omega) (by omega)];simp
     simp only[WX,Mq,e1,ia4,ld4];refine aC ((r12 Φ h12 h30 ok3 gr3 hb3 s (Aw (by omega))).mono ?_);rintro v5 M5 c1005 ⟨bb5,hb5,gr5,hle5,_,_⟩;have ok5:=gr5.ok ok;simp only[WX,Mq];refine aC ((r12 Φ h12 h30 ok5 gr5 hb5 L[i+1] (Aw (by rw[aV];omega))).mono ?_);rintro v6 M6 c1006 ⟨bb6,hb6,gr6,hle6,_,_⟩;simp only[WX,Mq,q8];refine⟨L.length-1-(i+1),by omega,(hI2 _ _).2 ⟨i+1,M6,c1006,bb6,(G2 (X4 (X2 (G1 (gu (eG (X4 (X2 (G2 (G1 (gu (eG (X8 (X4 (X1 []))))))))))))))),rfl,by omega,rfl,?_,gr6⟩⟩;rw[KI s L i (by omega)];exact hb6
    ·have e1:decide ((i:Int)<((L.length-1:Nat):Int))=false:=ag (by omega);simp only[WX,Mq,e1];refine aC ((r18 Φ h18 ok3 gr3 hb3 (by omega)).mono ?_);rintro v5 M5 c1005 ⟨rfl,gr5,_,_⟩;simp only[WX];refine⟨?_,gr5⟩;rw[List.take_of_length_le (by omega)]
   ·rw[show L.take (0+1)=[L[0]] by rw[List.take_succ_eq_append_getElem (show 0<L.length by omega)];rfl]
    simpa [bN]using hb2
def aH2:CC:=(.reg [(aa a2 (.al 91 [(.b false),(.b false),(.b false),(.b false)]))])
def aH3:CC:=(.reg [(qq a5 (.bi .eql z3 (x6 1))),(qq a4 (.mv z5))])
def aH4:CC:=(.reg [(qq a6 (.bld [(.b false),(.b false),(.b false),(.b false)] [(3,1,xT)])),(ez (.st 4 z2 z6))])
def aH5:CC:=(.reg [(qq a8 (.bi .eql z3 (x6 2))),(qq a7 (.mv z8))])
def aH6:CC:=(.reg [(qq a9 (.bld [(.b false),(.b false),(.b false),(.b false)] [(1,1,xT)])),(ez (.st 4 z2 z9))])
def aH7:CC:=(.reg [(qq cW (.bi .eql z3 (x6 3))),(qq cE (.mv cM))])
def aH8:CC:=(.reg [(qq dh (.bld [(.b false),(.b false),(.b false),(.b false)] [(0,1,xT),(3,1,xT)])),(ez (.st 4 z2 cH))])
def aH9:CC:=(.reg [(qq dK (.bi .eql z3 (x6 4))),(qq d8 (.mv dM))])
def aI0:CC:=(.reg [(qq dL (.bld [(.b false),(.b false),(.b false),(.b false)] [(0,1,xT),(1,1,xT)])),(ez (.st 4 z2 dA))])
def Qn:CC:=(.reg [(qq eD (.bi .eql z3 (x6 5))),(qq dJ (.mv eJ))])
def Qo:CC:=(.reg [(qq eZ (.bld [(.b false),(.b false),(.b false),(.b false)] [(0,1,xT),(1,1,xT),(2,1,xT)])),(ez (.st 4 z2 fh))])
def Qp:CC:=(.reg [(qq fq (.bi .eql z3 (x6 6))),(qq eN (.mv fO))])
def Qq:CC:=(.reg [(qq ej (.bld [(.b false),(.b false),(.b false),(.b false)] [(0,1,xT),(1,1,xT),(3,1,xT)])),(ez (.st 4 z2 gD))])
def Qr:CC:=(.cond fL (.seq Qq .ret) .skip)
def Qs:CC:=(.cond dX (.seq Qo .ret) (.seq Qp Qr))
def Qt:CC:=(.cond cI (.seq aI0 .ret) (.seq Qn Qs))
def Qu:CC:=(.cond cT (.seq aH8 .ret) (.seq aH9 Qt))
def Qv:CC:=(.cond z7 (.seq aH6 .ret) (.seq aH7 Qu))
def Qw:CC:=(.cond z4 (.seq aH4 .ret) (.seq aH5 Qv))
def Qx:CC:=(.seq (.reg [(qq a3 (.mv z0))]) (.block 0 (.seq aH3 Qw)))
def Qy:CC:=(.reg [(qq eE (.bld [(.b false),(.b false),(.b false),(.b false)] [])),(ez (.st 4 z2 gw))])
def c34:CF:= .mk 5 [.cn a2 4] (.seq aH2 (.seq Qx (.seq Qy .ret)))
theorem e34(v0:V):aN 5 [v0]=(.n kV (some v0) kV):=rfl
def B34:=ai @e34 (ai (wu aH2.eq_1) (ai (wu aH3.eq_1) (ai (wu aH4.eq_1) (ai (wu aH5.eq_1) (ai (wu aH6.eq_1) (ai (wu aH7.eq_1) (ai (wu aH8.eq_1) (ai (wu aH9.eq_1) (ai (wu aI0.eq_1) (ai (wu Qn.eq_1) (ai (wu Qo.eq_1) (ai (wu Qp.eq_1) (ai (wu Qq.eq_1) (ai (wu Qr.eq_1) (ai (wu Qs.eq_1) (ai (wu Qt.eq_1) (ai (wu Qu.eq_1) (ai (wu Qv.eq_1) (ai (wu Qw.eq_1) (ai (wu Qx.eq_1) (wu Qy.eq_1)))))))))))))))))))))
def aY8:CC:=(.reg [(qq a3 (.mv z0)),(qq a4 (.bi .geq z3 (x6 0))),(qq a5 (.mv z4)),(aj a6 (.mv z0) a5),(aj a7 (.bi .lss z6 (x6 16)) a5),(qq a8 (.pk z5 z7 xF)),(qq a2 (.mv z8))])
def aY9:CC:=(.seq (.reg [(qq a2 (.mv xF))]) (.seq aY8 .ret))
def c63:CF:= .mk 4 [.t a2] aY9
theorem e63(v0:V):aN 4 [v0]=(.n eX (some v0) eX):=rfl
def B63:=ai @e63 (ai (wu aY8.eq_1) (wu aY9.eq_1))
def aY1:CC:=(.reg [(qq a3 (.mv z0)),(qq a4 (.bi .eql z3 (x6 3))),(qq a5 (.mv z4)),(bk a6 (.mv z0) a5),(bk a7 (.bi .eql z6 (x6 6)) a5),(qq a8 (.pk z5 xT z7)),(qq a2 (.mv z8))])
def aY2:CC:=(.seq (.reg [(qq a2 (.mv xF))]) (.seq aY1 .ret))
def c61:CF:= .mk 4 [.t a2] aY2
theorem e61(v0:V):aN 4 [v0]=(.n eX (some v0) eX):=rfl
def B61:=ai @e61 (ai (wu aY1.eq_1) (wu aY2.eq_1))
def aM1:CC:=(.reg [(qq a2 (.mv xF)),(qq a3 (.mv xF)),(qq a4 (.mv xF)),(qq a5 (.mv xF))])
def aM2:CC:=(.reg [(qq a8 (.bi .eql z6 (x6 1))),(qq a7 (.mv z8))])
def aM3:CC:=(.reg [(qq a2 (.mv xF)),(qq a3 (.mv xF)),(qq a4 (.mv xF)),(qq a5 (.mv xT))])
def aM4:CC:=(.reg [(qq cE (.bi .eql z6 (x6 2))),(qq a9 (.mv cT))])
def aM5:CC:=(.reg [(qq a2 (.mv xF)),(qq a3 (.mv xT)),(qq a4 (.mv xF)),(qq a5 (.mv xF))])
def aM6:CC:=(.reg [(qq dh (.bi .eql z6 (x6 3))),(qq cW (.mv cH))])
def aM7:CC:=(.reg [(qq a2 (.mv xT)),(qq a3 (.mv xF)),(qq a4 (.mv xF)),(qq a5 (.mv xT))])
def aM8:CC:=(.reg [(qq dK (.bi .eql z6 (x6 4))),(qq d8 (.mv dM))])
def aM9:CC:=(.reg [(qq a2 (.mv xT)),(qq a3 (.mv xT)),(qq a4 (.mv xF)),(qq a5 (.mv xF))])
def Ri:CC:=(.reg [(qq dJ (.bi .eql z6 (x6 5))),(qq dL (.mv dX))])
def Rj:CC:=(.reg [(qq a2 (.mv xT)),(qq a3 (.mv xT)),(qq a4 (.mv xT)),(qq a5 (.mv xF))])
def Rk:CC:=(.reg [(qq eZ (.bi .eql z6 (x6 6))),(qq eD (.mv fh))])
def Rl:CC:=(.reg [(qq a2 (.mv xT)),(qq a3 (.mv xT)),(qq a4 (.mv xF)),(qq a5 (.mv xT))])
def Rm:CC:=(.cond eJ (.seq Rl .ret) .skip)
def Rn:CC:=(.cond dA (.seq Rj .ret) (.seq Rk Rm))
def Ro:CC:=(.cond cI (.seq aM9 .ret) (.seq Ri Rn))
def Rq:CC:=(.cond cM (.seq aM7 .ret) (.seq aM8 Ro))
def Rr:CC:=(.cond z9 (.seq aM5 .ret) (.seq aM6 Rq))
def Rt:CC:=(.cond z7 (.seq aM3 .ret) (.seq aM4 Rr))
def Ru:CC:=(.seq (.reg [(qq a6 (.mv z0))]) (.block 0 (.seq aM2 Rt)))
def Rv:CC:=(.reg [(qq a2 (.mv xF)),(qq a3 (.mv xF)),(qq a4 (.mv xF)),(qq a5 (.mv xF))])
def c40:CF:= .mk 5 [.t a2,.t a3,.t a4,.t a5] (.seq aM1 (.seq Ru (.seq Rv .ret)))
theorem e40(v0:V):aN 5 [v0]=(.n kV (some v0) kV):=rfl
def B40:=ai @e40 (ai (wu aM1.eq_1) (ai (wu aM2.eq_1) (ai (wu aM3.eq_1) (ai (wu aM4.eq_1) (ai (wu aM5.eq_1) (ai (wu aM6.eq_1) (ai (wu aM7.eq_1) (ai (wu aM8.eq_1) (ai (wu aM9.eq_1) (ai (wu Ri.eq_1) (ai (wu Rj.eq_1) (ai (wu Rk.eq_1) (ai (wu Rl.eq_1) (ai (wu Rm.eq_1) (ai (wu Rn.eq_1) (ai (wu Ro.eq_1) (ai (wu Rq.eq_1) (ai (wu Rr.eq_1) (ai (wu Rt.eq_1) (ai (wu Ru.eq_1) (wu Rv.eq_1)))))))))))))))))))))
def MM:CC:=(.reg [(qq a4 (.mv xF))])
def MN:CC:=(.reg [(qq a5 (.mv z1)),(qq a6 (.bi .eql z5 (x6 0))),(qq a7 (.mv z6)),(bk a8 (.mv z0) a7),(bk a9 (.mv z8) a7),(aj cE (.mv z1) a9),(aj cW (.bi .gtr cT (x6 0)) a9),(bk dh (.pk z9 cM xF) a7),(bk d8 (.mv cH) a7),(aj dK (.mv z1) d8),(aj dL (.bi .lss dM (x6 16)) d8),(bk dJ (.pk cI dA xF) a7),(qq eD (.pk z7 xT dX)),(qq a4 (.mv eJ))])
def ab5:CF:= .mk 5 [.t a4] (.seq MM (.seq MN .ret))
theorem cV2(v0 v1:V):aN 5 [v0,v1]=(.n (.n eX (some v1) eX) (some v0) kV):=rfl
def cS3:=ai @cV2 (ai (wu MM.eq_1) (wu MN.eq_1))
def aL(op:Int):Int:=if op=3∨op=23 then 1 else if op=24 then 2 else if op=5∨op=6∨op=25 then 3 else if op=7 then 4 else if 8≤op∧op≤17 then 5 else if 18≤op∧op≤22∨26≤op∧op≤28 then 6 else 0
def dI(f:Int):Bool:=decide (f=3∨f=4∨f=5∨f=6)
def aI(f:Int):Bool:=decide (f=2∨f=4∨f=5∨f=6)
def bI(f:Int):Bool:=decide (f=5)
def iI(f:Int):Bool:=decide (f=1∨f=3∨f=6)
def nT(b:Bool)(n:Int):Bool:=decide (n=0∨b=true∧0<n∧n<16)
theorem t34(Φ:Nat→Option CF)(h:Φ 34=some c34)(f:Int)(ct:Nat):To Φ 34 [.i .i64 f] ct (.g [.b (dI f),.b (aI f),.b (bI f),.b (iI f)]):=by
 refine bX h ?_
 simp only[WX,B34]
 repeat' (refine iJ (by simp only[WX];rfl) (fun h=>?_) (fun h=>?_)<;>simp only[WX,Nat.reduceAdd,Nat.reduceLeDiff,B34,h])
 all_goals simp only[decide_eq_true_eq,decide_eq_false_iff_not]at *
 all_goals first|(subst f;rfl)|(simp[dI,aI,bI,iI, *])
theorem t63(Φ:Nat→Option CF)(h:Φ 63=some c63)(n:Int)(ct:Nat):To Φ 63 [.i .i64 n] ct (.b (decide (0≤n∧n<16))):=by
 refine bX h ?_
 simp only[WX,B63]
 repeat' (refine xN (by simp only[WX];rfl) (fun h=>?_) (fun h=>?_)<;>simp only[WX,h])
 all_goals simp_all
 all_goals omega
theorem t61(Φ:Nat→Option CF)(h:Φ 61=some c61)(n:Int)(ct:Nat):To Φ 61 [.i .i64 n] ct (.b (decide (n=3∨n=6))):=by
 refine bX h ?_
 simp only[WX,B61]
 repeat' (refine xN (by simp only[WX];rfl) (fun h=>?_) (fun h=>?_)<;>simp only[WX,h])
 all_goals simp_all
 all_goals omega
theorem db1(Φ:Nat→Option CF)(h:Φ 105=some ab5)(b:Bool)(n:Int)(ct:Nat):To Φ 105 [.b b,.i .i64 n] ct (.b (nT b n)):=by
 refine bX h ?_
 simp only[WX,cS3]
 repeat' (refine xN (by simp only[WX];rfl) (fun h=>?_) (fun h=>?_)<;>simp only[WX,h])
 all_goals simp_all [nT]
 all_goals omega
theorem t40(Φ:Nat→Option CF)(h:Φ 40=some c40)(f:Int)(ct:Nat):To Φ 40 [.i .i64 f] ct (.t [.b (dI f),.b (aI f),.b (bI f),.b (iI f)]):=by
 refine bX h ?_
 simp only[WX,B40]
 repeat' (refine iJ (by simp only[WX];rfl) (fun h=>?_) (fun h=>?_)<;>simp only[WX,B40,h])
 all_goals simp only[decide_eq_true_eq,decide_eq_false_iff_not]at *
 all_goals first|(subst f;rfl)|(simp[dI,aI,bI,iI, *])
def aZ0:CC:=(.reg [(aa a0 (.al 127 [(.s 0 0),(.s 0 0),(.s 0 0),(.s 0 0),(.s 0 0),(.s 0 0),(.s 0 0),(.s 0 0),(.s 0 0),(.s 0 0),(.s 0 0),(.s 0 0),(.s 0 0),(.s 0 0),(.s 0 0),(.s 0 0),(.s 0 0),(.s 0 0),(.s 0 0),(.s 0 0),(.s 0 0),(.s 0 0),(.s 0 0),(.s 0 0),(.s 0 0),(.s 0 0),(.s 0 0),(.s 0 0),(.s 0 0)]))])
def aZ1:CC:=(.reg [(qq a1 (.bld [(.s 0 0),(.s 0 0),(.s 0 0),(.s 0 0),(.s 0 0),(.s 0 0),(.s 0 0),(.s 0 0),(.s 0 0),(.s 0 0),(.s 0 0),(.s 0 0),(.s 0 0),(.s 0 0),(.s 0 0),(.s 0 0),(.s 0 0),(.s 0 0),(.s 0 0),(.s 0 0),(.s 0 0),(.s 0 0),(.s 0 0),(.s 0 0),(.s 0 0),(.s 0 0),(.s 0 0),(.s 0 0),(.s 0 0)] [(0,1,(.c (.s 0 0))),(1,1,(.c (.s 3 7368558))),(2,1,(.c (.s 4 1886352499))),(3,1,(.c (.s 4 1819042147))),(4,1,(.c (.s 4 1801675106))),(5,1,(.c (.s 5 500152823651))),(6,1,(.c (.s 4 1751607656))),(7,1,(.c (.s 4 2037411683))),(8,1,(.c (.s 3 6579297))),(9,1,(.c (.s 3 6452595))),(10,1,(.c (.s 3 7107949))),(11,1,(.c (.s 3 7760228))),(12,1,(.c (.s 3 6582125))),(13,1,(.c (.s 3 6581857))),(14,1,(.c (.s 2 29295))),(15,1,(.c (.s 3 7499640))),(16,1,(.c (.s 3 7104627))),(17,1,(.c (.s 3 7497843))),(18,1,(.c (.s 4 1768186977))),(19,1,(.c (.s 4 1684107116))),(20,1,(.c (.s 5 435711603827))),(21,1,(.c (.s 5 422590902124))),(22,1,(.c (.s 6 108187851125875))),(23,1,(.c (.s 4 1886221674))),(24,1,(.c (.s 5 491512493418))),(25,1,(.c (.s 4 1802398060))),(26,1,(.c (.s 3 7431522))),(27,1,(.c (.s 3 6647394))),(28,1,(.c (.s 3 7629922)))])),(ez (.st 29 z0 z1))])
def c64:CF:= .mk 2 [.cn a0 29] (.seq aZ0 (.seq aZ1 .ret))
theorem e64:aN 2 []=jq:=rfl
def B64:=ai @e64 (ai (wu aZ0.eq_1) (wu aZ1.eq_1))
def h35:List V→Option V
 |[.i .i64 op]=>some (.i .i64 (aL op))
 |_=>none
theorem nH(op:Int):h35 [.i .i64 op]=some (.i .i64 (aL op)):=rfl
def h34:List V→Option V
 |[.i .i64 f]=>some (.g [.b (dI f),.b (aI f),.b (bI f),.b (iI f)])
 |_=>none
theorem A0(f:Int):h34 [.i .i64 f]=some (.g [.b (dI f),.b (aI f),.b (bI f),.b (iI f)]):=rfl
def Mg:List V→Option V
 |[.i .i64 n]=>some (.b (decide (0≤n∧n<16)))
 |_=>none
theorem bB2(n:Int):Mg [.i .i64 n]=some (.b (decide (0≤n∧n<16))):=rfl
def BK:List V→Option V
 |[.i .i64 n]=>some (.b (decide (n=3∨n=6)))
 |_=>none
theorem X7(n:Int):BK [.i .i64 n]=some (.b (decide (n=3∨n=6))):=rfl
def fA:List V:=[(.s 0 0),(.s 3 7368558),(.s 4 1886352499),(.s 4 1819042147),(.s 4 1801675106),(.s 5 500152823651),(.s 4 1751607656),(.s 4 2037411683),(.s 3 6579297),(.s 3 6452595),(.s 3 7107949),(.s 3 7760228),(.s 3 6582125),(.s 3 6581857),(.s 2 29295),(.s 3 7499640),(.s 3 7104627),(.s 3 7497843),(.s 4 1768186977),(.s 4 1684107116),(.s 5 435711603827),(.s 5 422590902124),(.s 6 108187851125875),(.s 4 1886221674),(.s 5 491512493418),(.s 4 1802398060),(.s 3 7431522),(.s 3 6647394),(.s 3 7629922)]
theorem t64(Φ:Nat→Option CF)(h:Φ 64=some c64)(ct:Nat):To Φ 64 [] ct (.g fA):=by
 refine bX h ?_
 simp only[WX,Nat.reduceAdd,Nat.reduceLeDiff,B64]
 rfl
def aJ0:CC:=(.reg [(qq a3 (.mv z0)),(qq a4 (.bi .lss z3 (x6 1))),(qq a5 (.mv z4)),(bk a6 (.mv z0) a5),(bk a7 (.bi .gtr z6 (x6 28)) a5),(qq a8 (.pk z5 xT z7))])
def aJ1:CC:=(.seq (.reg [(qq a2 (.mv (.c (.s 0 0))))]) .ret)
def aJ2:CC:=(.reg [(ee a9 (.call 64 [])),(qq cE (.mv z0)),(qq cW (.ixA1 29 1 z9 cT)),(qq a2 (.mv cM))])
def aJ3:CC:=(.seq (.seq aJ0 (.cond z8 aJ1 .skip)) (.seq aJ2 .ret))
def aJ4:CC:=(.seq (.reg [(qq a2 (.mv (.c (.s 0 0))))]) aJ3)
def c36:CF:= .mk 4 [.t a2] aJ4
theorem e36(v0:V):aN 4 [v0]=(.n eX (some v0) eX):=rfl
def B36:=ai @e36 (ai (wu aJ0.eq_1) (ai (wu aJ1.eq_1) (ai (wu aJ2.eq_1) (ai (wu aJ3.eq_1) (wu aJ4.eq_1)))))
def b30:CC:=(.reg [(aa a1 (.bx 51 5 z0)),(qq a2 (.mv xF))])
def b31:CC:=(.reg [(qq cE (.fa 0 z1)),(qq cW (.ld1 cT)),(ee dh (.call 41 [cM])),(ee d8 (.call 40 [cH])),(qq a9 (.mv cI)),(qq dK (.ex 0 z9)),(qq dL (.ex 1 z9)),(qq dJ (.ex 2 z9)),(qq eD (.ex 3 z9)),(qq a3 (.mv dM)),(qq a4 (.mv dA)),(qq a5 (.mv dX)),(qq a6 (.mv eJ))])
def b32:CC:=(.reg [(qq a7 (.mv (x6 (-32768)))),(qq a8 (.mv (x6 32767)))])
def b33:CC:=(.reg [(qq eZ (.fa 0 z1)),(qq eN (.ld1 fh)),(qq fq (.bi .eql fL (x6 3))),(qq ej (.mv fO)),(bk eE (.fa 0 z1) ej),(bk eT (.ld1 gw) ej),(bk ga (.bi .eql ia (x6 6)) ej),(qq fP (.pk gD xT ib))])
def b34:CC:=(.reg [(qq a7 (.mv (x6 0))),(qq a8 (.mv (x6 65535)))])
def b35:CC:=(.seq b33 (.cond gV b34 .skip))
def b36:CC:=(.reg [(qq ft (.fa 0 z1)),(qq ie (.ld1 gy)),(qq gz (.bi .geq iU (x6 1))),(qq fJ (.mv iK)),(aj gR (.fa 0 z1) fJ),(aj gW (.ld1 iV) fJ),(aj ig (.bi .leq iX (x6 28)) fJ),(qq iE (.pk j8 jR xF)),(qq fj (.mv kC)),(aj fQ (.mv z3) fj),(aj kc (.fa 1 z1) fj),(aj kd (.ld1 lM) fj),(dZ kE (.call 105 [jY,lN]) fj),(qq jS (.pk kQ lO xF)),(qq gC (.mv lF)),(aj kR (.mv z4) gC),(aj lJ (.fa 2 z1) gC),(aj kW (.ld1 n6) gC),(dZ kS (.call 105 [lQ,og]) gC),(qq kT (.pk lG oq xF)),(qq kU (.mv mU)),(aj mG (.mv z5) kU),(aj jV (.fa 3 z1) kU),(aj ke (.ld1 ot) kU),(dZ mH (.call 105 [n7,n8]) kU),(qq kX (.pk oT mV xF)),(qq jW (.mv ng)),(aj gb (.fa 4 z1) jW),(aj ow (.ld1 pG) jW),(aj oy (.bi .eql qB (x6 0)) jW),(aj kF (.mv pf) jW),(bk kY (.mv z6) kF),(bk lK (.mv qE) kF),(aj nn (.fa 4 z1) lK),(aj pM (.ld1 pH) lK),(aj oz (.mv z7) lK),(aj n9 (.bi .geq rV um) lK),(bk kZ (.pk pg tS xF) kF),(bk oX (.mv rW) kF),(aj oA (.fa 4 z1) oX),(aj pN (.ld1 rP) oX),(aj oB (.mv z8) oX),(aj lL (.bi .leq pI rY) oX),(bk oY (.pk rX uo xF) kF),(aj sf (.pk qC xT uQ) jW),(qq pO (.pk oU uR xF)),(qq a2 (.mv uS))])
def b37:CC:=(.seq b30 (.seq b31 (.seq b32 (.seq b35 (.seq b36 .ret)))))
def c70:CF:= .mk 7 [.t a2] b37
theorem e70(v0:V):aN 7 [v0]=(.n nX (some v0) nX):=rfl
def B70:=ai @e70 (ai (wu b30.eq_1) (ai (wu b31.eq_1) (ai (wu b32.eq_1) (ai (wu b33.eq_1) (ai (wu b34.eq_1) (ai (wu b35.eq_1) (ai (wu b36.eq_1) (wu b37.eq_1))))))))
def h64:List V→Option V
 |[]=>some (.g fA)
 |_=>none
theorem X9:h64 []=some (.g fA):=rfl
def vP:List V→Option V
 |[.i .i64 f]=>some (.t [.b (dI f),.b (aI f),.b (bI f),.b (iI f)])
 |_=>none
theorem Eu(f:Int):vP [.i .i64 f]=some (.t [.b (dI f),.b (aI f),.b (bI f),.b (iI f)]):=rfl
def vL:List V→Option V
 |[.b b,.i .i64 n]=>some (.b (nT b n))
 |_=>none
theorem ag8(b:Bool)(n:Int):vL [.b b,.i .i64 n]=some (.b (nT b n)):=rfl
def mO(op:Int):V:=if 1≤op∧op≤28 then(fA[op.toNat]?).getD (.s 0 0)else .s 0 0
theorem t36(Φ:Nat→Option CF)(h:Φ 36=some c36)(h64:Φ 64=some (.orc (ah h64)))(op:Int)(ct:Nat):To Φ 36 [.i .i64 op] ct (mO op):=by
 refine bX h ?_
 simp only[WX,B36]
 repeat' first|(refine iJ (by simp only[WX];rfl) (fun h=>?_) (fun h=>?_)<;>simp only[WX,B36,h,h64,X9])|(refine xN (by simp only[WX];rfl) (fun h=>?_) (fun h=>?_)<;>simp only[WX,B36,h])
 all_goals simp only[decide_eq_true_eq,decide_eq_false_iff_not,Bool.not_false]at *
 ·unfold mO;rw[ab (by omega)]
 ·rw[ac (by omega),getD_some (d:= .s 0 0) (show op.toNat<fA.length by show op.toNat<29;omega)];simp only[WX];unfold mO;rw[ac (by omega)]
 ·unfold mO;rw[ab (by omega)]
def cJ(op d a b i:Int):Bool:=
 decide (1≤op)&&(decide (op≤28)&&(nT (dI (aL op)) d&&(nT (aI (aL op)) a&&(nT (bI (aL op)) b&&(decide (i=0)||(iI (aL op)&&(decide (op=3∨op=6)&&(decide (0≤i)&&decide (i≤65535))||decide (op≠3∧op≠6)&&(decide (-32768≤i)&&decide (i≤32767)))))))))
theorem nF(op:Int):aL op=0∨aL op=1∨aL op=2∨aL op=3∨aL op=4∨aL op=5∨aL op=6:=by
 unfold aL;repeat' split
 all_goals simp
def BJ:List V→Option V
 |[.i .i64 op]=>some (mO op)
 |_=>none
theorem X6(op:Int):BJ [.i .i64 op]=some (mO op):=rfl
theorem t70(Φ:Nat→Option CF)(h:Φ 70=some c70)(h41:Φ 41=some (.orc (ah h35)))(vP:Φ 40=some (.orc (ah vP)))(vL:Φ 105=some (.orc (ah vL)))(op d a b i:Int)(ct:Nat):
 To Φ 70 [.g [.i .i64 op,.i .i64 d,.i .i64 a,.i .i64 b,.i .i64 i]] ct (.b (cJ op d a b i)):=by
 refine bX h ?_
 simp only[WX,Nat.reduceAdd,B70,h41,nH,vP,Eu]
 repeat' first|(refine iJ (by simp only[WX];rfl) (fun h=>?_) (fun h=>?_)<;>simp only[WX,B70,h])|(refine xN (by simp only[WX];rfl) (fun h=>?_) (fun h=>?_)<;>simp only[WX,B70,h,vL,ag8])
 all_goals (rw[V.b.injEq];unfold cJ;generalize nT (dI (aL op)) d=rd at *;generalize nT (aI (aL op)) a=ra at *;generalize nT (bI (aL op)) b=rb at *;generalize iI (aL op)=ii at *;rw[Bool.eq_iff_iff];simp only[decide_eq_true_eq,decide_eq_false_iff_not,Bool.not_true,Bool.not_false,aJ,Bool.or_eq_true]at *)
 all_goals first|omega|(simp[*];done)|(simp[*];omega)
def aG3:CC:=(.reg [(aa a1 (.bx 51 5 z0)),(qq a2 (.mv xF))])
def aG4:CC:=(.reg [(qq a8 (.fa 0 z1)),(qq a9 (.ld1 z8)),(ee cE (.call 35 [z9])),(ee cW (.call 34 [cT])),(aa a3 (.al 91 [(.b false),(.b false),(.b false),(.b false)])),(ez (.st 4 z3 cM))])
def aG5:CC:=(.reg [(qq dh (.ldn 5 z1)),(aa a4 (.al 51 [(.i .i64 0),(.i .i64 0),(.i .i64 0),(.i .i64 0),(.i .i64 0)])),(ez (.st 5 z4 cH))])
def aG6:CC:=(.reg [(qq d8 (.fa 0 z3)),(qq dK (.ld1 cI))])
def aG7:CC:=(.reg [(qq dL (.fa 1 z4)),(ez (.st 1 dA (x6 0)))])
def aG8:CC:=(.reg [(qq dJ (.fa 1 z3)),(qq eD (.ld1 dX))])
def aG9:CC:=(.reg [(qq eZ (.fa 2 z4)),(ez (.st 1 fh (x6 0)))])
def aH0:CC:=(.seq aG8 (.cond eJ aG9 .skip))
def aH1:CC:=(.reg [(qq eN (.fa 2 z3)),(qq fq (.ld1 fL))])
def Qa:CC:=(.reg [(qq ej (.fa 3 z4)),(ez (.st 1 gD (x6 0)))])
def Qb:CC:=(.seq aH1 (.cond fO Qa .skip))
def Qc:CC:=(.reg [(qq eE (.fa 3 z3)),(qq eT (.ld1 gw))])
def Qd:CC:=(.reg [(qq ga (.fa 4 z4)),(ez (.st 1 ib (x6 0)))])
def Qe:CC:=(.seq Qc (.cond ia Qd .skip))
def Qf:CC:=(.reg [(qq a5 (.mv (x6 (-32768)))),(qq a6 (.mv (x6 32767)))])
def Qg:CC:=(.reg [(qq fP (.fa 0 z1)),(qq ft (.ld1 gV)),(ee ie (.call 61 [gy]))])
def Qh:CC:=(.reg [(qq a5 (.mv (x6 0))),(qq a6 (.mv (x6 65535)))])
def Qi:CC:=(.seq Qg (.cond iU Qh .skip))
def Qj:CC:=(.reg [(qq a7 (.mv (.c (.f 63 [] []))))])
def Qk:CC:=(.reg [(qq gz (.fa 0 z1)),(qq fJ (.ld1 iK)),(ee gR (.call 36 [j8])),(qq gW (.bi .neq iV (.c (.s 0 0)))),(qq ig (.mv iX)),(aj iE (.ldn 5 z4) ig),(aj fj (.fa 0 z1) ig),(aj fQ (.ld1 kQ) ig),(aj kc (.bld [(.i .i64 0),(.i .i64 0),(.i .i64 0),(.i .i64 0),(.i .i64 0)] [(0,1,jY)]) ig),(aj kd (.eq false (.agg [(0,.int),(1,.int),(2,.int),(3,.int),(4,.int)]) false kC lM) ig),(qq kE (.pk jR lN xF)),(qq jS (.mv lO)),(aj gC (.mv z7) jS),(aj kR (.fa 1 z1) jS),(aj lJ (.ld1 lQ) jS),(dZ kW (.cv lG [n6]) jS),(qq kS (.pk lF og xF)),(qq kT (.mv oq)),(aj kU (.mv z7) kT),(aj mG (.fa 2 z1) kT),(aj jV (.ld1 n7) kT),(dZ ke (.cv oT [ot]) kT),(qq mH (.pk mU n8 xF)),(qq kX (.mv mV)),(aj jW (.mv z7) kX),(aj gb (.fa 3 z1) kX),(aj ow (.ld1 pG) kX),(dZ oy (.cv oU [qB]) kX),(qq kF (.pk ng pf xF)),(qq kY (.mv qC)),(aj lK (.fa 4 z1) kY),(aj nn (.ld1 pg) kY),(aj pM (.mv z5) kY),(aj oz (.bi .geq pH rV) kY),(qq n9 (.pk qE um xF)),(qq kZ (.mv tS)),(aj oX (.fa 4 z1) kZ),(aj oA (.ld1 rX) kZ),(aj pN (.mv z6) kZ),(aj oB (.bi .leq rP pI) kZ),(qq lL (.pk rW rY xF)),(qq a2 (.mv uo))])
def Ql:CC:=(.seq Qf (.seq Qi (.seq Qj (.seq Qk .ret))))
def Qm:CC:=(.seq (.seq aG6 (.cond dM aG7 .skip)) (.seq aH0 (.seq Qb (.seq Qe Ql))))
def c33:CF:= .mk 7 [.t a2] (.seq aG3 (.seq aG4 (.seq aG5 Qm)))
theorem e33(v0:V):aN 7 [v0]=(.n nX (some v0) nX):=rfl
def B33:=ai @e33 (ai (wu aG3.eq_1) (ai (wu aG4.eq_1) (ai (wu aG5.eq_1) (ai (wu aG6.eq_1) (ai (wu aG7.eq_1) (ai (wu aG8.eq_1) (ai (wu aG9.eq_1) (ai (wu aH0.eq_1) (ai (wu aH1.eq_1) (ai (wu Qa.eq_1) (ai (wu Qb.eq_1) (ai (wu Qc.eq_1) (ai (wu Qd.eq_1) (ai (wu Qe.eq_1) (ai (wu Qf.eq_1) (ai (wu Qg.eq_1) (ai (wu Qh.eq_1) (ai (wu Qi.eq_1) (ai (wu Qj.eq_1) (ai (wu Qk.eq_1) (ai (wu Ql.eq_1) (wu Qm.eq_1))))))))))))))))))))))
theorem XI(op:Int):aK .neq (mO op) (.s 0 0)=some (.b (decide (1≤op∧op≤28))):=by
 unfold mO
 by_cases h:1≤op∧op≤28
 ·rw[ac h,af h];have key:∀n,n<29→1≤n→aK .neq ((fA[n]?).getD (.s 0 0)) (.s 0 0)=some (.b true):=by
   intro n hn h1;have:n=1∨n=2∨n=3∨n=4∨n=5∨n=6∨n=7∨n=8∨n=9∨n=10∨n=11∨n=12∨n=13∨n=14∨n=15∨n=16∨n=17∨n=18∨n=19∨n=20∨n=21∨n=22∨n=23∨n=24∨n=25∨n=26∨n=27∨n=28:=by omega
   rcases this with rfl|rfl|rfl|rfl|rfl|rfl|rfl|rfl|rfl|rfl|rfl|rfl|rfl|rfl|rfl|rfl|rfl|rfl|rfl|rfl|rfl|rfl|rfl|rfl|rfl|rfl|rfl|rfl<;>rfl
  exact key op.toNat (by omega) (by omega)
 ·rw[ab h,ag h];rfl
theorem t33(Φ:Nat→Option CF)(h:Φ 33=some c33)(h35:Φ 35=some (.orc (ah h35)))(h34:Φ 34=some (.orc (ah h34)))(BK:Φ 61=some (.orc (ah BK)))(Mg:Φ 63=some (.orc (ah Mg)))(BJ:Φ 36=some (.orc (ah BJ)))(op d a b i:Int)(ct:Nat):
 To Φ 33 [.g [.i .i64 op,.i .i64 d,.i .i64 a,.i .i64 b,.i .i64 i]] ct (.b (cJ op d a b i)):=by
 refine bX h ?_
 rcases nF op with hf|hf|hf|hf|hf|hf|hf
 all_goals
  simp only[WX,Nat.reduceBEq,Int.reduceEq,Nat.reduceAdd,Nat.reduceLeDiff,B33,h35,nH,h34,A0,BK,X7,hf,dI,aI,bI,iI]
  repeat' first|(refine iJ (by simp only[WX];rfl) (fun h=>?_) (fun h=>?_)<;>simp only[WX,B33,h,BJ,X6,XI])|(refine xN (by simp only[WX];rfl) (fun h=>?_) (fun h=>?_)<;>simp only[WX,Nat.reduceAdd,Nat.reduceLeDiff,h,Mg,bB2])
 all_goals (rw[V.b.injEq,Bool.eq_iff_iff];simp only[decide_eq_true_eq,decide_eq_false_iff_not,Bool.not_true,aJ,Bool.and_eq_false_iff,aZ,false_iff]at *;simp only[cJ,nT,hf,dI,aI,bI,iI,aJ,Bool.or_eq_true,decide_eq_true_eq,Int.reduceEq,or_true,or_false,true_and,or_self,false_and])
 all_goals omega
def aY3:CC:=(.reg [(aa a1 (.bx 51 5 z0)),(qq a2 (.mv (.c (.i .u32 0)))),(qq a3 (.mv (x6 0)))])
def aY4:CC:=(.reg [(qq a4 (.ldn 5 z1)),(ee a5 (.call 33 [z4])),(qq a6 (.un .not z5))])
def aY5:CC:=(.reg [(qq a2 (.mv (.c (.i .u32 0)))),(qq a3 (.mv (x6 2)))])
def aY6:CC:=(.seq aY4 (.cond z6 (.seq aY5 .ret) .skip))
def aY7:CC:=(.reg [(qq a7 (.fa 0 z1)),(qq a8 (.ld1 z7)),(qq a9 (.ci .u32 z8)),(qq cE (.fa 1 z1)),(qq cW (.ld1 cT)),(qq dh (.ci .u32 cM)),(qq d8 (.bi .shl cH (.c (.i .u64 12)))),(qq dK (.bi .or z9 cI)),(qq dL (.fa 2 z1)),(qq dJ (.ld1 dA)),(qq eD (.ci .u32 dX)),(qq eZ (.bi .shl eJ (.c (.i .u64 8)))),(qq eN (.bi .or dM fh)),(qq fq (.fa 3 z1)),(qq ej (.ld1 fO)),(qq eE (.ci .u32 gD)),(qq eT (.bi .shl gw (.c (.i .u64 16)))),(qq ga (.bi .or fL ia)),(qq fP (.fa 4 z1)),(qq ft (.ld1 gV)),(qq ie (.ci .u16 gy)),(qq gz (.ci .u32 iU)),(qq fJ (.bi .shl iK (.c (.i .u64 16)))),(qq gR (.bi .or ib j8)),(qq a2 (.mv iV)),(qq a3 (.mv (x6 0)))])
def c62:CF:= .mk 5 [.t a2,.t a3] (.seq aY3 (.seq aY6 (.seq aY7 .ret)))
theorem e62(v0:V):aN 5 [v0]=(.n kV (some v0) kV):=rfl
def B62:=ai @e62 (ai (wu aY3.eq_1) (ai (wu aY4.eq_1) (ai (wu aY5.eq_1) (ai (wu aY6.eq_1) (wu aY7.eq_1)))))
def uc:List V→Option V
 |[.g [.i .i64 op,.i .i64 d,.i .i64 a,.i .i64 b,.i .i64 i]]=>some (.b (cJ op d a b i))
 |_=>none
theorem zZ(op d a b i:Int):uc [.g [.i .i64 op,.i .i64 d,.i .i64 a,.i .i64 b,.i .i64 i]]=some (.b (cJ op d a b i)):=rfl
def ei(op d a b i:Int):Nat:=op.toNat+4096*d.toNat+256*a.toNat+65536*b.toNat+65536*(i%65536).toNat
theorem ri{n:Bool}{x:Int}(h:nT n x=true):0≤x∧x<16∧(x≠0→n=true):=by
 unfold nT at h
 simp only[decide_eq_true_eq]at h
 rcases h with h|⟨h1,h2,h1003⟩
 ·subst h;exact⟨by decide,by decide,fun h=>absurd rfl h⟩
 ·exact⟨by omega,h1003,fun _=>h1⟩
theorem iS{op d a b i:Int}(h:cJ op d a b i=true):1≤op∧op≤28∧0≤d∧d<16∧0≤a∧a<16∧0≤b∧b<16∧ -32768≤i∧i≤65535∧(b=0∨i=0):=by
 unfold cJ at h
 simp only[aJ,Bool.or_eq_true,decide_eq_true_eq]at h
 obtain⟨h1,h2,h1003,h1004,h1005,h1006⟩:=h
 have r1003:=ri h1003
 have r1004:=ri h1004
 have r1005:=ri h1005
 have hbi:b=0∨i=0:=by
  by_cases hb:b=0
  ·exact .inl hb
  ·right;have:=r1005.2.2 hb;unfold bI at this;simp only[decide_eq_true_eq]at this;rcases h1006 with h1006|⟨h1006,_⟩
   ·exact h1006
   ·unfold iI at h1006;simp only[decide_eq_true_eq]at h1006;omega
 have hi: -32768≤i∧i≤65535:=by
  rcases h1006 with h1006|⟨_,h1006⟩
  ·omega
  ·omega
 exact⟨h1,h2,r1003.1,r1003.2.1,r1004.1,r1004.2.1,r1005.1,r1005.2.1,hi.1,hi.2,hbi⟩
theorem XR(x y:Nat)(h:x<4096):x|||4096*y=x+4096*y:=by
 rw[Nat.or_comm,←Nat.two_pow_add_eq_or_of_lt (show x<2^12 from h) y,Nat.add_comm]
theorem rp(x y:Nat)(h:x<65536):x|||65536*y=x+65536*y:=by
 rw[Nat.or_comm,←Nat.two_pow_add_eq_or_of_lt (show x<2^16 from h) y,Nat.add_comm]
theorem Ag(x y:Nat)(h:x<256):x|||256*y=x+256*y:=by
 rw[Nat.or_comm,←Nat.two_pow_add_eq_or_of_lt (show x<2^8 from h) y,Nat.add_comm]
theorem t62(Φ:Nat→Option CF)(h:Φ 62=some c62)(uc:Φ 33=some (.orc (ah uc)))(op d a b i:Int)(ct:Nat):
 To Φ 62 [.g [.i .i64 op,.i .i64 d,.i .i64 a,.i .i64 b,.i .i64 i]] ct (if cJ op d a b i=true then .t [.i .u32 (ei op d a b i:Nat),.i .i64 0]else .t [.i .u32 0,.i .i64 2]):=by
 refine bX h ?_
 cases hm:cJ op d a b i with
 |false=>simp only[WX,Nat.reduceAdd,Nat.reduceLeDiff,B62,uc,zZ,hm]
 |true=>
  obtain⟨b1,b2,b1003,b1004,b1005,b1006,b1007,b1008,b51,b62,b1011⟩:=iS hm;obtain⟨o,rfl⟩:=Int.eq_ofNat_of_zero_le (show 0≤op by omega);obtain⟨d,rfl⟩:=Int.eq_ofNat_of_zero_le b1003;obtain⟨a,rfl⟩:=Int.eq_ofNat_of_zero_le b1005;obtain⟨b,rfl⟩:=Int.eq_ofNat_of_zero_le b1007;obtain⟨j,hj⟩:=Int.eq_ofNat_of_zero_le (show 0≤i%65536 by omega);have w47:IntKind.u16.wrap i=(j:Int):=by rw[Zu];exact hj
  have e1:=bJ o (by omega);have e2:=bJ d (by omega);have e1003:=bJ a (by omega);have e1004:=bJ b (by omega);have e1005:=bJ j (by omega);have s1:=LG d (by omega);have s2:=rN a (by omega);have s3:=lE b (by omega);have s4:=lE j (by omega);have n1:(o|||4096*d)<2^32:=Nat.or_lt_two_pow (by omega) (by omega);have n2:(o|||4096*d|||256*a)<2^32:=Nat.or_lt_two_pow n1 (by omega);have n3:(o|||4096*d|||256*a|||65536*b)<2^32:=Nat.or_lt_two_pow n2 (by omega);have o1:=qz o (4096*d) (by omega) (by omega);have o2:=qz (o|||4096*d) (256*a) n1 (by omega);have o1003:=qz (o|||4096*d|||256*a) (65536*b) n2 (by omega);have o1004:=qz (o|||4096*d|||256*a|||65536*b) (65536*j) n3 (by omega);simp only[WX,Nat.reduceAdd,Nat.reduceLeDiff,B62,uc,zZ,hm,w47,e1,e2,e1003,e1004,e1005,s1,s2,s3,s4,o1,o2,o1003,o1004];have key:(o|||4096*d|||256*a|||65536*b|||65536*j)=ei o d a b i:=by
   unfold ei;rw[Nat.or_assoc o,Nat.or_comm (4096*d),←Nat.or_assoc o,Ag o a (by omega),XR _ d (by omega)];rcases b1011 with h0|h0
   ·have:b=0:=by omega
    subst this;rw[Nat.mul_zero,Nat.or_zero,rp _ j (by omega)];omega
   ·have:j=0:=by omega
    subst this;rw[Nat.mul_zero,Nat.or_zero,rp _ b (by omega)];omega
  rw[key]
def b38:CC:=(.reg [(aa a1 (.bx 51 5 z0)),(qq a2 (.mv (.c (.i .u32 0))))])
def b39:CC:=(.reg [(qq a4 (.fa 0 z1)),(qq a5 (.ld1 z4)),(qq a6 (.ci .u32 z5)),(qq a7 (.fa 1 z1)),(qq a8 (.ld1 z7)),(qq a9 (.bi .mul (x6 16) z8)),(qq cE (.fa 2 z1)),(qq cW (.ld1 cT)),(qq dh (.bi .add z9 cM)),(qq d8 (.ci .u32 cH)),(qq dK (.bi .mul cI (.c (.i .u32 256)))),(qq dL (.bi .add z6 dM)),(qq a3 (.mv dA))])
def b40:CC:=(.reg [(qq dJ (.fa 0 z1)),(qq eD (.ld1 dX)),(ee eZ (.call 41 [eJ])),(qq eN (.bi .eql fh (x6 5)))])
def b41:CC:=(.reg [(qq fq (.mv z3)),(qq ej (.fa 3 z1)),(qq eE (.ld1 gD)),(qq eT (.ci .u32 gw)),(qq ga (.bi .mul ia (.c (.i .u32 65536)))),(qq fP (.bi .add fO ib)),(qq a2 (.mv gV))])
def b42:CC:=(.seq b40 (.cond fL (.seq b41 .ret) .skip))
def b43:CC:=(.reg [(qq ft (.mv z3)),(qq ie (.fa 4 z1)),(qq gz (.ld1 iU)),(qq fJ (.bi .and iK (x6 65535))),(qq gR (.ci .u32 j8)),(qq gW (.bi .mul iV (.c (.i .u32 65536)))),(qq ig (.bi .add gy iX)),(qq a2 (.mv jR))])
def c71:CF:= .mk 6 [.t a2] (.seq b38 (.seq b39 (.seq b42 (.seq b43 .ret))))
theorem e71(v0:V):aN 6 [v0]=(.n nW (some v0) nW):=rfl
def B71:=ai @e71 (ai (wu b38.eq_1) (ai (wu b39.eq_1) (ai (wu b40.eq_1) (ai (wu b41.eq_1) (ai (wu b42.eq_1) (wu b43.eq_1))))))
theorem KT{op d a b i:Int}(h:cJ op d a b i=true):(aL op=5→i=0)∧(aL op≠5→b=0):=by
 unfold cJ at h
 simp only[aJ,Bool.or_eq_true,decide_eq_true_eq]at h
 obtain⟨h1,h2,h1003,h1004,h1005,h1006⟩:=h
 constructor
 ·intro hf;rcases h1006 with h1006|⟨h1006,_⟩
  ·exact h1006
  ·rw[hf]at h1006;cases h1006
 ·intro hf;have r1005:=ri h1005;by_cases hb:b=0
  ·exact hb
  ·have:=r1005.2.2 hb;unfold bI at this;simp only[decide_eq_true_eq]at this;exact absurd this hf
theorem t71(Φ:Nat→Option CF)(h:Φ 71=some c71)(h41:Φ 41=some (.orc (ah h35)))(op d a b i:Int)(hm:cJ op d a b i=true)(ct:Nat):
 To Φ 71 [.g [.i .i64 op,.i .i64 d,.i .i64 a,.i .i64 b,.i .i64 i]] ct (.i .u32 (ei op d a b i:Nat)):=by
 refine bX h ?_
 obtain⟨b1,b2,b1003,b1004,b1005,b1006,b1007,b1008,b51,b62,b1011⟩:=iS hm
 obtain⟨f1,f2⟩:=KT hm
 obtain⟨o,rfl⟩:=Int.eq_ofNat_of_zero_le (show 0≤op by omega)
 obtain⟨d,rfl⟩:=Int.eq_ofNat_of_zero_le b1003
 obtain⟨a,rfl⟩:=Int.eq_ofNat_of_zero_le b1005
 obtain⟨b,rfl⟩:=Int.eq_ofNat_of_zero_le b1007
 obtain⟨j,hj⟩:=Int.eq_ofNat_of_zero_le (show 0≤i%65536 by omega)
 have a1:=A1 i
 rw[hj]at a1
 have e1:=bJ o (by omega)
 have e1004:=bJ b (by omega)
 have e1005:=bJ j (by omega)
 have m1:aK .mul (.i .i64 16) (.i .i64 (d:Int))=some (.i .i64 (16*(d:Int))):=mi 16 d (by omega) (by omega)
 have m2:aK .add (.i .i64 (16*(d:Int))) (.i .i64 (a:Int))=some (.i .i64 ((16*d+a:Nat):Int)):=by rw[bH _ _ (by omega) (by omega)];congr 2
 have e1006:=bJ (16*d+a) (by omega)
 have m3:aK .mul (.i .u32 ((16*d+a:Nat):Int)) (.i .u32 256)=some (.i .u32 (((16*d+a)*256:Nat):Int)):=bM (16*d+a) 256 (by omega)
 have m4:aK .add (.i .u32 (o:Int)) (.i .u32 (((16*d+a)*256:Nat):Int))=some (.i .u32 ((o+(16*d+a)*256:Nat):Int)):=bc _ _ (by omega)
 have m5:aK .mul (.i .u32 (b:Int)) (.i .u32 65536)=some (.i .u32 ((b*65536:Nat):Int)):=bM b 65536 (by omega)
 have m6:aK .mul (.i .u32 (j:Int)) (.i .u32 65536)=some (.i .u32 ((j*65536:Nat):Int)):=bM j 65536 (by omega)
 have m7:aK .add (.i .u32 ((o+(16*d+a)*256:Nat):Int)) (.i .u32 ((b*65536:Nat):Int))=some (.i .u32 ((o+(16*d+a)*256+b*65536:Nat):Int)):=bc _ _ (by omega)
 have m8:aK .add (.i .u32 ((o+(16*d+a)*256:Nat):Int)) (.i .u32 ((j*65536:Nat):Int))=some (.i .u32 ((o+(16*d+a)*256+j*65536:Nat):Int)):=bc _ _ (by omega)
 simp only[WX,Nat.reduceAdd,B71,h41,nH,e1,m1,m2,e1006,m3,m4]
 refine iJ (by simp only[WX];rfl) (fun h=>?_) (fun h=>?_)<;>simp only[WX,B71,h,e1004,e1005,m5,m6,m7,m8,a1]
 ·have hf:aL o=5:=b9 h;have:=f1 hf;subst this
  congr 2
  unfold ei;omega
 ·have hf:aL o≠5:=of_decide_eq_false h;have:=f2 hf
  congr 2
  unfold ei;omega
def aF4:CC:=(.reg [(aa a2 (.al 51 [(.i .i64 0),(.i .i64 0),(.i .i64 0),(.i .i64 0),(.i .i64 0)])),(qq a3 (.mv (x6 0)))])
def aF5:CC:=(.reg [(qq a8 (.mv z0)),(qq a9 (.bi .and z8 (.c (.i .u32 255)))),(qq cE (.ci .i64 z9)),(qq cW (.bld [(.i .i64 0),(.i .i64 0),(.i .i64 0),(.i .i64 0),(.i .i64 0)] [(0,1,cT)])),(aa a4 (.al 51 [(.i .i64 0),(.i .i64 0),(.i .i64 0),(.i .i64 0),(.i .i64 0)])),(ez (.st 5 z4 cM))])
def aF6:CC:=(.reg [(qq dh (.fa 0 z4)),(qq d8 (.ld1 cH)),(ee dK (.call 35 [cI])),(ee dL (.call 34 [dM])),(aa a5 (.al 91 [(.b false),(.b false),(.b false),(.b false)])),(ez (.st 4 z5 dA))])
def aF7:CC:=(.reg [(qq dJ (.fa 0 z5)),(qq eD (.ld1 dX))])
def aF8:CC:=(.reg [(qq eZ (.mv z0)),(qq eN (.bi .shr fh (.c (.i .u64 12)))),(qq fq (.bi .and fL (.c (.i .u32 15)))),(qq ej (.ci .i64 fO)),(qq eE (.fa 1 z4)),(ez (.st 1 gw gD))])
def aF9:CC:=(.seq aF7 (.cond eJ aF8 .skip))
def aG0:CC:=(.reg [(qq eT (.fa 1 z5)),(qq ga (.ld1 ia))])
def aG1:CC:=(.reg [(qq fP (.mv z0)),(qq ft (.bi .shr gV (.c (.i .u64 8)))),(qq ie (.bi .and gy (.c (.i .u32 15)))),(qq gz (.ci .i64 iU)),(qq fJ (.fa 2 z4)),(ez (.st 1 j8 iK))])
def aG2:CC:=(.seq aG0 (.cond ib aG1 .skip))
def PU:CC:=(.reg [(qq gR (.fa 2 z5)),(qq gW (.ld1 iV))])
def PV:CC:=(.reg [(qq ig (.mv z0)),(qq iE (.bi .shr jR (.c (.i .u64 16)))),(qq fj (.ci .i64 kC)),(qq fQ (.fa 3 z4)),(ez (.st 1 jY kQ))])
def PW:CC:=(.seq PU (.cond iX PV .skip))
def PX:CC:=(.reg [(qq kc (.fa 3 z5)),(qq kd (.ld1 lM))])
def PY:CC:=(.reg [(qq kE (.mv z0)),(qq jS (.bi .shr lO (.c (.i .u64 16)))),(qq gC (.ci .i16 lF)),(qq kR (.ci .i64 lG)),(qq lJ (.fa 4 z4)),(ez (.st 1 n6 lQ))])
def PZ:CC:=(.reg [(qq kW (.fa 0 z4)),(qq kS (.ld1 og)),(ee kT (.call 61 [oq]))])
def Q0:CC:=(.reg [(qq kU (.mv z0)),(qq mG (.bi .shr oT (.c (.i .u64 16)))),(qq jV (.ci .i64 n7)),(qq ke (.fa 4 z4)),(ez (.st 1 n8 ot))])
def Q1:CC:=(.seq PZ (.cond mU Q0 .skip))
def Q2:CC:=(.cond lN (.seq PY Q1) .skip)
def Q3:CC:=(.reg [(qq kX (.ldn 5 z4)),(ee jW (.call 62 [ng])),(qq mH (.mv oU)),(qq gb (.ex 0 mV)),(qq ow (.ex 1 mV)),(qq a6 (.mv pG)),(qq a7 (.mv qB))])
def Q4:CC:=(.reg [(qq oy (.mv z7)),(qq kF (.bi .neq pf (x6 0))),(qq kY (.mv qC)),(bk lK (.mv z6) kY),(bk nn (.mv z0) kY),(bk pM (.bi .neq pg pH) kY),(qq oz (.pk qE xT rV))])
def Q5:CC:=(.reg [(qq n9 (.bld [(.i .i64 0),(.i .i64 0),(.i .i64 0),(.i .i64 0),(.i .i64 0)] [])),(ez (.st 5 z2 tS)),(qq a3 (.mv (x6 4)))])
def Q6:CC:=(.cond um (.seq Q5 .ret) .skip)
def Q7:CC:=(.reg [(qq kZ (.ldn 5 z4)),(ez (.st 5 z2 rW)),(qq a3 (.mv (x6 0)))])
def Q8:CC:=(.seq (.seq Q3 (.seq Q4 Q6)) (.seq Q7 .ret))
def Q9:CC:=(.seq aG2 (.seq PW (.seq (.seq PX Q2) Q8)))
def c32:CF:= .mk 7 [.cn a2 5,.t a3] (.seq aF4 (.seq aF5 (.seq aF6 (.seq aF9 Q9))))
theorem e32(v0:V):aN 7 [v0]=(.n nX (some v0) nX):=rfl
def B32:=ai @e32 (ai (wu aF4.eq_1) (ai (wu aF5.eq_1) (ai (wu aF6.eq_1) (ai (wu aF7.eq_1) (ai (wu aF8.eq_1) (ai (wu aF9.eq_1) (ai (wu aG0.eq_1) (ai (wu aG1.eq_1) (ai (wu aG2.eq_1) (ai (wu PU.eq_1) (ai (wu PV.eq_1) (ai (wu PW.eq_1) (ai (wu PX.eq_1) (ai (wu PY.eq_1) (ai (wu PZ.eq_1) (ai (wu Q0.eq_1) (ai (wu Q1.eq_1) (ai (wu Q2.eq_1) (ai (wu Q3.eq_1) (ai (wu Q4.eq_1) (ai (wu Q5.eq_1) (ai (wu Q6.eq_1) (ai (wu Q7.eq_1) (ai (wu Q8.eq_1) (wu Q9.eq_1)))))))))))))))))))))))))
def w62(op d a b i:Int):Int:=if cJ op d a b i=true then(ei op d a b i:Nat)else 0
def vD(op d a b i:Int):Int:=if cJ op d a b i=true then 0 else 2
def h62:List V→Option V
 |[.g [.i .i64 op,.i .i64 d,.i .i64 a,.i .i64 b,.i .i64 i]]=>some (.t [.i .u32 (w62 op d a b i),.i .i64 (vD op d a b i)])
 |_=>none
theorem Ew(op d a b i:Int):h62 [.g [.i .i64 op,.i .i64 d,.i .i64 a,.i .i64 b,.i .i64 i]]=some (.t [.i .u32 (w62 op d a b i),.i .i64 (vD op d a b i)]):=rfl
def lu(w:Nat):Int:=((w%256:Nat):Int)
def dW(w:Nat):Int:=if dI (aL (lu w))=true then((w/4096%16:Nat):Int)else 0
def aW(w:Nat):Int:=if aI (aL (lu w))=true then((w/256%16:Nat):Int)else 0
def bW(w:Nat):Int:=if bI (aL (lu w))=true then((w/65536:Nat):Int)else 0
def s16(w:Nat):Int:=if 32768≤w/65536 then((w/65536:Nat):Int)-65536 else((w/65536:Nat):Int)
def iW(w:Nat):Int:=if iI (aL (lu w))=true then(if lu w=3∨lu w=6 then((w/65536:Nat):Int)else s16 w)else 0
def IL(w:Nat):V:=
 if cJ (lu w) (dW w) (aW w) (bW w) (iW w)=true∧ei (lu w) (dW w) (aW w) (bW w) (iW w)=w then .t [.g [.i .i64 (lu w),.i .i64 (dW w),.i .i64 (aW w),.i .i64 (bW w),.i .i64 (iW w)],.i .i64 0]
 else .t [.g [.i .i64 0,.i .i64 0,.i .i64 0,.i .i64 0,.i .i64 0],.i .i64 4]
theorem qy(w:Nat)(hw:w<4294967296):aK .and (.i .u32 (w:Int)) (.i .u32 255)=some (.i .u32 ((w%256:Nat):Int)):=by
 have:=Jt w 255 hw (by decide)
 rw[show(255:Nat)=2^8-1 from rfl,Nat.and_two_pow_sub_one_eq_mod]at this
 exact this
theorem oQ(w:Nat)(hw:w<4294967296):aK .and (.i .u32 (w:Int)) (.i .u32 15)=some (.i .u32 ((w%16:Nat):Int)):=by
 have:=Jt w 15 hw (by decide)
 rw[show(15:Nat)=2^4-1 from rfl,Nat.and_two_pow_sub_one_eq_mod]at this
 exact this
theorem yU(w:Nat):aK .shr (.i .u32 (w:Int)) (.i .u64 12)=some (.i .u32 ((w/4096:Nat):Int)):=uJ w 12 (by decide)
theorem wP(w:Nat):aK .shr (.i .u32 (w:Int)) (.i .u64 8)=some (.i .u32 ((w/256:Nat):Int)):=uJ w 8 (by decide)
theorem tg(w:Nat):aK .shr (.i .u32 (w:Int)) (.i .u64 16)=some (.i .u32 ((w/65536:Nat):Int)):=uJ w 16 (by decide)
theorem bG3(w:Nat)(hw:w<4294967296):IntKind.i16.wrap ((w/65536:Nat):Int)=s16 w:=by
 rw[Zt]
 unfold s16
 split<;>split<;>omega
theorem ap3(w:Nat)(hw:w<4294967296):IntKind.i64.wrap (s16 w)=s16 w:=by
 unfold s16
 split<;>exact eC (by omega) (by omega)
theorem cZ2{op d a b i:Int}{w:Nat}(h:decide (vD op d a b i≠0)=(!false)):¬(cJ op d a b i=true∧ei op d a b i=w):=by
 have h':=b9 (show decide (vD op d a b i≠0)=true from h)
 unfold vD at h'
 intro hh
 rw[ac hh.1]at h'
 exact h' rfl
theorem cZ3{op d a b i:Int}{w:Nat}(h:decide (w62 op d a b i≠(w:Int))=true):¬(cJ op d a b i=true∧ei op d a b i=w):=by
 have h':=b9 h
 unfold w62 at h'
 intro hh
 rw[ac hh.1,hh.2]at h'
 exact h' rfl
theorem ofY{op d a b i:Int}{w:Nat}(h:decide (vD op d a b i≠0)=false)(h2:decide (w62 op d a b i≠(w:Int))=false):cJ op d a b i=true∧ei op d a b i=w:=by
 have h':=of_decide_eq_false h
 have h2':=of_decide_eq_false h2
 unfold vD at h'
 unfold w62 at h2'
 by_cases hm:cJ op d a b i=true
 ·rw[ac hm]at h2';refine⟨hm,?_⟩;have:=Classical.not_not.1 h2';omega
 ·rw[ab hm]at h';exact absurd (by decide) h'
theorem t32(Φ:Nat→Option CF)(h:Φ 32=some c32)(h35:Φ 35=some (.orc (ah h35)))(h34:Φ 34=some (.orc (ah h34)))(BK:Φ 61=some (.orc (ah BK)))(h62:Φ 62=some (.orc (ah h62)))(w:Nat)(hw:w<4294967296)(ct:Nat):
 To Φ 32 [.i .u32 (w:Int)] ct (IL w):=by
 refine bX h ?_
 have q1:=qy w hw
 have q2:=ff (w%256) (by omega)
 have q3:=yU w
 have q4:=oQ (w/4096) (by omega)
 have q5:=ff (w/4096%16) (by omega)
 have q6:=wP w
 have q7:=oQ (w/256) (by omega)
 have q8:=ff (w/256%16) (by omega)
 have q9:=tg w
 have q10:=ff (w/65536) (by omega)
 have q11:=bG3 w hw
 have q12:=ap3 w hw
 unfold IL dW aW bW iW
 have hop:lu w=((w%256:Nat):Int):=rfl
 rw[hop]
 generalize((w%256:Nat):Int)=op at *
 rcases nF op with hf|hf|hf|hf|hf|hf|hf
 all_goals
  simp only[WX,Nat.reduceBEq,Int.reduceEq,Nat.reduceAdd,Nat.reduceLeDiff,B32,h35,nH,h34,A0,BK,X7,hf,dI,aI,bI,iI,q1,q2,q3,q4,q5,q6,q7,q8,q9,q10,q11,q12,h62,Ew]
  repeat' first|(refine iJ (by simp only[WX];rfl) (fun h=>?_) (fun h=>?_)<;>simp only[WX,Nat.reduceBEq,Nat.reduceAdd,Nat.reduceLeDiff,B32,h,h62,Ew,q9,q10])|(refine xN (by simp only[WX];rfl) (fun h=>?_) (fun h=>?_)<;>simp only[WX,Nat.reduceAdd,Nat.reduceLeDiff,B32,h])
 all_goals first
  |rw[ac (show op=3∨op=6 from b9 (by assumption))]
  |rw[ab (show¬(op=3∨op=6)from of_decide_eq_false (by assumption))]
  |skip
 all_goals first
  |rw[ac (ofY (by assumption) (by assumption))]
  |rw[ab (cZ3 (by assumption))]
  |rw[ab (cZ2 (by assumption))]
def aK6:CC:=(.reg [(aa a2 (.al 51 [(.i .i64 0),(.i .i64 0),(.i .i64 0),(.i .i64 0),(.i .i64 0)])),(qq a3 (.mv (x6 0)))])
def aK7:CC:=(.reg [(qq a9 (.mv z0)),(qq cE (.bi .and z9 (.c (.i .u32 255)))),(qq cW (.ci .i64 cT)),(qq dh (.bld [(.i .i64 0),(.i .i64 0),(.i .i64 0),(.i .i64 0),(.i .i64 0)] [(0,1,cM)])),(aa a4 (.al 51 [(.i .i64 0),(.i .i64 0),(.i .i64 0),(.i .i64 0),(.i .i64 0)])),(ez (.st 5 z4 cH))])
def aK8:CC:=(.reg [(qq dK (.fa 0 z4)),(qq dL (.ld1 dM)),(ee dJ (.call 41 [dA])),(ee eD (.call 40 [dX])),(qq d8 (.mv eJ)),(qq eZ (.ex 0 cI)),(qq eN (.ex 1 cI)),(qq fq (.ex 2 cI)),(qq ej (.ex 3 cI)),(qq a5 (.mv fh)),(qq a6 (.mv fL)),(qq a7 (.mv fO)),(qq a8 (.mv gD))])
def aK9:CC:=(.reg [(qq eE (.mv z5))])
def aL0:CC:=(.reg [(qq eT (.mv z0)),(qq ga (.bi .shr ia (.c (.i .u64 12)))),(qq fP (.bi .and ib (.c (.i .u32 15)))),(qq ft (.ci .i64 gV)),(qq ie (.fa 1 z4)),(ez (.st 1 iU gy))])
def aL1:CC:=(.seq aK9 (.cond gw aL0 .skip))
def aL2:CC:=(.reg [(qq gz (.mv z6))])
def aL3:CC:=(.reg [(qq fJ (.mv z0)),(qq gR (.bi .shr j8 (.c (.i .u64 8)))),(qq gW (.bi .and iV (.c (.i .u32 15)))),(qq ig (.ci .i64 iX)),(qq iE (.fa 2 z4)),(ez (.st 1 kC jR))])
def aL4:CC:=(.seq aL2 (.cond iK aL3 .skip))
def QZ:CC:=(.reg [(qq fj (.mv z7))])
def R0:CC:=(.reg [(qq fQ (.mv z0)),(qq kc (.bi .shr jY (.c (.i .u64 16)))),(qq kd (.bi .and lM (.c (.i .u32 255)))),(qq kE (.ci .i64 lN)),(qq jS (.fa 3 z4)),(ez (.st 1 lF lO))])
def R5:CC:=(.seq QZ (.cond kQ R0 .skip))
def R6:CC:=(.reg [(qq gC (.mv z8))])
def R7:CC:=(.reg [(qq kR (.mv z0)),(qq lJ (.bi .shr lQ (.c (.i .u64 16)))),(qq kW (.ci .i64 n6)),(qq kS (.fa 4 z4)),(ez (.st 1 oq og))])
def R8:CC:=(.reg [(qq kT (.fa 0 z4)),(qq kU (.ld1 mU)),(qq mG (.bi .neq oT (x6 3))),(qq jV (.mv n7)),(aj ke (.fa 0 z4) jV),(aj mH (.ld1 n8) jV),(aj kX (.bi .neq mV (x6 6)) jV),(qq jW (.pk ot ng xF)),(qq gb (.mv oU)),(aj ow (.fa 4 z4) gb),(aj oy (.ld1 qB) gb),(aj kF (.bi .gtr pf (x6 32767)) gb),(qq kY (.pk pG qC xF))])
def R9:CC:=(.reg [(qq lK (.fa 4 z4)),(qq nn (.ld1 pg)),(qq pM (.bi .sub pH (x6 65536))),(qq oz (.fa 4 z4)),(ez (.st 1 um rV))])
def Ra:CC:=(.seq R8 (.cond qE R9 .skip))
def Rb:CC:=(.cond lG (.seq R7 Ra) .skip)
def Rc:CC:=(.reg [(qq n9 (.ldn 5 z4)),(ee kZ (.call 70 [tS])),(qq oX (.un .not rW)),(qq oA (.mv rX)),(bk pN (.ldn 5 z4) oA),(X3 oB (.call 71 [pI]) oA),(bk lL (.mv z0) oA),(bk oY (.bi .neq rY uo) oA),(qq sf (.pk rP xT uQ))])
def Rd:CC:=(.reg [(qq pO (.bld [(.i .i64 0),(.i .i64 0),(.i .i64 0),(.i .i64 0),(.i .i64 0)] [])),(ez (.st 5 z2 uS)),(qq a3 (.mv (x6 4)))])
def Re:CC:=(.cond uR (.seq Rd .ret) .skip)
def Rf:CC:=(.reg [(qq rR (.ldn 5 z4)),(ez (.st 5 z2 xn)),(qq a3 (.mv (x6 0)))])
def Rg:CC:=(.seq (.seq R6 Rb) (.seq (.seq Rc Re) (.seq Rf .ret)))
def Rh:CC:=(.seq aK7 (.seq aK8 (.seq aL1 (.seq aL4 (.seq R5 Rg)))))
def c39:CF:= .mk 7 [.cn a2 5,.t a3] (.seq aK6 Rh)
theorem e39(v0:V):aN 7 [v0]=(.n nX (some v0) nX):=rfl
def B39:=ai @e39 (ai (wu aK6.eq_1) (ai (wu aK7.eq_1) (ai (wu aK8.eq_1) (ai (wu aK9.eq_1) (ai (wu aL0.eq_1) (ai (wu aL1.eq_1) (ai (wu aL2.eq_1) (ai (wu aL3.eq_1) (ai (wu aL4.eq_1) (ai (wu QZ.eq_1) (ai (wu R0.eq_1) (ai (wu R5.eq_1) (ai (wu R6.eq_1) (ai (wu R7.eq_1) (ai (wu R8.eq_1) (ai (wu R9.eq_1) (ai (wu Ra.eq_1) (ai (wu Rb.eq_1) (ai (wu Rc.eq_1) (ai (wu Rd.eq_1) (ai (wu Re.eq_1) (ai (wu Rf.eq_1) (ai (wu Rg.eq_1) (wu Rh.eq_1))))))))))))))))))))))))
def KE:List V→Option V
 |[.g [.i .i64 op,.i .i64 d,.i .i64 a,.i .i64 b,.i .i64 i]]=>some (.b (cJ op d a b i))
 |_=>none
theorem Ez(op d a b i:Int):KE [.g [.i .i64 op,.i .i64 d,.i .i64 a,.i .i64 b,.i .i64 i]]=some (.b (cJ op d a b i)):=rfl
def Xc:List V→Option V
 |[.g [.i .i64 op,.i .i64 d,.i .i64 a,.i .i64 b,.i .i64 i]]=>if cJ op d a b i=true then some (.i .u32 (ei op d a b i:Nat))else none
 |_=>none
theorem bB4{op d a b i:Int}(h:(!cJ op d a b i)=false):Xc [.g [.i .i64 op,.i .i64 d,.i .i64 a,.i .i64 b,.i .i64 i]]=some (.i .u32 (ei op d a b i:Nat)):=by
 show(if cJ op d a b i=true then some (V.i .u32 (ei op d a b i:Nat))else none)=_
 rw[ac (by simpa using h)]
def bR(w:Nat):Int:=if bI (aL (lu w))=true then((w/65536%256:Nat):Int)else 0
def Lh(w:Nat):V:=
 if cJ (lu w) (dW w) (aW w) (bR w) (iW w)=true∧ei (lu w) (dW w) (aW w) (bR w) (iW w)=w then .t [.g [.i .i64 (lu w),.i .i64 (dW w),.i .i64 (aW w),.i .i64 (bR w),.i .i64 (iW w)],.i .i64 0]
 else .t [.g [.i .i64 0,.i .i64 0,.i .i64 0,.i .i64 0,.i .i64 0],.i .i64 4]
theorem da3{op d a b i:Int}{w:Nat}(h:(!cJ op d a b i)=(!false)):¬(cJ op d a b i=true∧ei op d a b i=w):=by
 intro hh
 rw[hh.1]at h;cases h
theorem da4{op d a b i:Int}{w:Nat}(h:decide (((ei op d a b i:Nat):Int)≠(w:Int))=true):¬(cJ op d a b i=true∧ei op d a b i=w):=by
 have h':=b9 h
 intro hh
 exact h' (by rw[hh.2])
theorem rfY{op d a b i:Int}{w:Nat}(h:(!cJ op d a b i)=false)(h2:decide (((ei op d a b i:Nat):Int)≠(w:Int))=false):cJ op d a b i=true∧ei op d a b i=w:=by
 have h':=of_decide_eq_false h2
 exact⟨by simpa using h,by have:=Classical.not_not.1 h';omega⟩
theorem t39(Φ:Nat→Option CF)(h:Φ 39=some c39)(h41:Φ 41=some (.orc (ah h35)))(vP:Φ 40=some (.orc (ah vP)))(KE:Φ 70=some (.orc (ah KE)))(Xc:Φ 71=some (.orc (ah Xc)))(w:Nat)(hw:w<4294967296)(ct:Nat):
 To Φ 39 [.i .u32 (w:Int)] ct (Lh w):=by
 refine bX h ?_
 have q1:=qy w hw
 have q2:=ff (w%256) (by omega)
 have q3:=yU w
 have q4:=oQ (w/4096) (by omega)
 have q5:=ff (w/4096%16) (by omega)
 have q6:=wP w
 have q7:=oQ (w/256) (by omega)
 have q8:=ff (w/256%16) (by omega)
 have q9:=tg w
 have q10:=ff (w/65536) (by omega)
 have q11:=qy (w/65536) (by omega)
 have q12:=ff (w/65536%256) (by omega)
 have q13:IntKind.i64.wrap (((w/65536:Nat):Int)-65536)=((w/65536:Nat):Int)-65536:=eC (by omega) (by omega)
 unfold Lh dW aW bR iW
 have hop:lu w=((w%256:Nat):Int):=rfl
 rw[hop]
 generalize((w%256:Nat):Int)=op at *
 rcases nF op with hf|hf|hf|hf|hf|hf|hf
 all_goals
  simp only[WX,Int.reduceEq,Nat.reduceAdd,Nat.reduceLeDiff,B39,h41,nH,vP,Eu,hf,dI,aI,bI,iI,q1,q2,q3,q4,q5,q6,q7,q8,q9,q10,q11,q12,KE,Ez]
  repeat' first|(refine iJ (by simp only[WX];rfl) (fun h=>?_) (fun h=>?_)<;>simp only[WX,Nat.reduceAdd,Nat.reduceLeDiff,B39,h,KE,Ez,q13])|(refine xN (by simp only[WX];rfl) (fun h=>?_) (fun h=>?_)<;>simp only[WX,Nat.reduceAdd,Nat.reduceLeDiff,B39,h,KE,Ez,Xc,bB4])
 all_goals first
  |(have e:(if op=3∨op=6 then((w/65536:Nat):Int)else s16 w)=((w/65536:Nat):Int):=by(simp only[decide_eq_true_eq,decide_eq_false_iff_not,Bool.not_true,Bool.not_false,ne_eq,Classical.not_not]at *;unfold s16;(repeat' split)<;>omega)
    rw[e])
  |(have e:(if op=3∨op=6 then((w/65536:Nat):Int)else s16 w)=((w/65536:Nat):Int)-65536:=by(simp only[decide_eq_true_eq,decide_eq_false_iff_not,Bool.not_false,ne_eq,Classical.not_not]at *;unfold s16;(repeat' split)<;>omega)
    rw[e])
  |skip
 all_goals first
  |rw[ac (rfY (by assumption) (by assumption))]
  |rw[ab (da4 (by assumption))]
  |rw[ab (da3 (by assumption))]
theorem Jc(w:Nat)(hw:w<4294967296):Lh w=IL w:=by
 unfold Lh IL
 by_cases hb:bI (aL (lu w))=true
 ·have e1:bW w=((w/65536:Nat):Int):=ac hb;have e2:bR w=((w/65536%256:Nat):Int):=ac hb;by_cases h:w/65536<256
  ·have:bR w=bW w:=by rw[e1,e2,Nat.mod_eq_of_lt h]
   rw[this]
  ·have hf:aL (lu w)=5:=b9 hb;have hi:iW w=0:=ab (by rw[hf];decide);rw[ab,ab]
   ·rintro⟨hm,_⟩;have:=iS hm;rw[e1]at this;omega
   ·rintro⟨hm,hw2⟩;have hbd:=iS hm;unfold ei at hw2;rw[hi]at hw2;have:bR w<256:=by rw[e2];omega
    omega
 ·have e1:bW w=0:=ab hb;have e2:bR w=0:=ab hb;rw[e1,e2]
def okW(w:Nat):Bool:=decide (cJ (lu w) (dW w) (aW w) (bW w) (iW w)=true∧ei (lu w) (dW w) (aW w) (bW w) (iW w)=w)
def okI(w:Nat)(x:Int):Int:=if okW w=true then x else 0
def erW(w:Nat):Int:=if okW w=true then 0 else 4
theorem sQ(w:Nat):IL w= .t [.g [.i .i64 (okI w (lu w)),.i .i64 (okI w (dW w)),.i .i64 (okI w (aW w)),.i .i64 (okI w (bW w)),.i .i64 (okI w (iW w))],.i .i64 (erW w)]:=by
 unfold IL okI erW okW
 by_cases h:cJ (lu w) (dW w) (aW w) (bW w) (iW w)=true∧ei (lu w) (dW w) (aW w) (bW w) (iW w)=w
 ·rw[ac h];simp only[af h,if_true]
 ·rw[ab h];simp only[ag h,aZ,if_false]
def ax3:CC:=(.reg [(aa a2 (.al 51 [(.i .i64 0),(.i .i64 0),(.i .i64 0),(.i .i64 0),(.i .i64 0)])),(qq a3 (.mv (x6 0)))])
def ax4:CC:=(.reg [(qq a4 (.mv z0)),(qq a5 (.ln .slice z4)),(qq a6 (.bi .neq z5 (x6 4)))])
def ax5:CC:=(.reg [(qq a7 (.bld [(.i .i64 0),(.i .i64 0),(.i .i64 0),(.i .i64 0),(.i .i64 0)] [])),(ez (.st 5 z2 z7)),(qq a3 (.mv (x6 4)))])
def ax6:CC:=(.seq ax4 (.cond z6 (.seq ax5 .ret) .skip))
def ax7:CC:=(.dreg 27 [(0,0,(qq a8 (.mv z0))),(1,1,(qq a9 (.iaS 1 z8 (x6 0)))),(2,3,(qq cE (.ld1 z9))),(3,7,(qq cW (.ci .u32 cT))),(4,0,(qq dh (.mv z0))),(5,16,(qq d8 (.iaS 1 cH (x6 1)))),(6,48,(qq dK (.ld1 cI))),(7,112,(qq dL (.ci .u32 dM))),(8,240,(qq dJ (.bi .shl dA (.c (.i .u64 8))))),(9,511,(qq eD (.bi .or cM dX))),(10,0,(qq eZ (.mv z0))),(11,1024,(qq eN (.iaS 1 fh (x6 2)))),(12,3072,(qq fq (.ld1 fL))),(13,7168,(qq ej (.ci .u32 fO))),(14,15360,(qq eE (.bi .shl gD (.c (.i .u64 16))))),(15,32767,(qq eT (.bi .or eJ gw))),(16,0,(qq ga (.mv z0))),(17,65536,(qq fP (.iaS 1 ib (x6 3)))),(18,196608,(qq ft (.ld1 gV))),(19,458752,(qq ie (.ci .u32 gy))),(20,983040,(qq gz (.bi .shl iU (.c (.i .u64 24))))),(21,2097151,(qq fJ (.bi .or ia iK))),(22,4194303,(ee gR (.call 32 [j8]))),(23,8388607,(qq gW (.ex 0 iV))),(24,8388607,(qq ig (.ex 1 iV))),(25,33554431,(ez (.st 5 z2 iX))),(26,67108863,(qq a3 (.mv jR)))])
def c14:CF:= .mk 6 [.cn a2 5,.t a3] (.seq ax3 (.seq ax6 (.seq ax7 .ret)))
theorem e14(v0:V):aN 6 [v0]=(.n nW (some v0) nW):=rfl
def B14:=ai @e14 (ai (wu ax3.eq_1) (ai (wu ax4.eq_1) (ai (wu ax5.eq_1) (ai (wu ax6.eq_1) (wu ax7.eq_1)))))
def h32:List V→Option V
 |[.i .u32 (.ofNat w)]=>if w<4294967296 then some (IL w)else none
 |_=>none
theorem bA9(w:Nat)(h:w<4294967296):h32 [.i .u32 (w:Int)]=some (IL w):=ac h
def Iy:V:= .t [.g [.i .i64 0,.i .i64 0,.i .i64 0,.i .i64 0,.i .i64 0],.i .i64 4]
def az3:CC:=(.reg [(aa a2 (.al 51 [(.i .i64 0),(.i .i64 0),(.i .i64 0),(.i .i64 0),(.i .i64 0)])),(qq a3 (.mv (x6 0)))])
def az4:CC:=(.reg [(qq a4 (.mv z0)),(qq a5 (.ln .slice z4)),(qq a6 (.bi .neq z5 (x6 4)))])
def az5:CC:=(.reg [(qq a7 (.bld [(.i .i64 0),(.i .i64 0),(.i .i64 0),(.i .i64 0),(.i .i64 0)] [])),(ez (.st 5 z2 z7)),(qq a3 (.mv (x6 4)))])
def az6:CC:=(.seq az4 (.cond z6 (.seq az5 .ret) .skip))
def az7:CC:=(.dreg 27 [(0,0,(qq a8 (.mv z0))),(1,1,(qq a9 (.iaS 1 z8 (x6 0)))),(2,3,(qq cE (.ld1 z9))),(3,7,(qq cW (.ci .u32 cT))),(4,0,(qq dh (.mv z0))),(5,16,(qq d8 (.iaS 1 cH (x6 1)))),(6,48,(qq dK (.ld1 cI))),(7,112,(qq dL (.ci .u32 dM))),(8,240,(qq dJ (.bi .shl dA (.c (.i .u64 8))))),(9,511,(qq eD (.bi .add cM dX))),(10,0,(qq eZ (.mv z0))),(11,1024,(qq eN (.iaS 1 fh (x6 2)))),(12,3072,(qq fq (.ld1 fL))),(13,7168,(qq ej (.ci .u32 fO))),(14,15360,(qq eE (.bi .shl gD (.c (.i .u64 16))))),(15,32767,(qq eT (.bi .add eJ gw))),(16,0,(qq ga (.mv z0))),(17,65536,(qq fP (.iaS 1 ib (x6 3)))),(18,196608,(qq ft (.ld1 gV))),(19,458752,(qq ie (.ci .u32 gy))),(20,983040,(qq gz (.bi .shl iU (.c (.i .u64 24))))),(21,2097151,(qq fJ (.bi .add ia iK))),(22,4194303,(ee gR (.call 39 [j8]))),(23,8388607,(qq gW (.ex 0 iV))),(24,8388607,(qq ig (.ex 1 iV))),(25,33554431,(ez (.st 5 z2 iX))),(26,67108863,(qq a3 (.mv jR)))])
def c19:CF:= .mk 6 [.cn a2 5,.t a3] (.seq az3 (.seq az6 (.seq az7 .ret)))
theorem e19(v0:V):aN 6 [v0]=(.n nW (some v0) nW):=rfl
def B19:=ai @e19 (ai (wu az3.eq_1) (ai (wu az4.eq_1) (ai (wu az5.eq_1) (ai (wu az6.eq_1) (wu az7.eq_1)))))
def h39:List V→Option V
 |[.i .u32 (.ofNat w)]=>if w<4294967296 then some (Lh w)else none
 |_=>none
theorem bB0(w:Nat)(h:w<4294967296):h39 [.i .u32 (w:Int)]=some (Lh w):=ac h
def Jb:List UInt8→V
 |[a,b,c,d]=>IL (a.toNat+256*b.toNat+65536*c.toNat+16777216*d.toNat)
 |_=>Iy
theorem Ck{l:List UInt8}(h:l.length≠4):Jb l=Iy:=by
 match l with
 |[]=>rfl
 |[_]=>rfl
 |[_,_]=>rfl
 |[_,_,_]=>rfl
 |[_,_,_,_]=>exact absurd rfl h
 |_::_::_::_::_::_=>rfl
theorem bj6{l:List UInt8}(h:l.length=4):∃a b c d,l=[a,b,c,d]:=by
 match l with
 |[a,b,c,d]=>exact⟨a,b,c,d,rfl⟩
theorem r14(Φ:Nat→Option CF)(h:Φ 14=some c14)(h32:Φ 32=some (.orc (ah h32))){F:RO}{M:Mem}{c:Nat}{v:V}{l:List UInt8}(ok:dH F M c)(hs:nk F M c v l):
 Calls Φ F 14 [v] M c fun r M' c'=>r=Jb l∧Gr c M c' M':=by
 have hl:=hs.len
 refine aq h ?_
 by_cases h1004:l.length=4
 ·obtain⟨x0,x1,x2,x3,rfl⟩:=bj6 h1004;obtain⟨b0,o0,hb0,i0,r0⟩:=hs.get 0 (by simp);obtain⟨b1,o1,hb1,i1,r1⟩:=hs.get 1 (by simp);obtain⟨b2,o2,hb2,i2,r2⟩:=hs.get 2 (by simp);obtain⟨b1003,o1003,hb3,i3,r1003⟩:=hs.get 3 (by simp);have i0:bL 1 v (.i .i64 0)=some (.p b0 o0):=i0 _;have i1:bL 1 v (.i .i64 1)=some (.p b1 o1):=i1 _;have i2:bL 1 v (.i .i64 2)=some (.p b2 o2):=i2 _;have i3:bL 1 v (.i .i64 3)=some (.p b1003 o1003):=i3 _;have n0:b0≠c:=by omega
  have n1:b1≠c:=by omega
  have n2:b2≠c:=by omega
  have n3:b1003≠c:=by omega
  have hl:BW v=some (.i .i64 4):=hl;have r0:load1 F M b0 o0=some (.i .u8 (x0.toNat:Int)):=r0;have r1:load1 F M b1 o1=some (.i .u8 (x1.toNat:Int)):=r1;have r2:load1 F M b2 o2=some (.i .u8 (x2.toNat:Int)):=r2;have r1003:load1 F M b1003 o1003=some (.i .u8 (x3.toNat:Int)):=r1003;have k0:=UInt8.toNat_lt x0;have k1:=UInt8.toNat_lt x1;have k2:=UInt8.toNat_lt x2;have k3:=UInt8.toNat_lt x3;have hfree:=ok.free_set;show Wp _ _ _ (nB F _ fun r M' c'=>r=IL (x0.toNat+256*x1.toNat+65536*x2.toNat+16777216*x3.toNat)∧Gr c M c' M');generalize x0.toNat=c0 at *;generalize x1.toNat=c1 at *;generalize x2.toNat=c2 at *;generalize x3.toNat=c1003 at *;have e0:=bJ c0 (by omega);have e1:=bJ c1 (by omega);have e2:=bJ c2 (by omega);have e1003:=bJ c1003 (by omega);have s1:=rN c1 (by omega);have s2:=lE c2 (by omega);have s3:=tf c1003 (by omega);have n1':(c0|||256*c1)=c0+256*c1:=Ag c0 c1 k0;have n2':(c0+256*c1|||65536*c2)=c0+256*c1+65536*c2:=rp _ c2 (by omega);have n3':(c0+256*c1+65536*c2|||16777216*c1003)=c0+256*c1+65536*c2+16777216*c1003:=by
   rw[Nat.or_comm,←Nat.two_pow_add_eq_or_of_lt (show c0+256*c1+65536*c2<2^24 by omega) c1003];omega
  have p1:=qz c0 (256*c1) (by omega) (by omega);have p2:=qz (c0+256*c1) (65536*c2) (by omega) (by omega);have p3:=qz (c0+256*c1+65536*c2) (16777216*c1003) (by omega) (by omega);rw[n1']at p1;rw[n2']at p2;rw[n3']at p3;have hq:=bA9 (c0+256*c1+65536*c2+16777216*c1003) (by omega);rw[sQ]at hq;rw[sQ];clear n1' n2' n3';generalize c0+256*c1+65536*c2+16777216*c1003=a3 at *;generalize c0+256*c1+65536*c2=a2 at *;generalize c0+256*c1=a1 at *;clear h1004 hs;simp only[WX,Nat.reducePow,Nat.reduceDiv,Nat.reduceMod,Nat.reduceBEq,Nat.reduceAdd,Nat.reduceLeDiff,fg,B14,not_true_eq_false,hl,i0,i1,i2,i3,r0,r1,r2,r1003,e0,e1,e2,e1003,s1,s2,s3,p1,p2,p3,h32,hq,hfree,n0,n1,n2,n3,ne_eq,not_false_eq_true];exact(Gr.refl ok).set c _ (ak _) (by omega) (by omega)
 ·have hd:decide ((l.length:Int)≠4)=true:=af (by omega);rw[Ck h1004];simp only[WX,Nat.reduceAdd,Nat.reduceLeDiff,B14,hl,hd,Iy];exact(Gr.refl ok).set c _ (ak _) (by omega) (by omega)
theorem r19(Φ:Nat→Option CF)(h:Φ 19=some c19)(h39:Φ 39=some (.orc (ah h39))){F:RO}{M:Mem}{c:Nat}{v:V}{l:List UInt8}(ok:dH F M c)(hs:nk F M c v l):
 Calls Φ F 19 [v] M c fun r M' c'=>r=Jb l∧Gr c M c' M':=by
 have hl:=hs.len
 refine aq h ?_
 by_cases h1004:l.length=4
 ·obtain⟨x0,x1,x2,x3,rfl⟩:=bj6 h1004;obtain⟨b0,o0,hb0,i0,r0⟩:=hs.get 0 (by simp);obtain⟨b1,o1,hb1,i1,r1⟩:=hs.get 1 (by simp);obtain⟨b2,o2,hb2,i2,r2⟩:=hs.get 2 (by simp);obtain⟨b1003,o1003,hb3,i3,r1003⟩:=hs.get 3 (by simp);have i0:bL 1 v (.i .i64 0)=some (.p b0 o0):=i0 _;have i1:bL 1 v (.i .i64 1)=some (.p b1 o1):=i1 _;have i2:bL 1 v (.i .i64 2)=some (.p b2 o2):=i2 _;have i3:bL 1 v (.i .i64 3)=some (.p b1003 o1003):=i3 _;have n0:b0≠c:=by omega
  have n1:b1≠c:=by omega
  have n2:b2≠c:=by omega
  have n3:b1003≠c:=by omega
  have hl:BW v=some (.i .i64 4):=hl;have r0:load1 F M b0 o0=some (.i .u8 (x0.toNat:Int)):=r0;have r1:load1 F M b1 o1=some (.i .u8 (x1.toNat:Int)):=r1;have r2:load1 F M b2 o2=some (.i .u8 (x2.toNat:Int)):=r2;have r1003:load1 F M b1003 o1003=some (.i .u8 (x3.toNat:Int)):=r1003;have k0:=UInt8.toNat_lt x0;have k1:=UInt8.toNat_lt x1;have k2:=UInt8.toNat_lt x2;have k3:=UInt8.toNat_lt x3;have hfree:=ok.free_set;show Wp _ _ _ (nB F _ fun r M' c'=>r=IL (x0.toNat+256*x1.toNat+65536*x2.toNat+16777216*x3.toNat)∧Gr c M c' M');generalize x0.toNat=c0 at *;generalize x1.toNat=c1 at *;generalize x2.toNat=c2 at *;generalize x3.toNat=c1003 at *;have e0:=bJ c0 (by omega);have e1:=bJ c1 (by omega);have e2:=bJ c2 (by omega);have e1003:=bJ c1003 (by omega);have s1:=rN c1 (by omega);have s2:=lE c2 (by omega);have s3:=tf c1003 (by omega);have p1:=bc c0 (256*c1) (by omega);have p2:=bc (c0+256*c1) (65536*c2) (by omega);have p3:=bc (c0+256*c1+65536*c2) (16777216*c1003) (by omega);have hq:=bB0 (c0+256*c1+65536*c2+16777216*c1003) (by omega);rw[Jc _ (by omega),sQ]at hq;rw[sQ];generalize c0+256*c1+65536*c2+16777216*c1003=a3 at *;generalize c0+256*c1+65536*c2=a2 at *;generalize c0+256*c1=a1 at *;clear h1004 hs;simp only[WX,Nat.reducePow,Nat.reduceDiv,Nat.reduceMod,Nat.reduceBEq,Nat.reduceAdd,Nat.reduceLeDiff,fg,B19,not_true_eq_false,hl,i0,i1,i2,i3,r0,r1,r2,r1003,e0,e1,e2,e1003,s1,s2,s3,p1,p2,p3,h39,hq,hfree,n0,n1,n2,n3,ne_eq,not_false_eq_true];exact(Gr.refl ok).set c _ (ak _) (by omega) (by omega)
 ·have hd:decide ((l.length:Int)≠4)=true:=af (by omega);rw[Ck h1004];simp only[WX,Nat.reduceAdd,Nat.reduceLeDiff,B19,hl,hd,Iy];exact(Gr.refl ok).set c _ (ak _) (by omega) (by omega)
def aI1:CC:=(.reg [(qq a5 (.bi .eql z3 (x6 3))),(qq a4 (.mv z5))])
def aI2:CC:=(.reg [(qq a7 (.bi .eql z3 (x6 23))),(qq a6 (.mv z7))])
def aI3:CC:=(.reg [(qq a9 (.bi .eql z3 (x6 24))),(qq a8 (.mv z9))])
def aI4:CC:=(.reg [(qq cW (.bi .eql z3 (x6 5))),(qq cE (.mv cM))])
def aI5:CC:=(.reg [(qq dh (.bi .eql z3 (x6 6))),(qq cE (.mv cH))])
def aI6:CC:=(.reg [(qq d8 (.bi .eql z3 (x6 25))),(qq cE (.mv cI))])
def aI7:CC:=(.cond cT .skip (.seq aI5 (.cond cT .skip aI6)))
def aI8:CC:=(.seq (.seq aI4 aI7) (.cond cT (.exit 4) .skip))
def aI9:CC:=(.reg [(qq dL (.bi .eql z3 (x6 7))),(qq dK (.mv dA))])
def Qz:CC:=(.seq aI8 (.seq aI9 (.cond dM (.exit 5) .skip)))
def QA:CC:=(.seq (.seq aI3 (.cond z8 (.exit 3) .skip)) Qz)
def QB:CC:=(.seq (.seq aI2 (.cond z6 (.exit 2) .skip)) QA)
def QC:CC:=(.seq (.seq aI1 (.cond z4 (.exit 1) .skip)) QB)
def QD:CC:=(.seq (.reg [(qq a2 (.mv (x6 1)))]) .ret)
def QE:CC:=(.seq (.block 2 (.block 1 (.seq QC (.exit 0)))) (.seq QD (.exit 0)))
def QF:CC:=(.seq (.reg [(qq a2 (.mv (x6 2)))]) .ret)
def QG:CC:=(.seq (.reg [(qq a2 (.mv (x6 3)))]) .ret)
def QH:CC:=(.seq (.block 4 (.seq (.block 3 QE) (.seq QF (.exit 0)))) (.seq QG (.exit 0)))
def QI:CC:=(.seq (.reg [(qq a2 (.mv (x6 4)))]) .ret)
def QJ:CC:=(.seq (.reg [(qq a3 (.mv z0))]) (.block 0 (.seq (.block 5 QH) (.seq QI (.exit 0)))))
def QK:CC:=(.reg [(qq eD (.mv z0)),(qq eZ (.bi .geq eJ (x6 8))),(qq eN (.mv fh)),(aj fq (.mv z0) eN),(aj ej (.bi .leq fO (x6 17)) eN),(qq eE (.pk fL gD xF)),(qq dJ (.mv gw))])
def QL:CC:=(.seq (.reg [(qq a2 (.mv (x6 5)))]) .ret)
def QM:CC:=(.reg [(qq ga (.mv z0)),(qq fP (.bi .geq ib (x6 18))),(qq ft (.mv gV)),(aj ie (.mv z0) ft),(aj gz (.bi .leq iU (x6 22)) ft),(qq fJ (.pk gy iK xF)),(qq gR (.mv j8)),(bk gW (.mv z0) gR),(bk ig (.bi .geq iX (x6 26)) gR),(bk iE (.mv jR) gR),(aj fj (.mv z0) iE),(aj fQ (.bi .leq kQ (x6 28)) iE),(bk kc (.pk kC jY xF) gR),(qq kd (.pk iV xT lM)),(qq eT (.mv lN))])
def QN:CC:=(.seq (.reg [(qq a2 (.mv (x6 6)))]) .ret)
def QP:CC:=(.seq QM (.cond ia QN .skip))
def QQ:CC:=(.seq QK (.cond dX QL QP))
def QS:CC:=(.seq (.reg [(qq a2 (.mv (x6 0)))]) .ret)
def QT:CC:=(.seq (.reg [(qq a2 (.mv (x6 0)))]) (.seq QJ (.seq (.block 6 QQ) QS)))
def c35:CF:= .mk 6 [.t a2] QT
theorem e35(v0:V):aN 6 [v0]=(.n nW (some v0) nW):=rfl
def B35:=ai @e35 (ai (wu aI1.eq_1) (ai (wu aI2.eq_1) (ai (wu aI3.eq_1) (ai (wu aI4.eq_1) (ai (wu aI5.eq_1) (ai (wu aI6.eq_1) (ai (wu aI7.eq_1) (ai (wu aI8.eq_1) (ai (wu aI9.eq_1) (ai (wu Qz.eq_1) (ai (wu QA.eq_1) (ai (wu QB.eq_1) (ai (wu QC.eq_1) (ai (wu QD.eq_1) (ai (wu QE.eq_1) (ai (wu QF.eq_1) (ai (wu QG.eq_1) (ai (wu QH.eq_1) (ai (wu QI.eq_1) (ai (wu QJ.eq_1) (ai (wu QK.eq_1) (ai (wu QL.eq_1) (ai (wu QM.eq_1) (ai (wu QN.eq_1) (ai (wu QP.eq_1) (ai (wu QQ.eq_1) (ai (wu QS.eq_1) (wu QT.eq_1))))))))))))))))))))))))))))
def aN0:CC:=(.reg [(qq a5 (.bi .eql z3 (x6 3))),(qq a4 (.mv z5))])
def aN1:CC:=(.reg [(qq a6 (.bi .eql z3 (x6 23))),(qq a4 (.mv z6))])
def aN2:CC:=(.seq (.reg [(qq a2 (.mv (x6 1)))]) .ret)
def aN3:CC:=(.reg [(qq a8 (.bi .eql z3 (x6 24))),(qq a7 (.mv z8))])
def aN4:CC:=(.seq (.reg [(qq a2 (.mv (x6 2)))]) .ret)
def aN5:CC:=(.reg [(qq cE (.bi .eql z3 (x6 5))),(qq a9 (.mv cT))])
def aN6:CC:=(.reg [(qq cW (.bi .eql z3 (x6 6))),(qq a9 (.mv cM))])
def aN7:CC:=(.reg [(qq dh (.bi .eql z3 (x6 25))),(qq a9 (.mv cH))])
def aN8:CC:=(.cond z9 .skip (.seq aN6 (.cond z9 .skip aN7)))
def Rw:CC:=(.seq (.reg [(qq a2 (.mv (x6 3)))]) .ret)
def Rx:CC:=(.reg [(qq dK (.bi .eql z3 (x6 7))),(qq d8 (.mv dM))])
def Ry:CC:=(.seq (.reg [(qq a2 (.mv (x6 4)))]) .ret)
def Rz:CC:=(.reg [(qq dJ (.bi .eql z3 (x6 8))),(qq dL (.mv dX))])
def RA:CC:=(.reg [(qq eD (.bi .eql z3 (x6 9))),(qq dL (.mv eJ))])
def RB:CC:=(.reg [(qq eZ (.bi .eql z3 (x6 10))),(qq dL (.mv fh))])
def RD:CC:=(.reg [(qq eN (.bi .eql z3 (x6 11))),(qq dL (.mv fL))])
def RE:CC:=(.reg [(qq fq (.bi .eql z3 (x6 12))),(qq dL (.mv fO))])
def RF:CC:=(.reg [(qq ej (.bi .eql z3 (x6 13))),(qq dL (.mv gD))])
def RG:CC:=(.reg [(qq eE (.bi .eql z3 (x6 14))),(qq dL (.mv gw))])
def RH:CC:=(.reg [(qq eT (.bi .eql z3 (x6 15))),(qq dL (.mv ia))])
def RI:CC:=(.reg [(qq ga (.bi .eql z3 (x6 16))),(qq dL (.mv ib))])
def RJ:CC:=(.reg [(qq fP (.bi .eql z3 (x6 17))),(qq dL (.mv gV))])
def RK:CC:=(.seq RI (.cond dA .skip RJ))
def RL:CC:=(.seq RH (.cond dA .skip RK))
def RM:CC:=(.seq RG (.cond dA .skip RL))
def RN:CC:=(.seq RF (.cond dA .skip RM))
def RP:CC:=(.seq RE (.cond dA .skip RN))
def RQ:CC:=(.seq RD (.cond dA .skip RP))
def RR:CC:=(.seq RB (.cond dA .skip RQ))
def RS:CC:=(.seq RA (.cond dA .skip RR))
def RT:CC:=(.seq Rz (.cond dA .skip RS))
def RU:CC:=(.seq (.reg [(qq a2 (.mv (x6 5)))]) .ret)
def RW:CC:=(.reg [(qq ie (.bi .eql z3 (x6 18))),(qq ft (.mv iU))])
def RX:CC:=(.reg [(qq gz (.bi .eql z3 (x6 19))),(qq ft (.mv iK))])
def RY:CC:=(.reg [(qq fJ (.bi .eql z3 (x6 20))),(qq ft (.mv j8))])
def RZ:CC:=(.reg [(qq gR (.bi .eql z3 (x6 21))),(qq ft (.mv iV))])
def S0:CC:=(.reg [(qq gW (.bi .eql z3 (x6 22))),(qq ft (.mv iX))])
def S1:CC:=(.reg [(qq ig (.bi .eql z3 (x6 26))),(qq ft (.mv jR))])
def S2:CC:=(.reg [(qq iE (.bi .eql z3 (x6 27))),(qq ft (.mv kC))])
def S3:CC:=(.reg [(qq fj (.bi .eql z3 (x6 28))),(qq ft (.mv kQ))])
def S4:CC:=(.seq S2 (.cond gy .skip S3))
def S5:CC:=(.seq S1 (.cond gy .skip S4))
def S6:CC:=(.seq S0 (.cond gy .skip S5))
def S7:CC:=(.seq RZ (.cond gy .skip S6))
def S8:CC:=(.seq RY (.cond gy .skip S7))
def S9:CC:=(.seq RX (.cond gy .skip S8))
def Sa:CC:=(.seq RW (.cond gy .skip S9))
def Sb:CC:=(.seq (.reg [(qq a2 (.mv (x6 6)))]) .ret)
def Sc:CC:=(.seq Sa (.cond gy Sb .skip))
def Sd:CC:=(.seq RT (.cond dA RU Sc))
def Se:CC:=(.cond z9 Rw (.seq Rx (.cond cI Ry Sd)))
def Sf:CC:=(.cond z7 aN4 (.seq (.seq aN5 aN8) Se))
def Sg:CC:=(.seq (.seq aN0 (.cond z4 .skip aN1)) (.cond z4 aN2 (.seq aN3 Sf)))
def Si:CC:=(.seq (.reg [(qq a3 (.mv z0))]) (.block 0 Sg))
def Sj:CC:=(.seq (.reg [(qq a2 (.mv (x6 0)))]) .ret)
def Sk:CC:=(.seq (.reg [(qq a2 (.mv (x6 0)))]) (.seq Si Sj))
def c41:CF:= .mk 6 [.t a2] Sk
theorem e41(v0:V):aN 6 [v0]=(.n nW (some v0) nW):=rfl
def B41:=ai @e41 (ai (wu aN0.eq_1) (ai (wu aN1.eq_1) (ai (wu aN2.eq_1) (ai (wu aN3.eq_1) (ai (wu aN4.eq_1) (ai (wu aN5.eq_1) (ai (wu aN6.eq_1) (ai (wu aN7.eq_1) (ai (wu aN8.eq_1) (ai (wu Rw.eq_1) (ai (wu Rx.eq_1) (ai (wu Ry.eq_1) (ai (wu Rz.eq_1) (ai (wu RA.eq_1) (ai (wu RB.eq_1) (ai (wu RD.eq_1) (ai (wu RE.eq_1) (ai (wu RF.eq_1) (ai (wu RG.eq_1) (ai (wu RH.eq_1) (ai (wu RI.eq_1) (ai (wu RJ.eq_1) (ai (wu RK.eq_1) (ai (wu RL.eq_1) (ai (wu RM.eq_1) (ai (wu RN.eq_1) (ai (wu RP.eq_1) (ai (wu RQ.eq_1) (ai (wu RR.eq_1) (ai (wu RS.eq_1) (ai (wu RT.eq_1) (ai (wu RU.eq_1) (ai (wu RW.eq_1) (ai (wu RX.eq_1) (ai (wu RY.eq_1) (ai (wu RZ.eq_1) (ai (wu S0.eq_1) (ai (wu S1.eq_1) (ai (wu S2.eq_1) (ai (wu S3.eq_1) (ai (wu S4.eq_1) (ai (wu S5.eq_1) (ai (wu S6.eq_1) (ai (wu S7.eq_1) (ai (wu S8.eq_1) (ai (wu S9.eq_1) (ai (wu Sa.eq_1) (ai (wu Sb.eq_1) (ai (wu Sc.eq_1) (ai (wu Sd.eq_1) (ai (wu Se.eq_1) (ai (wu Sf.eq_1) (ai (wu Sg.eq_1) (ai (wu Si.eq_1) (ai (wu Sj.eq_1) (wu Sk.eq_1))))))))))))))))))))))))))))))))))))))))))))))))))))))))
theorem t35(Φ:Nat→Option CF)(h:Φ 35=some c35)(op:Int)(ct:Nat):To Φ 35 [.i .i64 op] ct (.i .i64 (aL op)):=by
 refine bX h ?_
 simp only[WX,B35]
 repeat' first|(refine iJ (by simp only[WX];rfl) (fun h=>?_) (fun h=>?_)<;>simp only[WX,Nat.reduceEqDiff,reduceCtorEq,B35,h])|(refine xN (by simp only[WX];rfl) (fun h=>?_) (fun h=>?_)<;>simp only[WX,B35,h])
 all_goals (simp only[decide_eq_true_eq,decide_eq_false_iff_not,Bool.not_true,Bool.not_false]at *;congr 1;unfold aL;repeat' split)
 all_goals first|rfl|omega
theorem t41(Φ:Nat→Option CF)(h:Φ 41=some c41)(op:Int)(ct:Nat):To Φ 41 [.i .i64 op] ct (.i .i64 (aL op)):=by
 refine bX h ?_
 simp only[WX,B41]
 repeat' first|(refine iJ (by simp only[WX];rfl) (fun h=>?_) (fun h=>?_)<;>simp only[WX,B41,h])|(refine xN (by simp only[WX,Nat.reducePow,Nat.reduceDiv,Nat.reduceMod,Nat.reduceBEq,Nat.reduceEqDiff,Int.reduceEq,Int.reduceLT,Int.reduceLE,reduceIte,reduceCtorEq,Nat.reduceAdd,Nat.reduceLeDiff,fg];rfl) (fun h=>?_) (fun h=>?_)<;>simp only[WX,Nat.reducePow,Nat.reduceDiv,Nat.reduceMod,Nat.reduceBEq,Nat.reduceEqDiff,Int.reduceEq,Int.reduceLT,Int.reduceLE,reduceIte,reduceCtorEq,Nat.reduceAdd,Nat.reduceLeDiff,fg,B41,h])
 all_goals (simp only[decide_eq_true_eq,decide_eq_false_iff_not]at *;congr 1;unfold aL;repeat' split)
 all_goals first|rfl|omega
theorem wb:fK (fun _=>False) fA:=by unfold fA;simp[fK,bd]
theorem XH(op:Int):bd (fun _=>False) (mO op):=by
 unfold mO
 split
 ·cases hn:fA[op.toNat]? with
  |none=>trivial
  |some x=>exact(kh _ _).1 wb x (List.mem_of_getElem? hn)
 ·trivial
theorem dc1(Φ:Nat→Option CF)(h:Φ 62=some c62)(uc:Φ 33=some (.orc (ah uc)))(op d a b i:Int)(ct:Nat):
 To Φ 62 [.g [.i .i64 op,.i .i64 d,.i .i64 a,.i .i64 b,.i .i64 i]] ct (.t [.i .u32 (w62 op d a b i),.i .i64 (vD op d a b i)]):=by
 have:=t62 Φ h uc op d a b i ct
 unfold w62 vD
 by_cases hm:cJ op d a b i=true
 ·simp only[hm,if_true]at this⊢;exact this
 ·simp only[hm]at this⊢;exact this
section
variable{P:Program}(hm:P.follows .mixedOrders=true){Φ:Nat→Option CF}(hΦ:eO P Φ)
include hm hΦ
theorem o35(h:Φ 35=some c35):b7 P 35 (ah h35):=bO hm hΦ (by
 intro args v ct hv hct;unfold h35 at hv;split at hv
 ·obtain rfl:=ae hv;exact⟨trivial,t35 Φ h _ _⟩
 ·cases hv)
theorem o41(h:Φ 41=some c41):b7 P 41 (ah h35):=bO hm hΦ (by
 intro args v ct hv hct;unfold h35 at hv;split at hv
 ·obtain rfl:=ae hv;exact⟨trivial,t41 Φ h _ _⟩
 ·cases hv)
theorem o34(h:Φ 34=some c34):b7 P 34 (ah h34):=bO hm hΦ (by
 intro args v ct hv hct;unfold h34 at hv;split at hv
 ·obtain rfl:=ae hv;exact⟨⟨trivial,trivial,trivial,trivial,trivial⟩,t34 Φ h _ _⟩
 ·cases hv)
theorem o40(h:Φ 40=some c40):b7 P 40 (ah vP):=bO hm hΦ (by
 intro args v ct hv hct;unfold vP at hv;split at hv
 ·obtain rfl:=ae hv;exact⟨⟨trivial,trivial,trivial,trivial,trivial⟩,t40 Φ h _ _⟩
 ·cases hv)
theorem o63(h:Φ 63=some c63):b7 P 63 (ah Mg):=bO hm hΦ (by
 intro args v ct hv hct;unfold Mg at hv;split at hv
 ·obtain rfl:=ae hv;exact⟨trivial,t63 Φ h _ _⟩
 ·cases hv)
theorem o61(h:Φ 61=some c61):b7 P 61 (ah BK):=bO hm hΦ (by
 intro args v ct hv hct;unfold BK at hv;split at hv
 ·obtain rfl:=ae hv;exact⟨trivial,t61 Φ h _ _⟩
 ·cases hv)
theorem cY3(h:Φ 105=some ab5):b7 P 105 (ah vL):=bO hm hΦ (by
 intro args v ct hv hct;unfold vL at hv;split at hv
 ·obtain rfl:=ae hv;exact⟨trivial,db1 Φ h _ _ _⟩
 ·cases hv)
theorem o64(h:Φ 64=some c64):b7 P 64 (ah h64):=bO hm hΦ (by
 intro args v ct hv hct;unfold h64 at hv;split at hv
 ·obtain rfl:=ae hv;exact⟨wb,t64 Φ h _⟩
 ·cases hv)
theorem o36(h:Φ 36=some c36)(h64:Φ 64=some (.orc (ah h64))):b7 P 36 (ah BJ):=bO hm hΦ (by
 intro args v ct hv hct;unfold BJ at hv;split at hv
 ·obtain rfl:=ae hv;exact⟨XH _,t36 Φ h h64 _ _⟩
 ·cases hv)
theorem o70(h:Φ 70=some c70)(h41:Φ 41=some (.orc (ah h35)))(vP:Φ 40=some (.orc (ah vP)))(vL:Φ 105=some (.orc (ah vL))):b7 P 70 (ah KE):=bO hm hΦ (by
 intro args v ct hv hct;unfold KE at hv;split at hv
 ·obtain rfl:=ae hv;exact⟨trivial,t70 Φ h h41 vP vL _ _ _ _ _ _⟩
 ·cases hv)
theorem o33(h:Φ 33=some c33)(h35:Φ 35=some (.orc (ah h35)))(h34:Φ 34=some (.orc (ah h34)))(BK:Φ 61=some (.orc (ah BK)))(Mg:Φ 63=some (.orc (ah Mg)))(BJ:Φ 36=some (.orc (ah BJ))):b7 P 33 (ah uc):=bO hm hΦ (by
 intro args v ct hv hct;unfold uc at hv;split at hv
 ·obtain rfl:=ae hv;exact⟨trivial,t33 Φ h h35 h34 BK Mg BJ _ _ _ _ _ _⟩
 ·cases hv)
theorem o62(h:Φ 62=some c62)(uc:Φ 33=some (.orc (ah uc))):b7 P 62 (ah h62):=bO hm hΦ (by
 intro args v ct hv hct;unfold h62 at hv;split at hv
 ·obtain rfl:=ae hv;exact⟨⟨trivial,trivial,trivial⟩,dc1 Φ h uc _ _ _ _ _ _⟩
 ·cases hv)
theorem o71(h:Φ 71=some c71)(h41:Φ 41=some (.orc (ah h35))):b7 P 71 (ah Xc):=bO hm hΦ (by
 intro args v ct hv hct;unfold Xc at hv;split at hv
 ·split at hv
  ·obtain rfl:=ae hv;exact⟨trivial,t71 Φ h h41 _ _ _ _ _ (by assumption) _⟩
  ·cases hv
 ·cases hv)
theorem o32(h:Φ 32=some c32)(h35:Φ 35=some (.orc (ah h35)))(h34:Φ 34=some (.orc (ah h34)))(BK:Φ 61=some (.orc (ah BK)))(h62:Φ 62=some (.orc (ah h62))):b7 P 32 (ah h32):=bO hm hΦ (by
 intro args v ct hv hct;unfold h32 at hv;split at hv
 ·split at hv
  ·obtain rfl:=ae hv;refine⟨?_,t32 Φ h h35 h34 BK h62 _ (by assumption) _⟩;rw[sQ];exact⟨⟨trivial,trivial,trivial,trivial,trivial,trivial⟩,trivial,trivial⟩
  ·cases hv
 ·cases hv)
theorem o39(h:Φ 39=some c39)(h41:Φ 41=some (.orc (ah h35)))(vP:Φ 40=some (.orc (ah vP)))(KE:Φ 70=some (.orc (ah KE)))(Xc:Φ 71=some (.orc (ah Xc))):b7 P 39 (ah h39):=bO hm hΦ (by
 intro args v ct hv hct;unfold h39 at hv;split at hv
 ·split at hv
  ·obtain rfl:=ae hv;refine⟨?_,t39 Φ h h41 vP KE Xc _ (by assumption) _⟩;rw[Jc _ (by assumption),sQ];exact⟨⟨trivial,trivial,trivial,trivial,trivial,trivial⟩,trivial,trivial⟩
  ·cases hv
 ·cases hv)
end
def cd1:CC:=(.reg [(aa a2 (.bx 51 5 z0)),(qq a4 (.mv (.c (.i .u32 0)))),(qq a5 (.mv xF))])
def cd2:CC:=(.reg [(qq a6 (.fa 0 z2)),(qq a7 (.ld1 z6))])
def cd3:CC:=(.reg [(qq a9 (.bi .eql z7 (x6 23))),(qq a8 (.mv z9))])
def cd4:CC:=(.reg [(qq cE (.bi .eql z7 (x6 25))),(qq a8 (.mv cT))])
def cd5:CC:=(.reg [(qq cW (.bi .eql z7 (x6 26))),(qq a8 (.mv cM))])
def cd6:CC:=(.reg [(qq dh (.bi .eql z7 (x6 27))),(qq a8 (.mv cH))])
def cd7:CC:=(.reg [(qq d8 (.bi .eql z7 (x6 28))),(qq a8 (.mv cI))])
def cd8:CC:=(.cond z8 .skip (.seq cd6 (.cond z8 .skip cd7)))
def cd9:CC:=(.seq cd4 (.cond z8 .skip (.seq cd5 cd8)))
def bt4:CC:=(.reg [(qq dK (.ldn 5 z2)),(ee dL (.call 33 [dM]))])
def bt5:CC:=(.reg [(qq dJ (.mv z1)),(qq eD (.fa 4 z2)),(qq eZ (.ld1 eJ)),(qq eN (.ci .u32 fh)),(qq fq (.bi .shl fL (.c (.i .u64 2)))),(qq ej (.bi .add dX fO)),(qq a4 (.mv gD)),(qq a5 (.mv xT))])
def bt6:CC:=(.cond dA (.seq bt5 .ret) .skip)
def bt7:CC:=(.seq (.seq cd3 (.cond z8 .skip cd9)) (.cond z8 (.seq bt4 bt6) .skip))
def bt8:CC:=(.reg [(qq a4 (.mv (.c (.i .u32 0)))),(qq a5 (.mv xF))])
def bt9:CC:=(.seq cd1 (.seq (.seq cd2 (.block 0 bt7)) (.seq bt8 .ret)))
def c50:CF:= .mk 5 [.t a4,.t a5] bt9
abbrev bG8(u:List (Option V))(x0 x4 x5:V):T:=(.n (.n (aO u 15 7 23 3 19 11 27) (uO u 1) (.n (j7 u 17 9 25) (some x5) (j7 u 21 13 29))) (some x0) (.n (.n (j7 u 16 8 24) (some x4) (j7 u 20 12 28)) (uO u 2) (aO u 18 10 26 6 22 14 30)))
def aN9:CC:=(.reg [(aa a1 (.bsl 9 29 1 [(.s 0 0)] [(0,(.c (.s 0 0))),(1,(.c (.s 3 7368558))),(2,(.c (.s 4 1886352499))),(3,(.c (.s 4 1819042147))),(4,(.c (.s 4 1801675106))),(5,(.c (.s 5 500152823651))),(6,(.c (.s 4 1751607656))),(7,(.c (.s 4 2037411683))),(8,(.c (.s 3 6579297))),(9,(.c (.s 3 6452595))),(10,(.c (.s 3 7107949))),(11,(.c (.s 3 7760228))),(12,(.c (.s 3 6582125))),(13,(.c (.s 3 6581857))),(14,(.c (.s 2 29295))),(15,(.c (.s 3 7499640))),(16,(.c (.s 3 7104627))),(17,(.c (.s 3 7497843))),(18,(.c (.s 4 1768186977))),(19,(.c (.s 4 1684107116))),(20,(.c (.s 5 435711603827))),(21,(.c (.s 5 422590902124))),(22,(.c (.s 6 108187851125875))),(23,(.c (.s 4 1886221674))),(24,(.c (.s 5 491512493418))),(25,(.c (.s 4 1802398060))),(26,(.c (.s 3 7431522))),(27,(.c (.s 3 6647394))),(28,(.c (.s 3 7629922)))])),(qq a0 (.mv z1))])
def aO0:CC:=(.seq (.reg [(qq a0 (.mv (.c .l0)))]) (.seq aN9 .ret))
def c42:CF:= .mk 2 [.t a0] aO0
theorem e42:aN 2 []=jq:=rfl
def B42:=ai @e42 (ai (wu aN9.eq_1) (wu aO0.eq_1))
def MY:CC:=(.seq (.reg [(qq a0 (.mv (.c (.f 124 [] []))))]) .ret)
def ab7:CF:= .mk 1 [.t a0] (.seq (.reg [(qq a0 (.mv (.c .f0)))]) MY)
theorem cV4:aN 1 []=sk1:=rfl
def cS4:=ai @cV4 (wu MY.eq_1)
def Nr:CC:=(.reg [(ee a4 (.call 64 [])),(qq a5 (.mv (x6 0)))])
def Ns:CC:=(.reg [(qq a6 (.bi .lss z5 (x6 29)))])
def Nt:CC:=(.reg [(qq a7 (.mv z5)),(qq a8 (.ixA1 29 1 z4 z5)),(qq a2 (.mv z7)),(qq a3 (.mv z8))])
def Nu:CC:=(.reg [(qq a9 (.mv z2)),(qq cE (.bi .gtr z9 (x6 0))),(qq cW (.mv cT)),(aj dh (.mv z0) cW),(aj d8 (.mv z2) cW),(aj dK (.mv z3) cW),(dZ dL (.cv cH [cI,dM]) cW),(aj dJ (.un .not dA) cW),(qq eD (.pk cM dX xF))])
def Nv:CC:=(.seq Nu (.cond eJ .ret .skip))
def Nw:CC:=(.reg [(qq eZ (.bi .add z5 (x6 1))),(qq a5 (.mv fh))])
def Nx:CC:=(.seq (.cond z6 .skip (.exit 0)) (.seq (.block 1 (.seq Nt Nv)) Nw))
def Bl:CF:= .mk 5 [] (.seq Nr (.block 0 (.loop (.seq Ns Nx))))
theorem cV9(v0:V):aN 5 [v0]=(.n kV (some v0) kV):=rfl
def Mo:=ai @cV9 (ai (wu Nr.eq_1) (ai (wu Ns.eq_1) (ai (wu Nt.eq_1) (ai (wu Nu.eq_1) (ai (wu Nv.eq_1) (ai (wu Nw.eq_1) (wu Nx.eq_1)))))))
def dx:List (List UInt8):=[[],[110,111,112],[115,116,111,112],[99,97,108,108],[98,97,99,107],[99,111,110,115,116],[104,105,103,104],[99,111,112,121],[97,100,100],[115,117,98],[109,117,108],[100,105,118],[109,111,100],[97,110,100],[111,114],[120,111,114],[115,104,108],[115,104,114],[97,100,100,105],[108,111,97,100],[115,116,111,114,101],[108,111,97,100,98],[115,116,111,114,101,98],[106,117,109,112],[106,117,109,112,114],[108,105,110,107],[98,101,113],[98,110,101],[98,108,116]]
theorem XK:fA=dx.map sV:=rfl
theorem iz:dx.length=29:=rfl
theorem yA{k:Nat}(h:k<29):fA[k]?=some (sV (dx[k]'h)):=by
 rw[XK,List.getElem?_map,List.getElem?_eq_getElem (show k<dx.length from h)];rfl
theorem db3(Φ:Nat→Option CF)(h:Φ 107=some ab7)(ct:Nat):To Φ 107 [] ct (.f 124 [] []):=by
 refine bX h ?_
 simp only[WX,cS4]
def h107:List V→Option V
 |[]=>some (.f 124 [] [])
 |_=>none
theorem ag9:h107 []=some (.f 124 [] []):=rfl
theorem d89(Φ:Nat→Option CF)(h:Φ 124=some Bl)(h64:Φ 64=some (.orc (ah h64))){F:RO}{M:Mem}{c y:Nat}{I:Nat→Mem→Nat→Prop}{J:Mem→Nat→Prop}(h0:I 1 M c)
 (hY:∀k M c,(hk:k<29)→1≤k→I k M c→xe (la (K Φ none 124 F) (.y y) [.i .i64 (k:Int),sV (dx[k]'hk)] M c) fun r M' c'=>(r= .b true∧I (k+1) M' c')∨(r= .b false∧J M' c')):
 Calls Φ F 124 [.y y] M c fun _ M' c'=>I 29 M' c'∨J M' c':=by
 refine aq h ?_
 simp only[WX,Mo,h64,X9]
 obtain⟨Iv,hIv⟩:∃Iv:Nat→St→Prop,∀n s,Iv n s↔(∃(k:Nat) (M1:Mem) (c1:Nat) (u:List (Option V)),n=29-k∧k≤29∧s= .mk ((bG8 u (.y y) (.g fA) (.i .i64 (k:Int)))) [] M1 c1∧I (max k 1) M1 c1):=⟨fun n s=>_,fun _ _=>Iff.rfl⟩
 refine de Iv ?_ 29 _ ((hIv _ _).2 ⟨0,_,_,(G1 (X2 (X1 (G2 (eG (X8 (X1 []))))))),rfl,aP _,rfl,h0⟩)
 intro n s hIs
 obtain⟨k,M1,c1,u,rfl,hk,rfl,hi⟩:=(hIv _ _).1 hIs
 clear hIs
 have q8:aK .add (.i .i64 (k:Int)) (.i .i64 1)=some (.i .i64 ((k+1:Nat):Int)):=by rw[bH _ _ (by omega) (by omega)];simp
 by_cases hlt:k<29
 ·have hd:decide ((k:Int)<29)=true:=af (by omega);have hix:Xn 29 1 (.g fA) (.i .i64 (k:Int))=some (sV (dx[k]'hlt)):=by
   rw[Xo,ac (by omega)];exact yA hlt
  by_cases h1:1≤k
  ·have hd1:decide (0<(k:Int))=true:=af (by omega);rw[show max k 1=k by omega]at hi;simp only[WX,Mo,hd,hix,hd1];refine aC ((hY k M1 c1 hlt h1 hi).mono ?_);rintro r M3 c1003 (⟨rfl,hi3⟩|⟨rfl,hj⟩)
   ·simp only[WX,Mo,q8];exact⟨29-(k+1),by omega,(hIv _ _).2 ⟨k+1,M3,c1003,(G1 (X2 (X1 (G2 (eG (X8 (X1 []))))))),rfl,by omega,rfl,by rw[show max (k+1) 1=k+1 by omega];exact hi3⟩⟩
   ·simp only[WX];exact .inr hj
  ·obtain rfl:k=0:=by omega
   have hd1:decide (0<((0:Nat):Int))=false:=rfl;simp only[WX,Mo,hd,hix,q8,hd1];exact⟨28,by omega,(hIv _ _).2 ⟨1,M1,c1,(G1 (X2 (X1 (G2 (eG (X8 (X1 []))))))),rfl,by omega,rfl,hi⟩⟩
 ·have hd:decide ((k:Int)<29)=false:=ag (by omega);obtain rfl:k=29:=by omega
  simp only[WX,Mo,hd];exact .inl hi
def b57:CC:=(.reg [(aa a1 (.bx 9 1 z0)),(aa a2 (.al 49 [(.i .i64 0)])),(aa a3 (.al 4 [(.b false)]))])
def VN:CC:=(.reg [(qq a4 (.mv z7))])
def VP:CC:=(.reg [(qq a5 (.mv z8))])
def b58:CC:=(.reg [(qq a9 (.mv z5)),(qq cE (.ld1 z1)),(qq cW (.bi .eql z9 cT))])
def b59:CC:=(.reg [(qq dh (.mv z4)),(ez (.st 1 z2 cH)),(ez (.st 1 z3 xT))])
def VQ:CC:=(.seq b58 (.cond cM (.seq b59 .ret) .skip))
def b60:CC:=(.rf z6 [a7,a8] (.seq VN VP) (.block 1 VQ))
def b61:CC:=(.seq (.reg [(ee a6 (.call 107 []))]) (.block 0 b60))
def b63:CC:=(.reg [(ez (.st 1 z2 (x6 0))),(ez (.st 1 z3 xF))])
def c74:CF:= .mk 4 [.c1 a2,.c1 a3] (.seq b57 (.seq b61 (.seq b63 .ret)))
theorem e74(v0:V):aN 4 [v0]=(.n eX (some v0) eX):=rfl
def B74:=ai @e74 (ai (wu b57.eq_1) (ai (wu VN.eq_1) (ai (wu VP.eq_1) (ai (wu b58.eq_1) (ai (wu b59.eq_1) (ai (wu VQ.eq_1) (ai (wu b60.eq_1) (ai (wu b61.eq_1) (wu b63.eq_1)))))))))
def Mb(s:List UInt8)(k:Nat):Prop:=1≤k∧dx[k]?=some s
theorem BN{s:List UInt8}{j k:Nat}(h:Mb s j)(h':Mb s k):j=k:=by
 obtain⟨_,h1⟩:=h
 obtain⟨_,h2⟩:=h'
 obtain⟨a1,e1⟩:=List.getElem?_eq_some_iff.1 h1
 obtain⟨a2,e2⟩:=List.getElem?_eq_some_iff.1 h2
 have key:∀a b,a<29→b<29→dx[a]?=dx[b]?→a=b:=by
  have:∀a,a<29→ ∀b,b<29→dx[a]?=dx[b]?→a=b:=by decide+kernel
  exact fun a b ha hb=>this a ha b hb
 exact key j k a1 a2 (h1.trans h2.symm)
def Mu(s:List UInt8)(n:Int)(b:Bool):Prop:=(∃k,Mb s k∧n=(k:Int)∧b=true)∨((∀k,¬Mb s k)∧n=0∧b=false)
theorem r74(Φ:Nat→Option CF)(h:Φ 74=some c74)(h107:Φ 107=some (.orc (ah h107)))(h64:Φ 64=some (.orc (ah h64)))(h124:Φ 124=some Bl){F:RO}{M:Mem}{c:Nat}(s:List UInt8)(ok:dH F M c):
 Calls Φ F 74 [sV s] M c fun r M' c'=>(∃n b,r= .t [.i .i64 n,.b b]∧Mu s n b)∧Gr c M c' M':=by
 refine aq h ?_
 have f1:flatten (sV s)=[sV s]:=rfl
 have f2:cU (sV s)=true:=rfl
 simp only[WX,Nat.reduceAdd,B74,f1,f2,h107,ag9]
 refine Zr ?_
 simp only[WX,Nat.reduceAdd,HZ]
 obtain⟨BL,hBL⟩:∃BL:LS→nj→bw,BL=fun st p=>bw.loop st p 74 ((.n (.n (.n sk1 (some (.p (c+2) 0)) sk1) (some (.p c 0)) jq) (some (sV s)) (.n jq (some (.p (c+1) 0)) (.n sk1 (some (.f 124 [] [])) sk1)))) [(.l (.l (.l .h))),(.r (.l (.l .h)))] (VN.seq VP) (.block 1 VQ) (c+3):=⟨_,rfl⟩
 obtain⟨Ik,hIk⟩:∃I:Nat→Mem→Nat→Prop,∀k M' cc,I k M' cc↔(Gr c M cc M'∧c+5≤cc∧M'.get c=some (aw 9 [sV s])∧M'.get (c+1)=some (aw 49 [.i .i64 0])∧M'.get (c+2)=some (aw 4 [.b false])∧M'.get (c+3)=some (.defs false)∧M'.get (c+4)=some (BL .ready .none)∧ ∀j,j<k→ ¬Mb s j):=⟨fun k M' cc=>_,fun _ _ _=>Iff.rfl⟩
 obtain⟨J,hJ⟩:∃J:Mem→Nat→Prop,∀M' cc,J M' cc↔(∃k,Mb s k∧Gr c M cc M'∧c+5≤cc∧M'.get (c+1)=some (aw 49 [.i .i64 (k:Int)])∧M'.get (c+2)=some (aw 4 [.b true])∧M'.get (c+3)=some (.defs false)∧M'.get (c+4)=some (BL .done .ret)):=⟨fun M' cc=>_,fun _ _=>Iff.rfl⟩
 refine(d89 Φ h124 h64 (y:=c+4) (I:=Ik) (J:=J) ?_ ?_).mono ?_
 ·refine(hIk _ _ _).2 ⟨(((((Gr.refl ok).set (c2:=c+1) c _ (ak _) (by omega) (by omega)).set (c2:=c+2) (c+1) _ (by omega) (by omega) (by omega)).set (c2:=c+3) (c+2) _ (by omega) (by omega) (by omega)).set (c2:=c+4) (c+3) _ (by omega) (by omega) (by omega)).set (c+4) _ (by omega) (by omega) (by omega),by omega,?_,?_,?_,?_,?_,fun j hj hn=>by have:=hn.1;omega⟩
  ·rw[am _ _ (by omega),am _ _ (by omega),am _ _ (by omega),am _ _ (by omega)];exact av _ _ _
  ·rw[am _ _ (by omega),am _ _ (by omega),am _ _ (by omega)];exact av _ _ _
  ·rw[am _ _ (by omega),am _ _ (by omega)];exact av _ _ _
  ·rw[am _ _ (by omega)];exact av _ _ _
  ·rw[hBL];exact av _ _ _
 ·intro k M2 cc hk hk1 hi;obtain⟨a1,a2,a3,a4,a5,a6,a7,a8⟩:=(hIk _ _ _).1 hi;have hl5:=a7;rw[hBL]at hl5;refine CK hl5 (pC _ _ _ _ _) ?_;simp only[WX,B74];refine Gj hl5 ?_;rw[show bw.loop LS.busy _ _ _ _ _ _ _=BL .busy .none by rw[hBL]];have gMB:=a1.set (c2:=cc) (c+4) (BL .busy .none) (by omega) (by omega) (ak _);have m3:(M2.set (c+4) (BL .busy .none)).get c=some (aw 9 [sV s]):=(am _ _ (by omega)).trans a3;have m4:(M2.set (c+4) (BL .busy .none)).get (c+1)=some (aw 49 [.i .i64 0]):=(am _ _ (by omega)).trans a4;have m5:(M2.set (c+4) (BL .busy .none)).get (c+2)=some (aw 4 [.b false]):=(am _ _ (by omega)).trans a5;have m6:(M2.set (c+4) (BL .busy .none)).get (c+3)=some (.defs false):=(am _ _ (by omega)).trans a6;have m7:(M2.set (c+4) (BL .busy .none)).get (c+4)=some (BL .busy .none):=av _ _ _;generalize M2.set (c+4) (BL .busy .none)=MB at gMB m3 m4 m5 m6 m7⊢;have l1003:load1 F MB c 0=some (sV s):=aX m3 0;by_cases he:dx[k]'hk=s
  ·have d1:decide (dx[k]'hk=s)=true:=af he;have hs1:=bG m4 0 [.i .i64 (k:Int)] (by simp) rfl;have m5':(MB.set (c+1) (aw 49 [.i .i64 (k:Int)])).get (c+2)=some (aw 4 [.b false]):=(am _ _ (by omega)).trans m5;have hs2:=bG m5' 0 [.b true] (by simp) rfl;simp only[WX,B74,l1003,d1,hs1,hs2];have hly:((MB.set (c+1) (aw 49 [V.i .i64 (k:Int)])).set (c+2) (aw 4 [V.b true])).get (c+4)=some (BL .busy .none):=by rw[am _ _ (by omega),am _ _ (by omega)];exact m7
   rw[hBL]at hly;refine bX5 hly ?_;refine Or.inr ⟨rfl,(hJ _ _).2 ⟨k,⟨hk1,?_⟩,((gMB.set (c+1) _ (by omega) (by omega) (ak _)).set (c+2) _ (by omega) (by omega) (ak _)).set (c+4) _ (by omega) (by omega) (ak _),a2,?_,?_,?_,?_⟩⟩
   ·exact(List.getElem?_eq_getElem (show k<dx.length from hk)).trans (congrArg some he)
   ·rw[am _ _ (by omega),am _ _ (by omega)];exact av _ _ _
   ·rw[am _ _ (by omega)];exact av _ _ _
   ·rw[am _ _ (by omega),am _ _ (by omega),am _ _ (by omega)];exact m6
   ·rw[hBL];exact av _ _ _
  ·have d1:decide (dx[k]'hk=s)=false:=ag he;simp only[WX,B74,l1003,d1];have hly:=m7;rw[hBL]at hly;refine Zz hly ?_;refine Or.inl ⟨rfl,(hIk _ _ _).2 ⟨gMB.set (c+4) _ (by omega) (by omega) (ak _),a2,?_,?_,?_,?_,?_,fun j hj hn=>?_⟩⟩
   ·rw[am _ _ (by omega)];exact m3
   ·rw[am _ _ (by omega)];exact m4
   ·rw[am _ _ (by omega)];exact m5
   ·rw[am _ _ (by omega)];exact m6
   ·rw[hBL];exact av _ _ _
   ·by_cases hjk:j=k
    ·subst hjk;have:=hn.2;rw[List.getElem?_eq_getElem (show j<dx.length from hk)]at this;exact he (ae this)
    ·exact a8 j (by omega) hn
 ·rintro v' M2 cc (hi|hj)
  ·obtain⟨a1,a2,a3,a4,a5,a6,a7,a8⟩:=(hIk _ _ _).1 hi;have hl5:=a7;rw[hBL]at hl5;refine⟨_,_,_,_,_,_,_,_,hl5,(by intro h;cases h),?_⟩;rw[show bw.loop LS.exhausted _ _ _ _ _ _ _=BL .exhausted .none by rw[hBL]];have gMB:=a1.set (c2:=cc) (c+4) (BL .exhausted .none) (by omega) (by omega) (ak _);have m4:(M2.set (c+4) (BL .exhausted .none)).get (c+1)=some (aw 49 [.i .i64 0]):=(am _ _ (by omega)).trans a4;have m5:(M2.set (c+4) (BL .exhausted .none)).get (c+2)=some (aw 4 [.b false]):=(am _ _ (by omega)).trans a5;have m6:(M2.set (c+4) (BL .exhausted .none)).get (c+3)=some (.defs false):=(am _ _ (by omega)).trans a6;generalize M2.set (c+4) (BL .exhausted .none)=MB at gMB m4 m5 m6⊢;have hs1:=bG m4 0 [.i .i64 0] (by simp) rfl;have m5':(MB.set (c+1) (aw 49 [.i .i64 0])).get (c+2)=some (aw 4 [.b false]):=(am _ _ (by omega)).trans m5;have hs2:=bG m5' 0 [.b false] (by simp) rfl;have ht1:cG [c+3] ((MB.set (c+1) (aw 49 [V.i .i64 0])).set (c+2) (aw 4 [V.b false]))=some (((MB.set (c+1) (aw 49 [V.i .i64 0])).set (c+2) (aw 4 [V.b false])).set (c+3) (.defs true)):=by
    rw[mC (by rw[am _ _ (by omega),am _ _ (by omega)];exact m6)];rfl
   simp only[WX,Nat.reduceBEq,B74,tJ,hs1,hs2,sE,ht1,sD];refine⟨⟨0,false,rfl,.inr ⟨fun j hj=>?_,rfl,rfl⟩⟩,((gMB.set (c+1) _ (by omega) (by omega) (ak _)).set (c+2) _ (by omega) (by omega) (ak _)).set (c+3) _ (by omega) (by omega) (ak _)⟩;by_cases hj29:j<29
   ·exact a8 j hj29 hj
   ·have:=hj.2;rw[List.getElem?_eq_none (show dx.length≤j by rw[iz];omega)]at this;cases this
  ·obtain⟨k,hk,a1,a2,a4,a5,a6,a7⟩:=(hJ _ _).1 hj;have hl5:=a7;rw[hBL]at hl5;refine⟨_,_,_,_,_,_,_,_,hl5,(by intro h;cases h),?_⟩;rw[show bw.loop LS.exhausted _ _ _ _ _ _ _=BL .exhausted .ret by rw[hBL]];have gMB:=a1.set (c2:=cc) (c+4) (BL .exhausted .ret) (by omega) (by omega) (ak _);have m4:(M2.set (c+4) (BL .exhausted .ret)).get (c+1)=some (aw 49 [.i .i64 (k:Int)]):=(am _ _ (by omega)).trans a4;have m5:(M2.set (c+4) (BL .exhausted .ret)).get (c+2)=some (aw 4 [.b true]):=(am _ _ (by omega)).trans a5;have m6:(M2.set (c+4) (BL .exhausted .ret)).get (c+3)=some (.defs false):=(am _ _ (by omega)).trans a6;generalize M2.set (c+4) (BL .exhausted .ret)=MB at gMB m4 m5 m6⊢;have ht1:cG [c+3] MB=some (MB.set (c+3) (.defs true)):=by
    rw[mC m6];rfl
   have l1004:load1 F (MB.set (c+3) (.defs true)) (c+1) 0=some (.i .i64 (k:Int)):=aX ((am _ _ (by omega)).trans m4) 0;have l1005:load1 F (MB.set (c+3) (.defs true)) (c+2) 0=some (.b true):=aX ((am _ _ (by omega)).trans m5) 0;simp only[WX,EY,sE,ht1,sD,l1004,l1005];exact⟨⟨k,true,rfl,.inl ⟨k,hk,rfl,rfl⟩⟩,gMB.set (c+3) _ (by omega) (by omega) (ak _)⟩
abbrev cA4(u:List (Option V))(x1 x4 x5 x34 x35:V):T:=(.n (.n (.n (aO u 31 15 47 7 39 23 55) (uO u 3) (.n (.n (.n .e (some x35) .e) (uO u 19) (pd u 51)) (uO u 11) (j7 u 43 27 59))) (some x1) (.n (aO u 33 17 49 9 41 25 57) (some x5) (aO u 37 21 53 13 45 29 61))) (uO u 0) (.n (.n (aO u 32 16 48 8 40 24 56) (some x4) (aO u 36 20 52 12 44 28 60)) (uO u 2) (.n (.n (.n (.n .e (some x34) .e) (uO u 18) (pd u 50)) (uO u 10) (j7 u 42 26 58)) (uO u 6) (aO u 38 22 54 14 46 30 62))))
def ax8:CC:=(.reg [(aa a1 (.bx 51 5 z0)),(qq a2 (.mv (.c (.s 0 0)))),(qq a3 (.mv (x6 0)))])
def ax9:CC:=(.reg [(qq a8 (.ldn 5 z1)),(ee a9 (.call 33 [z8])),(qq cE (.un .not z9))])
def ay0:CC:=(.reg [(qq a2 (.mv (.c (.s 0 0)))),(qq a3 (.mv (x6 2)))])
def ay1:CC:=(.seq ax9 (.cond cT (.seq ay0 .ret) .skip))
def ay2:CC:=(.reg [(qq cW (.fa 0 z1)),(qq dh (.ld1 cM)),(ee d8 (.call 35 [cH])),(ee dK (.call 34 [cI])),(aa a4 (.al 91 [(.b false),(.b false),(.b false),(.b false)])),(ez (.st 4 z4 dM))])
def ay3:CC:=(.reg [(qq dL (.fa 0 z1)),(qq dJ (.ld1 dA)),(ee eD (.call 36 [dX])),(aa eZ (.bsl 9 1 1 [(.s 0 0)] [(0,eJ)])),(qq a5 (.mv fh))])
def ay4:CC:=(.reg [(qq eN (.fa 0 z4)),(qq fq (.ld1 fL)),(qq ej (.fa 1 z1)),(qq eE (.ld1 gD)),(qq eT (.bld [(.b false),(.i .i64 0)] [(0,1,fO),(1,1,gw)])),(qq ga (.fa 1 z4)),(qq fP (.ld1 ib)),(qq ft (.fa 2 z1)),(qq ie (.ld1 gy)),(qq gz (.bld [(.b false),(.i .i64 0)] [(0,1,gV),(1,1,iU)])),(qq fJ (.fa 2 z4)),(qq gR (.ld1 j8)),(qq gW (.fa 3 z1)),(qq ig (.ld1 iX)),(qq iE (.bld [(.b false),(.i .i64 0)] [(0,1,iV),(1,1,jR)])),(qq fj (.bld [(.b false),(.i .i64 0),(.b false),(.i .i64 0),(.b false),(.i .i64 0)] [(0,2,ia),(2,2,iK),(4,2,kC)])),(qq fQ (.mv (x6 0)))])
def ay5:CC:=(.reg [(qq kc (.bi .lss jY (x6 3)))])
def ay6:CC:=(.reg [(qq kd (.ixAn 3 2 kQ jY)),(aa a7 (.al 96 [(.b false),(.i .i64 0)])),(ez (.st 2 z7 lN))])
def Oo:CC:=(.reg [(qq kE (.fa 0 z7)),(qq jS (.ld1 lO))])
def Oq:CC:=(.reg [(qq gC (.mv z5)),(qq kR (.fa 1 z7)),(qq lJ (.ld1 lQ)),(ee kW (.call 17 [n6])),(qq kS (.bi .add (.c (.s 1 114)) og)),(aa kT (.bsl 9 1 1 [(.s 0 0)] [(0,oq)])),(ee kU (.app 9 1 16 lG mU)),(qq a5 (.mv oT))])
def Ot:CC:=(.seq Oo (.cond lF Oq .skip))
def Ou:CC:=(.reg [(qq mG (.bi .add jY (x6 1))),(qq fQ (.mv n7))])
def Ov:CC:=(.seq (.cond lM .skip (.exit 0)) (.seq (.block 1 (.seq ay6 Ot)) Ou))
def Ow:CC:=(.reg [(qq jV (.fa 3 z4)),(qq ke (.ld1 ot))])
def Ox:CC:=(.reg [(qq mH (.mv z5)),(qq kX (.fa 4 z1)),(qq jW (.ld1 ng)),(ee gb (.call 17 [oU])),(aa ow (.bsl 9 1 1 [(.s 0 0)] [(0,pG)])),(ee oy (.app 9 1 16 mV qB)),(qq a5 (.mv pf))])
def Oy:CC:=(.seq Ow (.cond n8 Ox .skip))
def Oz:CC:=(.reg [(qq kF (.mv z5)),(ee kY (.call 13 [qC,(.c (.s 1 32))])),(qq a2 (.mv qE)),(qq a3 (.mv (x6 0)))])
def OA:CC:=(.seq (.seq ay4 (.block 0 (.loop (.seq ay5 Ov)))) (.seq Oy (.seq Oz .ret)))
def c15:CF:= .mk 6 [.t a2,.t a3] (.seq ax8 (.seq ay1 (.seq ay2 (.seq ay3 OA))))
theorem e15(v0:V):aN 6 [v0]=(.n nW (some v0) nW):=rfl
def B15:=ai @e15 (ai (wu ax8.eq_1) (ai (wu ax9.eq_1) (ai (wu ay0.eq_1) (ai (wu ay1.eq_1) (ai (wu ay2.eq_1) (ai (wu ay3.eq_1) (ai (wu ay4.eq_1) (ai (wu ay5.eq_1) (ai (wu ay6.eq_1) (ai (wu Oo.eq_1) (ai (wu Oq.eq_1) (ai (wu Ot.eq_1) (ai (wu Ou.eq_1) (ai (wu Ov.eq_1) (ai (wu Ow.eq_1) (ai (wu Ox.eq_1) (ai (wu Oy.eq_1) (ai (wu Oz.eq_1) (wu OA.eq_1)))))))))))))))))))
def xr(F:RO)(M:Mem)(c0 c b ty sz:Nat)(v:V)(es:List (List V)):Prop:=
 (c0≤b∧b<c∧v= .l b 0 es.length es.length∧(∀e∈es,e.length=sz)∧cQ F M b 0 es.flatten)∨d6 M c0 c b ty sz v es
theorem xr.sl{F:RO}{M:Mem}{c0 c b ty sz:Nat}{v:V}{es:List (List V)}(h:xr F M c0 c b ty sz v es):dp F M c sz v es:=by
 rcases h with⟨h1,h2,rfl,h1003,h1004⟩|h
 ·exact⟨h1003,.inr ⟨b,0,.inl ⟨_,ak _,rfl⟩,h2,h1004⟩⟩
 ·exact h.sl
theorem xr.up{F:RO}{M M':Mem}{c0 c c' b ty sz:Nat}{v:V}{es:List (List V)}(h:xr F M c0 c b ty sz v es)(hc:c≤c')(hb:∀x,x<c→M'.get x=M.get x):xr F M' c0 c' b ty sz v es:=by
 rcases h with⟨h1,h2,rfl,h1003,h1004⟩|h
 ·exact .inl ⟨h1,by omega,rfl,h1003,h1004.of_get (hb b h2)⟩
 ·exact .inr (h.up hc fun hx=>hb b hx)
theorem Ii{F:RO}{M0 M:Mem}{c0 c b ty sz bytes:Nat}{v y:V}{es ns:List (List V)}(h:xr F M c0 c b ty sz v es)(hg:Gr c0 M0 c M)(hsz:0<sz)(hy:dp F M c sz y ns)(hn0:ns≠[])(h1:bh ns.flatten=true)(hr:pa (es.length+ns.length) bytes=true):
 xe (tZ F M c ty sz bytes v y) fun v' M' c'=>∃b',xr F M' c0 c' b' ty sz v' (es++ns)∧Gr c0 M0 c' M'∧c≤c'∧(∀x,x<c→x≠b→M'.get x=M.get x)∧(b'=b∨c≤b'):=by
 rcases h with⟨k1,k2,rfl,k3,k4⟩|h
 ·unfold tZ;rw[wI hsz hy];have hnl:=fR hy.1;have hlen:ns.length≠0:=fun e=>hn0 (List.length_eq_zero_iff.1 e);obtain⟨r,hrd⟩:=nS hsz k3 k4;have e1:mc F M c ty sz bytes (.l b 0 es.length es.length) (some (ns.length,ns.flatten))=jc M c ty bytes (es.length+ns.length) 0 false (es.flatten++ns.flatten):=by
   show(bif bh ns.flatten&&Nat.beq ns.flatten.length (Nat.mul ns.length sz)then app F M c ty sz bytes (.l b 0 es.length es.length) ns.length ns.flatten else _)=_;rw[h1,bF,af (show ns.flatten.length=Nat.mul ns.length sz from hnl)];show app F M c ty sz bytes (.l b 0 es.length es.length) ns.length ns.flatten=_;unfold app;rw[bF,ag hlen,cond_false];show vg F M c ty sz bytes b 0 es.length es.length ns.length ns.flatten=_;unfold vg;rw[bQ,ag (show¬Nat.add es.length ns.length≤es.length by show¬es.length+ns.length≤es.length;omega),cond_false,hrd];rfl
  refine⟨_,_,_,e1.trans (qZ M c ty bytes _ _ hr),c,.inr ⟨?_,.inr ⟨hg.le,by omega,by rw[aV],?_⟩⟩,hg.set c _ hg.le (by omega) (by omega),by omega,fun x hx _=>am _ _ (by omega),.inr (ak _)⟩
  ·intro e he;rcases List.mem_append.1 he with he|he
   ·exact k3 e he
   ·exact hy.1 e he
  ·rw[Tr.get_set,ac rfl,List.flatten_append]
 ·refine(zG h hg hsz hy h1 hr).mono ?_;rintro v' M' c' ⟨b',a1,a2,a3,a4,a5⟩;exact⟨b',.inr a1,a2,a3,a4,a5⟩
theorem X5{F:RO}{M:Mem}{b c0 c ty sz n:Nat}{d:List V}{es:List (List V)}(h:M.get b=some (fV d ty es.flatten))(h0:c0≤b)(hb:b<c)(h1:∀e∈es,e.length=sz)(hn:es.length=n):xr F M c0 c b ty sz (.l b 0 n n) es:=by
 subst hn
 exact .inl ⟨h0,hb,rfl,h1,(Ay h).cells⟩
def dT(op:Int):List UInt8:=if 1≤op∧op≤28 then(dx[op.toNat]?).getD []else[]
theorem al2(op:Int):mO op=sV (dT op):=by
 unfold mO dT
 by_cases h:1≤op∧op≤28
 ·rw[ac h,ac h,yA (by omega),List.getElem?_eq_getElem (show op.toNat<dx.length by rw[iz];omega)];rfl
 ·rw[ab h,ab h];rfl
def yl(op:Int)(i:Nat):Bool:=if i=0 then dI (aL op)else if i=1 then aI (aL op)else bI (aL op)
def gv(d a b:Int)(i:Nat):Int:=if i=0 then d else if i=1 then a else b
def wk(op d a b:Int):Nat→List (List UInt8)
 |0=>[dT op]
 |i+1=>wk op d a b i++(if yl op i=true then[114::cz (gv d a b i)]else[])
def eM(op d a b i:Int):List (List UInt8):=wk op d a b 3++(if iI (aL op)=true then[cz i]else[])
def cV(op d a b i:Int):List UInt8:=bN [32] (eM op d a b i)
theorem eV(n:Nat):(bn n).length≤10:=by
 unfold bn
 rw[dG]
 unfold nd;repeat' split
 all_goals omega
theorem eS(n:Int):(cz n).length≤11:=by
 cases n with
 |ofNat n=>have:=eV n;show(bn n).length≤11;omega
 |negSucc n=>have:=eV (n+1);show(45::bn (n+1)).length≤11;rw[bq];omega
theorem yz(op:Int):(dT op).length≤6:=by
 unfold dT
 split
 ·have:∀k,k<29→((dx[k]?).getD []).length≤6:=by decide+kernel
  exact this _ (by omega)
 ·simp
theorem Zo(op d a b:Int):∀i,(wk op d a b i).length≤i+1
 |0=>ak _
 |i+1=>by
  have:=Zo op d a b i;rw[wk,aV];split<;>simp<;>omega
theorem Jv(op d a b:Int):∀i,jv (wk op d a b i)≤7+13*i
 |0=>by have:=yz op;show(dT op).length+1+0≤7;omega
 |i+1=>by
  have:=Jv op d a b i;have h2:=eS (gv d a b i);rw[wk,gj];split
  ·rw[jv,jv,bq];omega
  ·rw[jv];omega
def bj5(len sz:Nat)(x i:V):Option V:=(cZ (.ixAn len sz (.c x) (.c i)) [] .e .e).val
theorem YL{F:RO}(len sz:Nat)(x i:X)(M:Mem)(t:T):(cZ (.ixAn len sz x i) F M t).val=bj5 len sz (x.ev t) (i.ev t):=Eq.trans rfl (Eq.refl _)
theorem bB9(x0 x1 x2:Bool)(y0 y1 y2:Int)(i:Nat)(h:i<3):bj5 3 2 (.g [.b x0,.i .i64 y0,.b x1,.i .i64 y1,.b x2,.i .i64 y2]) (.i .i64 (i:Int))=some (.g [.b (if i=0 then x0 else if i=1 then x1 else x2),.i .i64 (if i=0 then y0 else if i=1 then y1 else y2)]):=by
 have:i=0∨i=1∨i=2:=by omega
 rcases this with rfl|rfl|rfl<;>rfl
theorem fy{op d a b i:Int}(h:cJ op d a b i=true):1≤op∧op≤28∧(∀k,0≤gv d a b k∧gv d a b k<16)∧ -32768≤i∧i≤65535:=by
 unfold cJ at h
 simp only[aJ,Bool.or_eq_true,decide_eq_true_eq]at h
 obtain⟨h1,h2,h1003,h1004,h1005,h1006⟩:=h
 have key:∀b n,nT b n=true→0≤n∧n<16:=by
  intro b n hh;unfold nT at hh;have:=b9 hh;omega
 refine⟨h1,h2,fun k=>?_,by omega,by omega⟩
 unfold gv
 repeat' split
 ·exact key _ _ h1003
 ·exact key _ _ h1004
 ·exact key _ _ h1005
theorem d92(Φ:Nat→Option CF)(h:Φ 15=some c15)(uc:Φ 33=some (.orc (ah uc))){F:RO}{M:Mem}{c:Nat}(op d a b i:Int)(hm:cJ op d a b i=false):
 Calls Φ F 15 [.g [.i .i64 op,.i .i64 d,.i .i64 a,.i .i64 b,.i .i64 i]] M c fun r _ _=>r= .t [.s 0 0,.i .i64 2]:=by
 refine aq h ?_
 simp only[WX,Nat.reduceAdd,Nat.reduceLeDiff,B15,uc,zZ,hm]
theorem r15(Φ:Nat→Option CF)(h:Φ 15=some c15){L:List gk}(uc:Φ 33=some (.orc (ah uc)))(h35:Φ 35=some (.orc (ah h35)))(h34:Φ 34=some (.orc (ah h34)))(BJ:Φ 36=some (.orc (ah BJ)))(h17:Φ 17=some (.orc (bT L h38)))
 (h13:Φ 13=some ZW) (h31:Φ 31=some Wi) (h12:Φ 12=some Wg) (h18:Φ 18=some Wh) (h30:Φ 30=some Ka) (h60:Φ 60=some Me) {F:RO} {M:Mem} {c:Nat} (ok:dH F M c) (ht:bE F L=true) (op d a b i:Int) (hm:cJ op d a b i=true):
 Calls Φ F 15 [.g [.i .i64 op,.i .i64 d,.i .i64 a,.i .i64 b,.i .i64 i]] M c fun r _ _=>r= .t [sV (cV op d a b i),.i .i64 0]:=by
 refine aq h ?_
 have hT:=fun h args M c=>dC ht h args M c
 obtain⟨n1,n2,n3,n4,n5⟩:=fy hm
 simp only[WX,Nat.reduceBEq,Nat.reduceAdd,Nat.reduceLeDiff,B15,uc,zZ,hm,h35,nH,h34,A0,BJ,X6,al2,show∀l,cU (sV l)=true from fun _=>rfl,show∀l,flatten (sV l)=[sV l]from fun _=>rfl]
 have rI:bw:=aw 51 [.i .i64 op,.i .i64 d,.i .i64 a,.i .i64 b,.i .i64 i]
 obtain⟨X,hX⟩:∃X:Mem,X=((M.set c (aw 51 [V.i IntKind.i64 op,V.i IntKind.i64 d,V.i IntKind.i64 a,V.i IntKind.i64 b,V.i IntKind.i64 i])).set (c+1) (aw 91 [V.b (dI (aL op)),V.b (aI (aL op)),V.b (bI (aL op)),V.b (iI (aL op))])).set (c+2) (fV [V.s 0 0] 9 [sV (dT op)]):=⟨_,rfl⟩
 rw[←hX]
 have grX:Gr c M (c+3) X:=by
  rw[hX];exact(((Gr.refl ok).set c _ (ak _) (bf _) (bD _)).set (c+1) _ (by omega) (show c+1<c+2 by omega) (by omega)).set (c+2) _ (by omega) (by omega) (by omega)
 have xI:X.get c=some (aw 51 [.i .i64 op,.i .i64 d,.i .i64 a,.i .i64 b,.i .i64 i]):=by rw[hX,am _ _ (by omega),am _ _ (by omega),av]
 have xB:X.get (c+1)=some (aw 91 [.b (dI (aL op)),.b (aI (aL op)),.b (bI (aL op)),.b (iI (aL op))]):=by rw[hX,am _ _ (by omega),av]
 have xA:xr F X c (c+3) (c+2) 9 1 (.l (c+2) 0 1 1) (fX (wk op d a b 0)):=X5 (d:=[.s 0 0]) (by rw[hX,av];rfl) (by omega) (bf _) (fun e he=>by obtain⟨x,_,rfl⟩:=List.mem_map.1 he;rfl) rfl
 clear hX rI
 obtain⟨I1,hI1⟩:∃I:Nat→St→Prop,∀n s',I n s'↔(∃(k:Nat) (M1:Mem) (c1 b1:Nat) (v:V) (u:List (Option V)),n=3-k∧k≤3∧s'= .mk ((cA4 u (.p c 0) (.p (c+1) 0) v (.g [.b (dI (aL op)),.i .i64 d,.b (aI (aL op)),.i .i64 a,.b (bI (aL op)),.i .i64 b]) (.i .i64 (k:Int)))) [] M1 c1∧Gr c M c1 M1∧xr F M1 c c1 b1 9 1 v (fX (wk op d a b k))∧c+2≤b1∧c+3≤c1∧M1.get c=some (aw 51 [.i .i64 op,.i .i64 d,.i .i64 a,.i .i64 b,.i .i64 i])∧M1.get (c+1)=some (aw 91 [.b (dI (aL op)),.b (aI (aL op)),.b (bI (aL op)),.b (iI (aL op))])):=⟨fun n s'=>_,fun _ _=>Iff.rfl⟩
 refine de I1 ?_ 3 _ ((hI1 _ _).2 ⟨0,X,c+3,c+2,.l (c+2) 0 1 1,(X1 (G1 (X2 (G2 (eG (X8 (X4 (G2 (eG (X8 (X2 (X1 [])))))))))))),rfl,aP _,rfl,grX,xA,ak _,ak _,xI,xB⟩)
 intro n s' hIs
 obtain⟨k,M1,c1,b1,v,u,rfl,hk,rfl,gr1,hA,hb1,hc1,gI,gB⟩:=(hI1 _ _).1 hIs
 clear hIs
 have ok1:=gr1.ok ok
 have hS:∀l,cU (sV l)=true:=fun _=>rfl
 have hF:∀l,flatten (sV l)=[sV l]:=fun _=>rfl
 have hwl:=Zo op d a b k
 by_cases hlt:k<3
 ·have d1:decide ((k:Int)<3)=true:=af (by omega);have hix:=bB9 (dI (aL op)) (aI (aL op)) (bI (aL op)) d a b k hlt;have q8:aK .add (.i .i64 (k:Int)) (.i .i64 1)=some (.i .i64 ((k+1:Nat):Int)):=by rw[bH _ _ (by omega) (by omega)];simp
  rw[show(if k=0 then dI (aL op)else if k=1 then aI (aL op)else bI (aL op))=yl op k from rfl,show(if k=0 then d else if k=1 then a else b)=gv d a b k from rfl]at hix;have hbo:=fun x:Bool=>show cU (.b x)=true from rfl;cases hfl:yl op k with
  |true=>
   rw[hfl]at hix;have hcat:aK .add (.s 1 114) (sV (cz (gv d a b k)))=some (sV (114::cz (gv d a b k))):=dy [114] _ (by have:=eS (gv d a b k);simp;omega);have hnk:=n3 k;simp only[WX,Nat.reduceAdd,Nat.reduceLeDiff,B15,d1,YL,hix,h17,hT,mh (show -10000000<gv d a b k by omega) (show gv d a b k<10000000 by omega),hcat,hS,hF];obtain⟨Y,hY⟩:∃Y:Mem,Y=(M1.set c1 (aw 96 [V.b true,V.i IntKind.i64 (gv d a b k)])).set (c1+1) (fV [V.s 0 0] 9 [sV (114::cz (gv d a b k))]):=⟨_,rfl⟩
   rw[←hY];have grY:Gr c M (c1+2) Y:=by
    rw[hY];exact(gr1.set (c2:=c1+1) c1 _ gr1.le (by omega) (by omega)).set (c1+1) _ (by omega) (by omega) (by omega)
   have hYo:∀x,x<c1→Y.get x=M1.get x:=fun x hx=>by rw[hY,am _ _ (by omega),am _ _ (by omega)]
   have hy:dp F Y (c1+2) 1 (.l (c1+1) 0 1 1) (fX [114::cz (gv d a b k)]):=Ys (d:=[.s 0 0]) (ty:=9) (by rw[hY,av];rfl) (by omega) (fun e he=>by obtain⟨x,_,rfl⟩:=List.mem_map.1 he;rfl) rfl;refine aC ((Ii (bytes:=16) (hA.up (show c1≤c1+2 by omega) hYo) grY Nat.one_pos hy (by simp[fX]) rfl (jp (by simp[fX];omega) (by simp[fX];omega))).mono ?_);rintro v' M2 c2 ⟨b2,hA2,gr2,hle2,hfr2,hbb2⟩;simp only[WX,B15,q8];refine⟨3-(k+1),by omega,(hI1 _ _).2 ⟨k+1,M2,c2,b2,v',(X1 (G1 (X2 (G2 (eG (X8 (X4 (G2 (eG (X8 (X2 (X1 [])))))))))))),rfl,by omega,rfl,gr2,?_,by omega,by omega,?_,?_⟩⟩
   ·rw[wk,hfl,ac rfl,fX,List.map_append];exact hA2
   ·rw[hfr2 c (by omega) (by omega),hYo c (by omega)];exact gI
   ·rw[hfr2 (c+1) (by omega) (by omega),hYo (c+1) (by omega)];exact gB
  |false=>
   rw[hfl]at hix;simp only[WX,Nat.reduceAdd,Nat.reduceLeDiff,B15,d1,YL,hix,q8];have hYo:∀x,x<c1→(M1.set c1 (aw 96 [V.b false,V.i IntKind.i64 (gv d a b k)])).get x=M1.get x:=fun x hx=>am _ _ (by omega);refine⟨3-(k+1),by omega,(hI1 _ _).2 ⟨k+1,_,c1+1,b1,v,(X1 (G1 (X2 (G2 (eG (X8 (X4 (G2 (eG (X8 (X2 (X1 [])))))))))))),rfl,by omega,rfl,gr1.set c1 _ gr1.le (by omega) (by omega),?_,hb1,by omega,(hYo c (by omega)).trans gI,(hYo (c+1) (by omega)).trans gB⟩⟩;rw[wk,hfl,ab (by decide),dw];exact hA.up (by omega) hYo
 ·have d1:decide ((k:Int)<3)=false:=ag (by omega);obtain rfl:k=3:=by omega
  have lB:load1 F M1 (c+1) 3=some (.b (iI (aL op))):=aX gB 3;have lI:load1 F M1 c 4=some (.i .i64 i):=aX gI 4;have hsz:=Jv op d a b 3;cases hfl:iI (aL op)with
  |true=>
   rw[hfl]at lB;simp only[WX,B15,d1,lB,lI,h17,hT,mh (show -10000000<i by omega) (show i<10000000 by omega),hS,hF];have grY:Gr c M (c1+1) (M1.set c1 (fV [V.s 0 0] 9 [sV (cz i)])):=gr1.set c1 _ gr1.le (by omega) (by omega);have hy:dp F (M1.set c1 (fV [V.s 0 0] 9 [sV (cz i)])) (c1+1) 1 (.l c1 0 1 1) (fX [cz i]):=Ys (d:=[.s 0 0]) (ty:=9) (by rw[av];rfl) (by omega) (fun e he=>by obtain⟨x,_,rfl⟩:=List.mem_map.1 he;rfl) rfl;refine aC ((Ii (bytes:=16) (hA.up (show c1≤c1+1 by omega) (fun x hx=>am _ _ (by omega))) grY Nat.one_pos hy (by simp[fX]) rfl (jp (by simp[fX];omega) (by simp[fX];omega))).mono ?_);rintro v' M2 c2 ⟨b2,hA2,gr2,hle2,hfr2,hbb2⟩;have ok2:=gr2.ok ok;have hA3:dp F M2 c2 1 v' (fX (eM op d a b i)):=by
    have:=hA2.sl;rw[eM,hfl,ac rfl,fX,List.map_append];exact this
   have hil:=eS i;simp only[WX,B15];refine aC ((r13 (s:=[32]) Φ h13 h31 h12 h18 h30 h60 ok2 hA3 (by rw[eM,gj,hfl,ac rfl,jv,jv];omega) (by decide) (by decide)).mono ?_);rintro r M3 c1003 ⟨rfl,_⟩;simp only[WX];rfl
  |false=>
   rw[hfl]at lB;have hA3:dp F M1 c1 1 v (fX (eM op d a b i)):=by
    rw[eM,hfl,ab (by decide),dw];exact hA.sl
   simp only[WX,B15,d1,lB];refine aC ((r13 (s:=[32]) Φ h13 h31 h12 h18 h30 h60 ok1 hA3 (by rw[eM,gj,hfl,ab (by decide),jv];omega) (by decide) (by decide)).mono ?_);rintro r M3 c1003 ⟨rfl,_⟩;simp only[WX];rfl
end
end Go.Proofs.YtmjeiphepinphaaGreatDoor.Ev
