/- What is proved here: pieces of the evaluator's soundness: if the evaluator comes to a value, the model's run comes to it, for every world and tape; no conditions beyond the hypotheses of each theorem. -/
import Derived.Test.YtdnddpmjnlagfaaGreatDoorEv5
import Derived.KernelRfl
set_option linter.unusedSimpArgs false
set_option linter.unusedVariables false
set_option linter.defProp false
set_option maxRecDepth 10000
set_option maxHeartbeats 16000000
namespace Go.Proofs.YtdnddpmjnlagfaaGreatDoor.Ev
open Go
noncomputable section
def aX8:CC:=(.reg [(qq a2 (.mv z0)),(qq a3 (.nck z2)),(qq a4 (.fa 0 z3)),(qq a5 (.ld1 z4)),(qq a6 (.eq false .ptr true z5 (.c .p0)))])
def aX9:CC:=(.reg [(qq a7 (.mv z0)),(qq a8 (.mv z0)),(qq a9 (.up z8)),(qq cg (.mv z9)),(qq cF (.dn 96 2 cm)),(qq de (.nck z7)),(qq cO (.fa 0 cT)),(ez (.st 1 cK cI))])
def aY0:CC:=(.reg [(qq dm (.mv z0)),(qq dC (.nck dB)),(qq dJ (.fa 0 dy)),(qq dX (.ld1 ec)),(qq dS (.mv z0)),(qq dN (.eq true .ptr false dL eA))])
def aY1:CC:=(.cond z6 aX9 (.seq aY0 (.cond fk .bad .skip)))
def PD:CF:= .mk 5 [] (.seq aX8 aY1)
theorem e91(v0:V):bh 5 [v0]=(.n oE (some v0) oE):=rfl
def B91:=ai @e91 (ai (wu aX8.eq_1) (ai (wu aX9.eq_1) (ai (wu aY0.eq_1) (wu aY1.eq_1))))
def SO:CC:=(.dreg 16 [(0,0,(qq a5 (.mv z0))),(1,1,(qq a6 (.nck z5))),(2,3,(qq a7 (.fa 1 z6))),(3,7,(qq a8 (.ld1 z7))),(4,15,(qq a9 (.cp z8))),(5,31,(qq cg (.bi .mul (x6 2) z9))),(6,0,(qq cF (.mv z1))),(7,127,(qq de (.bi .add cm cI))),(8,255,(aa cO (.nz 5 cT))),(9,0,(qq dm (.mv z0))),(10,512,(qq dC (.nck dB))),(11,1536,(qq dJ (.fa 1 dy))),(12,3584,(qq dX (.ld1 ec))),(13,7680,(qq dS (.ln .slice dL))),(14,16383,(qq dN (.slL 1 cK none (some eA) none))),(15,32767,(qq a4 (.mv fk)))])
def SP:CC:=(.reg [(qq fi (.mv z4)),(qq eL (.mv z0)),(qq eM (.nck fT)),(qq ew (.fa 1 fm)),(qq dG (.ld1 fW)),(ee eE (.cpy 1 fl fX))])
def SQ:CC:=(.reg [(qq eU (.mv z0)),(qq fC (.mv z4)),(qq fU (.nck ib)),(qq fp (.fa 1 ic)),(ez (.st 1 ij gi))])
def C9:CF:= .mk 5 [] (.seq SO (.seq SP SQ))
theorem cy7(v0 v1:V):bh 5 [v0,v1]=(.n (.n iC (some v1) iC) (some v0) oE):=rfl
def cv2:=ai @cy7 (ai (wu SO.eq_1) (ai (wu SP.eq_1) (wu SQ.eq_1)))
def R2:CC:=(.reg [(qq a4 (.mv z0)),(ee a5 (.call 91 [z4]))])
def R3:CC:=(.reg [(qq a6 (.mv z1)),(qq a7 (.bi .lss z6 (x6 0)))])
def R4:CC:=(.reg [(qq a8 (.mki 9 (.c (.s 36 226187813140227768008177986391742176399534891738691412630441701833056540972817830802547)))),⟨none,.q (.bad),none⟩])
def R5:CC:=(.dreg 13 [(0,0,(qq a9 (.mv z0))),(1,1,(qq cg (.nck z9))),(2,3,(qq cF (.fa 1 cm))),(3,7,(qq de (.ld1 cI))),(4,15,(qq cO (.cp cT))),(5,0,(qq dm (.mv z0))),(6,32,(qq dC (.nck dB))),(7,96,(qq dJ (.fa 1 dy))),(8,224,(qq dX (.ld1 ec))),(9,480,(qq dS (.ln .slice dL))),(10,1023,(qq dN (.bi .sub cK eA))),(11,0,(qq fi (.mv z1))),(12,4095,(qq eL (.bi .lss fk fl)))])
def R6:CC:=(.reg [(qq eM (.mv z0)),(qq ew (.mv z1)),(ee dG (.call 145 [fm,fW]))])
def R7:CC:=(.seq R5 (.cond fT R6 .skip))
def R8:CC:=(.seq (.seq R3 (.cond z7 R4 .skip)) R7)
def Ew:CF:= .mk 5 [] (.seq R2 R8)
theorem cx6(v0 v1:V):bh 5 [v0,v1]=(.n (.n iC (some v1) iC) (some v0) oE):=rfl
def b54:=ai @cx6 (ai (wu R2.eq_1) (ai (wu R3.eq_1) (ai (wu R4.eq_1) (ai (wu R5.eq_1) (ai (wu R6.eq_1) (ai (wu R7.eq_1) (wu R8.eq_1)))))))
def aP4:CC:=(.reg [(qq a4 (.mv (x6 0))),(qq a5 (.mv (.c .a0)))])
def aP5:CC:=(.reg [(qq a6 (.mv z0)),(ee a7 (.call 91 [z6]))])
def aP6:CC:=(.reg [(qq a8 (.mv z0)),(qq a9 (.mv z0)),(qq cg (.nck z9)),(qq cF (.fa 1 cm)),(qq de (.ld1 cI)),(qq cO (.mv z1)),(ee dm (.app 5 1 1 cT cK)),(qq dC (.nck z8)),(qq dJ (.fa 1 dy)),(ez (.st 1 ec dB))])
def aP7:CC:=(.reg [(qq dX (.mv z1)),(qq dS (.ln .str dL)),(qq a4 (.mv eA)),(qq a5 (.mv (.c .a0)))])
def c48:CF:= .mk 5 [.t a4,.t a5] (.seq aP4 (.seq aP5 (.seq aP6 (.seq aP7 .ret))))
theorem e48(v0 v1:V):bh 5 [v0,v1]=(.n (.n iC (some v1) iC) (some v0) oE):=rfl
def B48:=ai @e48 (ai (wu aP4.eq_1) (ai (wu aP5.eq_1) (ai (wu aP6.eq_1) (wu aP7.eq_1))))
def aR1:CC:=(.dreg 12 [(0,0,(qq a3 (.mv z0))),(1,1,(qq a4 (.nck z3))),(2,3,(qq a5 (.fa 1 z4))),(3,7,(qq a6 (.ld1 z5))),(4,15,(qq a7 (.sd z6))),(5,0,(qq a8 (.mv z0))),(6,32,(qq a9 (.nck z8))),(7,96,(qq cg (.fa 1 z9))),(8,224,(qq cF (.ld1 cm))),(9,480,(qq de (.ln .slice cI))),(10,1023,(ee cO (.us 5 z7 cT))),(11,2047,(qq a2 (.mv cK)))])
def aR2:CC:=(.seq (.reg [(qq a2 (.mv (.c (.s 0 0))))]) (.seq aR1 .ret))
def c53:CF:= .mk 4 [.t a2] aR2
theorem e53(v0:V):bh 4 [v0]=(.n iC (some v0) iC):=rfl
def B53:=ai @e53 (ai (wu aR1.eq_1) (wu aR2.eq_1))
def j9(M:Mem)(c0 c b bb:Nat)(l:List UInt8):Prop:=
 c0≤b∧b<c∧b≠bb∧ ∃a v,M.get b=some (ax 96 [a,v])∧(a= .p0∨a= .p b 0)∧kU M c0 c bb v l
theorem j9.up{M M':Mem}{c0 c c' b bb:Nat}{l:List UInt8}(h:j9 M c0 c b bb l)(hc:c≤c')(hb:∀x,x<c→M'.get x=M.get x):j9 M' c0 c' b bb l:=by
 obtain⟨h1,h2,h1003,a,v,h1004,h1005,h1006⟩:=h
 exact⟨h1,by omega,h1003,a,v,by rw[hb b h2];exact h1004,h1005,h1006.up hc (hb bb)⟩
theorem bc8{F:RO}(lit:Bool)(M:Mem):xB F M .ptr lit .p0 .p0=some true:=Eq.trans rfl (Eq.refl _)
theorem bc9{F:RO}(lit:Bool)(M:Mem)(b o:Nat):xB F M .ptr lit (.p b o) .p0=some false:=Eq.trans rfl (Eq.refl _)
theorem bd0{F:RO}(lit:Bool)(M:Mem)(b o:Nat):xB F M .ptr lit (.p b o) (.p b o)=some true:=by
 show CN F M b o b o=_
 unfold CN
 rw[bp,ae rfl,cond_true,Nat.beq_refl]
theorem A2{M:Mem}{c0 c b:Nat}{v:V}{l:List UInt8}(h:kU M c0 c b v l):cY v=true∧flatten v=[v]∧oD v=some (.i .i64 (l.length:Int)):=by
 rcases h with⟨rfl,rfl⟩|⟨_,_,n,_,rfl,_⟩
 ·exact⟨rfl,rfl,fv⟩
 ·exact⟨rfl,rfl,Yt _ _ _ _ _⟩
theorem r91(Φ:Nat→Option CF)(h:Φ 91=some PD){F:RO}{M:Mem}{c b:Nat}{a v:V}(hM:M.get b=some (ax 96 [a,v]))(ha:a= .p0∨a= .p b 0):
 Calls Φ F 91 [.p b 0] M c fun _ M' c'=>M'=M.set b (ax 96 [.p b 0,v])∧c'=c:=by
 refine az h ?_
 have l0:load1 F M b 0=some a:=aj hM 0
 rcases ha with rfl|rfl
 ·have hu:upV F M (.p b 0)=some (.p b 0):=ar0 hM (by simp);have hd:dnV 96 2 F M (.p b 0)=some (.p b 0):=ah4 hM;have hst:=bf hM 0 [.p b 0] (by simp) rfl;simp only[WX,B91,tw,j6,l0,bc8,cL8,cL5,hu,hd,hst]
 ·simp only[WX,B91,tw,j6,l0,bc9,bd0];exact qW hM
theorem cI3(Φ:Nat→Option CF)(h:Φ 145=some C9){F:RO}{M:Mem}{c b:Nat}(ok:d9 F M c)(hb:b<c)(hM:M.get b=some (ax 96 [.p b 0,.l0]))(n:Nat)(hn:n≤1099511627776):
 Calls Φ F 145 [.p b 0,.i .i64 (n:Int)] M c fun _ M' c'=>M'=(M.set (c+8) (qT 5 n [])).set b (ax 96 [.p b 0,.u (c+8) 0 0 0 n])∧c'=c+16:=by
 refine az h ?_
 have l1:load1 F M b 1=some .l0:=aj hM 1
 have hlk:(look F M (c+8)).isNone=true:=by rw[ok.look (show c≤c+8 by omega)];rfl
 have hne:b≠c+8:=by omega
 have m2:bD .mul (.i .i64 2) (.i .i64 0)=some (.i .i64 0):=qA 2 0 (by omega) (by omega)
 have a2:bD .add (.i .i64 0) (.i .i64 (n:Int))=some (.i .i64 (n:Int)):=by rw[aO _ _ (by omega) (by omega)];simp
 have hsl:ap9 1 (.u (c+8) 0 n 0 n) none (some (.i .i64 0)) none=some (.u (c+8) 0 0 0 n):=by
  show(oW 1 (c+8) 0 0 n 0 0).val=_;unfold oW;rw[bL,bL,ae (aF n),ae (aF 0)];show(mkU (c+8) 0 0 0 n).val=_;rw[Ao];rfl
 have l2:load1 F (M.set (c+8) (qT 5 n [])) b 1=some .l0:=by rw[CB _ _ _ hne];exact l1
 have hg2:(M.set (c+8) (qT 5 n [])).get b=some (ax 96 [.p b 0,.l0]):=by rw[aK _ _ hne];exact hM
 have hst:=bf hg2 1 [.u (c+8) 0 0 0 n] (by simp) rfl
 simp only[WX,Nat.reduceAdd,cv2,rL,j6,tw,l1,XK,EG,m2,a2,b65,Dl,th,bX3,hn,hlk,dQ,bY,hne,ne_eq,not_false_eq_true,bc5,hsl,iK,l2,Dp,ba4,hst]
theorem jt{n:Nat}(h:n≤1073741824):kP n 1=true:=eI (by omega) (by omega)
theorem cd3(Φ:Nat→Option CF)(h:Φ 115=some Ew)(h91:Φ 91=some PD)(h145:Φ 145=some C9){F:RO}{M0 M:Mem}{c0 c b:Nat}(ok:d9 F M c)(hg:Gr c0 M0 c M)(k1:c0≤b)(k2:b<c)(hM:M.get b=some (ax 96 [.p0,.l0]))(n:Nat)(hn:n≤1099511627776):
 Calls Φ F 115 [.p b 0,.i .i64 (n:Int)] M c fun _ M' c'=>∃bb',j9 M' c0 c' b bb' []∧Gr c0 M0 c' M'∧c≤c'∧(∀x,x<c→x≠b→M'.get x=M.get x):=by
 refine az h ?_
 simp only[WX,b54]
 refine av ((r91 Φ h91 hM (.inl rfl)).mono ?_)
 rintro v1 M1 c1 ⟨rfl,rfl⟩
 have hg1:=hg.set b (ax 96 [.p b 0,.l0]) k1 k2 (ah _)
 have cD:=ok.put (y:=ax 96 [.p b 0,.l0]) k2 hM
 have g1:(M.set b (ax 96 [.p b 0,.l0])).get b=some (ax 96 [.p b 0,.l0]):=au _ _ _
 have l1:load1 F (M.set b (ax 96 [.p b 0,.l0])) b 1=some .l0:=aj g1 1
 have d0:decide ((n:Int)<0)=false:=ag (by omega)
 have s0:bD .sub (.i .i64 0) (.i .i64 0)=some (.i .i64 0):=by rw[eF];rfl
 by_cases hz:n=0
 ·have d1:decide ((0:Int)<(n:Int))=false:=ag (by omega);simp only[WX,b54,d0,rL,j6,l1,XK,EG,s0,d1];exact⟨c1,⟨k1,by omega,by omega,_,_,g1,.inr rfl,.inl ⟨rfl,rfl⟩⟩,hg1.up (by omega),by omega,fun x hx hxb=>aK _ _ hxb⟩
 ·have d1:decide ((0:Int)<(n:Int))=true:=ae (by omega);simp only[WX,b54,d0,rL,j6,l1,XK,EG,s0,d1];have ok2:d9 F (M.set b (ax 96 [.p b 0,.l0])) (c1+13):=⟨fun x hx=>cD.hiM x (by omega),fun x hx=>cD.hiF x (by omega),cD.ap,by have:=cD.ge;omega⟩
  refine av ((cI3 Φ h145 ok2 (by omega) g1 n hn).mono ?_);rintro v2 M2 c2 ⟨rfl,rfl⟩;simp only[WX,Nat.reduceAdd];refine⟨c1+13+8,⟨k1,by omega,by omega,_,_,au _ _ _,.inr rfl,.inr ⟨by omega,by omega,n,⟨aF _,by omega⟩,rfl,?_⟩⟩,?_,by omega,fun x hx hxb=>?_⟩
  ·rw[aK _ _ (by omega),au];rfl
  ·exact((hg1.up (show c1≤c1+13 by omega)).set (c1+13+8) _ (by have:=hg.le;omega) (show c1+13+8<c1+13+16 by omega) (by omega)).set b _ k1 (by omega) (by omega)
  ·rw[aK _ _ hxb,aK _ _ (by omega),aK _ _ hxb]
theorem r48(Φ:Nat→Option CF)(h:Φ 48=some c48)(h91:Φ 91=some PD){F:RO}{M0 M:Mem}{c0 c b bb:Nat}{l:List UInt8}(ok:d9 F M c)(hg:Gr c0 M0 c M)(hb:j9 M c0 c b bb l)(s:List UInt8)(hr:kP (l.length+s.length) 1=true):
 Calls Φ F 48 [.p b 0,sV s] M c fun _ M' c'=>∃bb',j9 M' c0 c' b bb' (l++s)∧Gr c0 M0 c' M'∧c≤c'∧(∀x,x<c→x≠b→x≠bb→M'.get x=M.get x)∧(bb'=bb∨c≤bb'):=by
 obtain⟨k1,k2,k3,a,v,hM,ha,hbuf⟩:=hb
 refine az h ?_
 simp only[WX,B48]
 refine av ((r91 Φ h91 hM ha).mono ?_)
 rintro v1 M1 c1 ⟨rfl,rfl⟩
 have hg1:=hg.set b (ax 96 [.p b 0,v]) k1 k2 (ah _)
 have g1:(M.set b (ax 96 [.p b 0,v])).get b=some (ax 96 [.p b 0,v]):=au _ _ _
 have l1:load1 F (M.set b (ax 96 [.p b 0,v])) b 1=some v:=aj g1 1
 have hbuf1:kU (M.set b (ax 96 [.p b 0,v])) c0 c1 bb v l:=by
  rcases hbuf with h|⟨a1,a2,n,a3,a4,a5⟩
  ·exact .inl h
  ·exact .inr ⟨a1,a2,n,a3,a4,by rw[aK _ _ (Ne.symm k3)];exact a5⟩
 simp only[WX,B48,tw,j6,l1]
 refine av ((Xo (F:=F) (s:=s) hbuf1 hg1 hr).mono ?_)
 rintro v2 M2 c2 ⟨bb',hb2,hg2,hle,hfr,hbb⟩
 have g2:M2.get b=some (ax 96 [.p b 0,v]):=by rw[hfr b (by omega) k3];exact g1
 obtain⟨o1,o2,_⟩:=A2 hb2
 have hst:=bf g2 1 [v2] (by simp) (by rw[dh,o1];rfl)
 simp only[WX,Nat.reduceAdd,B48,tw,j6,o2,hst]
 have hne:b≠bb':=by rcases hbb with h|h<;>omega
 refine⟨bb',⟨k1,by omega,hne,_,_,au _ _ _,.inr rfl,?_⟩,hg2.set b _ k1 (by omega) (ah _),hle,fun x hx hxb hxbb=>?_,hbb⟩
 ·rcases hb2 with h|⟨a1,a2,n,a3,a4,a5⟩
  ·exact .inl h
  ·exact .inr ⟨a1,a2,n,a3,a4,by rw[aK _ _ (Ne.symm hne)];exact a5⟩
 ·rw[aK _ _ hxb,hfr x hx hxbb,aK _ _ hxb]
def usE(F:RO)(M:Mem)(c ty:Nat)(x n:V):RC:=XR ty (.c x) (.c n) F M c .e
theorem uy{Φ:Nat→Option CF}{rd:Option Nat}{fn:Nat}{F:RO}(ty:Nat)(x n:X)(M:Mem)(c:Nat)(t:T):gG (.us ty x n) (K Φ rd fn F) M c t=usE F M c ty (x.ev t) (n.ev t):=Eq.trans rfl (Eq.refl _)
theorem ci7{F:RO}(M:Mem)(c ty:Nat):usE F M c ty .p0 (.i .i64 0)= .k (.s 0 0) M c:=Eq.trans rfl (Eq.refl _)
theorem bj9{F:RO}(M:Mem)(c ty b o:Nat):usE F M c ty (.p b o) (.i .i64 0)= .k (.s 0 0) M c:=Eq.trans rfl (Eq.refl _)
theorem ar1{F:RO}{M:Mem}{b n:Nat}(c:Nat){l:List UInt8}(hM:M.get b=some (qT 5 n (l.map bV)))(hn:l.length≤n)(hl:l≠[])(hl2:l.length≤1099511627776):
 ∃y,usE F M c 5 (.p b 0) (.i .i64 (l.length:Int))= .k (sV l) (M.set b y) c:=by
 have hld:=(wA (F:=F) hM (by rw[List.length_map];exact hn)).load (by
  intro e;rw[List.map_eq_nil_iff]at e;exact hl e)
 rw[List.length_map]at hld
 have h0:l.length≠0:=fun e=>hl (List.length_eq_zero_iff.1 e)
 refine⟨.cells 5 n false (if 0≤0+l.length then 0+l.length else 0) false [] (iY (l.map bV)),?_⟩
 show yA F M c 5 b 0 l.length=_
 unfold yA
 rw[bp,ag h0,cond_false]
 have ht:FX M b 5=true:=by unfold FX;rw[hM];rfl
 rw[ht,bL,ae hl2]
 show(match loadN F M b 0 l.length with|some vs=>yB M c b 0 (gm vs)|none=>RC.f)=_
 rw[hld]
 show yB M c b 0 (gm (l.map bV))=_
 rw[qh]
 have hf:jp M b 0 l.length=some (M.set b (.cells 5 n false (if 0≤0+l.length then 0+l.length else 0) false [] (iY (l.map bV)))):=by
  unfold jp;rw[hM];show(bif false then none else fN (bif Nat.ble 0 (Nat.add 0 l.length)then Nat.add 0 l.length else 0) fun fz=>some (M.set b (.cells 5 n false fz false [] (iY (l.map bV)))))=_;rw[cond_false,aN,bL];by_cases h:0≤0+l.length
  ·rw[ae (show 0≤Nat.add 0 l.length from h),ac h];rfl
  ·exact absurd (aF _) h
 show(match jp M b 0 l.length with|some M=>fN l.length fun n=>fN (bH l) fun s=>RC.k (.s n s) M c|none=> .f)=_
 rw[hf]
 show(fN l.length fun n=>fN (bH l) fun s=>RC.k (.s n s) _ c)=_
 rw[aN,aN];rfl
theorem r53(Φ:Nat→Option CF)(h:Φ 53=some c53){F:RO}{M0 M:Mem}{c0 c b bb:Nat}{l:List UInt8}(ok:d9 F M c)(hg:Gr c0 M0 c M)(hb:j9 M c0 c b bb l)(hl:l.length≤1099511627776):
 Calls Φ F 53 [.p b 0] M c fun r M' c'=>r=sV l∧Gr c0 M0 c' M'∧c≤c'∧(∀x,x≠bb→M'.get x=M.get x):=by
 obtain⟨k1,k2,k3,a,v,hM,ha,hbuf⟩:=hb
 refine az h ?_
 have l1:load1 F M b 1=some v:=aj hM 1
 obtain⟨o1,o2,o1003⟩:=A2 hbuf
 rcases hbuf with⟨rfl,rfl⟩|⟨a1,a2,n,⟨a3,a4⟩,rfl,a5⟩
 ·have hf:=ok.free;rw[bU]at o1003;simp only[WX,Nat.reducePow,Nat.reduceDiv,Nat.reduceMod,Nat.reduceBEq,kJ,B53,rL,j6,l1,XL,bi6,o1003,uy,ci7,Int.ofNat_zero,hf];exact⟨rfl,hg.up (by omega),by omega,fun _ _=>trivial⟩
 ·by_cases hl0:l=[]
  ·subst hl0;have hf:=ok.free;rw[bU]at o1003;simp only[WX,Nat.reducePow,Nat.reduceDiv,Nat.reduceMod,Nat.reduceBEq,kJ,B53,rL,j6,l1,XL,b12 a4,o1003,uy,bj9,Int.ofNat_zero,hf];exact⟨rfl,hg.up (by omega),by omega,fun _ _=>trivial⟩
  ·obtain⟨y,hy⟩:=ar1 (F:=F) (c+12) a5 a3 hl0 hl;have hf:bF (M.set bb y) F=true:=(ok.put (y:=y) a2 a5).free;simp only[WX,Nat.reducePow,Nat.reduceDiv,Nat.reduceMod,Nat.reduceBEq,kJ,B53,rL,j6,l1,XL,b12 a4,o1003,uy,hy,hf];exact⟨(hg.set bb y a1 a2 (ah _)).up (by omega),by omega,fun x hx=>aK _ _ hx⟩
abbrev cf9(u:List (Option V))(x0 x1 x5 x39 x40 x41:V):T:=(.n (.n (.n (.n (am u 63 31 95 15 79 47 111) (uO u 7) (.n (.n (ju u 71) (some x39) (ju u 103)) (uO u 23) (hU u 87 55 119))) (uO u 3) (.n (am u 67 35 99 19 83 51 115) (uO u 11) (am u 75 43 107 27 91 59 123))) (some x1) (.n (.n (am u 65 33 97 17 81 49 113) (uO u 9) (.n (.n (ju u 73) (some x41) (ju u 105)) (uO u 25) (hU u 89 57 121))) (some x5) (.n (am u 69 37 101 21 85 53 117) (uO u 13) (am u 77 45 109 29 93 61 125)))) (some x0) (.n (.n (.n (am u 64 32 96 16 80 48 112) (uO u 8) (.n (.n (ju u 72) (some x40) (ju u 104)) (uO u 24) (hU u 88 56 120))) (uO u 4) (.n (am u 68 36 100 20 84 52 116) (uO u 12) (am u 76 44 108 28 92 60 124))) (uO u 2) (.n (.n (am u 66 34 98 18 82 50 114) (uO u 10) (am u 74 42 106 26 90 58 122)) (uO u 6) (.n (am u 70 38 102 22 86 54 118) (uO u 14) (am u 78 46 110 30 94 62 126)))))
abbrev cg0(u:List (Option V))(x0 x1 x8 x63 x64 x65:V):T:=(.n (.n (.n (.n (.n (.n (.n .e (some x63) .e) (uO u 31) (ju u 95)) (uO u 15) (hU u 79 47 111)) (uO u 7) (am u 71 39 103 23 87 55 119)) (uO u 3) (.n (am u 67 35 99 19 83 51 115) (uO u 11) (am u 75 43 107 27 91 59 123))) (some x1) (.n (.n (.n (.n (.n .e (some x65) .e) (uO u 33) (ju u 97)) (uO u 17) (hU u 81 49 113)) (uO u 9) (am u 73 41 105 25 89 57 121)) (uO u 5) (.n (am u 69 37 101 21 85 53 117) (uO u 13) (am u 77 45 109 29 93 61 125)))) (some x0) (.n (.n (.n (.n (.n (.n .e (some x64) .e) (uO u 32) (ju u 96)) (uO u 16) (hU u 80 48 112)) (some x8) (am u 72 40 104 24 88 56 120)) (uO u 4) (.n (am u 68 36 100 20 84 52 116) (uO u 12) (am u 76 44 108 28 92 60 124))) (uO u 2) (.n (.n (am u 66 34 98 18 82 50 114) (uO u 10) (am u 74 42 106 26 90 58 122)) (uO u 6) (.n (am u 70 38 102 22 86 54 118) (uO u 14) (am u 78 46 110 30 94 62 126)))))
def aR5:CC:=(.reg [(qq a4 (.mv (.c (.s 0 0))))])
def aR6:CC:=(.reg [(qq cF (.mv z0)),(qq de (.ln .slice cI))])
def aR7:CC:=(.reg [(qq dm (.bi .eql cT (x6 0))),(qq cO (.mv dB))])
def aR8:CC:=(.reg [(qq a4 (.mv (.c (.s 0 0))))])
def aR9:CC:=(.reg [(qq dJ (.bi .eql cT (x6 1))),(qq dC (.mv ec))])
def aS0:CC:=(.reg [(qq dX (.mv z0)),(qq dS (.iaS 1 dL (x6 0))),(qq dN (.ld1 eA)),(qq a4 (.mv fk))])
def aS1:CC:=(.seq aR9 (.cond dy (.seq aS0 .ret) .skip))
def aS2:CC:=(.seq aR7 (.cond cK (.seq aR8 .ret) aS1))
def aS3:CC:=(.reg [(qq a5 (.mv (x6 0)))])
def W4:CC:=(.reg [(qq fi (.mv z1)),(qq eL (.ln .str fl)),(qq eM (.bi .gtr fT (x6 0)))])
def W5:CC:=(.reg [(qq ew (.mv z1)),(qq dG (.ln .str fW)),(qq eE (.mv z0)),(qq eU (.ln .slice fY)),(qq fC (.bi .sub ib (x6 1))),(qq fU (.bi .quo (x6 9223372036854775807) gi)),(qq fp (.bi .geq fX ic))])
def W6:CC:=(.reg [(qq fD (.mki 9 (.c (.s 36 232023140547069528372253906381035003553488466437483087989658184371904395368843875349619)))),⟨none,.q (.bad),none⟩])
def W7:CC:=(.seq W5 (.cond ij W6 .skip))
def W8:CC:=(.reg [(qq iF (.mv z5)),(qq gu (.mv z1)),(qq gH (.ln .str jh)),(qq ga (.mv z0)),(qq iG (.ln .slice jz)),(qq jb (.bi .sub jj (x6 1))),(qq iP (.bi .mul ji k5)),(qq ia (.bi .add iE jk)),(qq a5 (.mv j1))])
def W9:CC:=(.cond fm (.seq W7 W8) .skip)
def Wa:CC:=(.reg [(qq j0 (.mv z0)),(qq ie (.ln .slice k8)),(qq jB (.mv (x6 0)))])
def Wb:CC:=(.reg [(qq jc (.bi .lss kh kg))])
def Wc:CC:=(.reg [(qq jd (.iaS 1 k8 kh)),(qq jm (.ld1 ll)),(qq a7 (.mv lm))])
def Wd:CC:=(.reg [(qq k6 (.mv z7)),(qq kS (.ln .str lr)),(qq kT (.mv z5)),(qq jv (.bi .sub (x6 9223372036854775807) lq)),(qq gj (.bi .gtr mJ mw))])
def We:CC:=(.reg [(qq mh (.mki 9 (.c (.s 36 232023140547069528372253906381035003553488466437483087989658184371904395368843875349619)))),⟨none,.q (.bad),none⟩])
def Wg:CC:=(.seq Wd (.cond mf We .skip))
def Wh:CC:=(.reg [(qq k7 (.mv z5)),(qq kd (.mv z7)),(qq iH (.ln .str oq)),(qq mB (.bi .add nN nO)),(qq a5 (.mv oF))])
def Wi:CC:=(.reg [(qq mC (.bi .add kh (x6 1))),(qq jB (.mv ot))])
def Wj:CC:=(.seq (.cond kK .skip (.exit 1)) (.seq (.block 2 (.seq Wc (.seq Wg Wh))) Wi))
def Wk:CC:=(.reg [(aa a8 (.al 96 [.p0,.l0]))])
def Wl:CC:=(.reg [(qq kW (.mv z5)),(ee kL (.call 115 [z8,nP]))])
def Wm:CC:=(.reg [(qq mD (.mv z0)),(qq oy (.iaS 1 p8 (x6 0))),(qq mE (.ld1 pV)),(ee mF (.call 48 [z8,pW]))])
def Wn:CC:=(.reg [(qq oz (.mv z0)),(qq mR (.slL 1 rp (some (x6 1)) none none)),(qq rt (.ln .slice rq)),(qq qb (.mv (x6 0)))])
def Wo:CC:=(.reg [(qq sK (.bi .lss sH xn))])
def Wq:CC:=(.cond uz .skip (.exit 3))
def Wr:CC:=(.reg [(qq pc (.iaS 1 rq sH)),(qq mi (.ld1 xp)),(qq cg (.mv xq))])
def Ws:CC:=(.reg [(qq pU (.mv z1)),(ee tL (.call 48 [z8,xr]))])
def Wt:CC:=(.reg [(qq sL (.mv cm)),(ee pd (.call 48 [z8,xD]))])
def Wu:CC:=(.reg [(qq ub (.bi .add sH (x6 1))),(qq qb (.mv xE))])
def Wv:CC:=(.seq Wq (.seq (.block 4 (.seq Wr (.seq Ws Wt))) Wu))
def Ww:CC:=(.reg [(ee uc (.call 53 [z8])),(qq a4 (.mv zC))])
def Wx:CC:=(.seq (.seq Wn (.block 3 (.loop (.seq Wo Wv)))) (.seq Ww .ret))
def Wy:CC:=(.seq (.seq Wa (.block 1 (.loop (.seq Wb Wj)))) (.seq Wk (.seq Wl (.seq Wm Wx))))
def Wz:CC:=(.seq (.seq aR6 (.block 0 aS2)) (.seq aS3 (.seq (.seq W4 W9) Wy)))
def c78:CF:= .mk 7 [.t a4] (.seq aR5 Wz)
theorem e78(v0 v1:V):bh 7 [v0,v1]=(.n (.n zn (some v1) zn) (some v0) xC):=rfl
def PS:=ai @e78 (ai (wu aR5.eq_1) (ai (wu aR6.eq_1) (ai (wu aR7.eq_1) (ai (wu aR8.eq_1) (ai (wu aR9.eq_1) (ai (wu aS0.eq_1) (ai (wu aS1.eq_1) (ai (wu aS2.eq_1) (ai (wu aS3.eq_1) (ai (wu W4.eq_1) (ai (wu W5.eq_1) (ai (wu W6.eq_1) (ai (wu W7.eq_1) (ai (wu W8.eq_1) (ai (wu W9.eq_1) (ai (wu Wa.eq_1) (ai (wu Wb.eq_1) (ai (wu Wc.eq_1) (ai (wu Wd.eq_1) (ai (wu We.eq_1) (ai (wu Wg.eq_1) (ai (wu Wh.eq_1) (ai (wu Wi.eq_1) (ai (wu Wj.eq_1) (ai (wu Wk.eq_1) (ai (wu Wl.eq_1) (ai (wu Wm.eq_1) (ai (wu Wn.eq_1) (ai (wu Wo.eq_1) (ai (wu Wq.eq_1) (ai (wu Wr.eq_1) (ai (wu Ws.eq_1) (ai (wu Wt.eq_1) (ai (wu Wu.eq_1) (ai (wu Wv.eq_1) (ai (wu Ww.eq_1) (ai (wu Wx.eq_1) (ai (wu Wy.eq_1) (wu Wz.eq_1)))))))))))))))))))))))))))))))))))))))
def fP(l:List (List UInt8)):List (List V):=l.map fun w=>[sV w]
theorem so{F:RO}{M:Mem}{c:Nat}{v:V}{l:List (List UInt8)}(hs:cj F M c 1 v (fP l))(i:Nat)(hi:i<l.length):
 ∃b o,b<c∧(∀k,jP 1 v (.i k (i:Int))=some (.p b o))∧load1 F M b o=some (sV l[i]):=
 cj.one hs i (by simpa [fP]using hi) (by simp[fP])
theorem ML{F:RO}{M:Mem}{c:Nat}{v:V}{l:List (List UInt8)}(hs:cj F M c 1 v (fP l)):oD v=some (.i .i64 (l.length:Int)):=by
 have:=hs.len;rwa [fP,List.length_map]at this
def oa:List (List UInt8)→Nat
 |[]=>0
 |w::r=>w.length+1+oa r
theorem wJ:∀(l:List (List UInt8)) (k:Nat),oa (l.take k)≤oa l
 |[],k=>by rw[List.take_nil];exact ah _
 |w::r,0=>aF _
 |w::r,k+1=>by rw[List.take_succ_cons,oa,oa];have:=wJ r k;omega
theorem wI:∀(a b:List (List UInt8)),oa (a++b)=oa a+oa b
 |[],b=>by rw[List.nil_append,oa];omega
 |w::r,b=>by rw[List.cons_append,oa,oa,wI r b];omega
theorem MM:∀(a:List (List UInt8)),a.length≤oa a
 |[]=>ah _
 |w::r=>by rw[aX,oa];have:=MM r;omega
theorem AG{l:List (List UInt8)}{i:Nat}(h:i<l.length):l[i].length≤oa l:=by
 induction l generalizing i with
 |nil=>cases h
 |cons w r ih=>
  cases i with
  |zero=>rw[List.getElem_cons_zero,oa];omega
  |succ i=>rw[List.getElem_cons_succ,oa];have:=ih (i:=i) (by simpa using h);omega
def di(s:List UInt8):List (List UInt8)→List UInt8
 |[]=>[]
 |w::r=>w++(r.map fun x=>s++x).flatten
theorem yR(s w:List UInt8)(r:List (List UInt8))(x:List UInt8):di s (w::(r++[x]))=di s (w::r)++s++x:=by
 simp[di,List.map_append,List.flatten_append]
theorem Yk(s:List UInt8):∀(w:List UInt8) (r:List (List UInt8)),(di s (w::r)).length≤oa (w::r)+s.length*r.length:=by
 intro w r
 induction r generalizing w with
 |nil=>simp[di,oa]
 |cons x r ih=>
  have:=ih x;simp only[di,oa,List.map_cons,List.flatten_cons,bw,aX]at this⊢;rw[Nat.mul_add];omega
theorem yQ(s:List UInt8)(l:List (List UInt8)):(di s l).length≤oa l+s.length*l.length:=by
 cases l with
 |nil=>simp[di]
 |cons w r=>have:=Yk s w r;rw[aX,Nat.mul_add];omega
theorem Ow(s:List UInt8)(L:List (List UInt8))(i:Nat)(h:i+1<L.length):di s (L.take (i+1+1))=di s (L.take (i+1))++s++L[i+1]:=by
 cases L with
 |nil=>cases h
 |cons w r=>
  rw[List.take_succ_cons,List.take_succ_cons,List.getElem_cons_succ,List.take_succ_eq_append_getElem (by simpa using h),yR]
theorem Lw(a b:Int)(h1: -9223372036854775808≤a-b)(h2:a-b<9223372036854775808):bD .sub (.i .i64 a) (.i .i64 b)=some (.i .i64 (a-b)):=by
 rw[eF,fA h1 h2]
theorem ak1(a b:Nat)(hb:0<b)(ha:a<9223372036854775808):bD .quo (.i .i64 (a:Int)) (.i .i64 (b:Int))=some (.i .i64 ((a/b:Nat):Int)):=by
 have hle:a/b≤a:=Nat.div_le_self a b
 show(ml .i64 (a:Int) (b:Int)).val=_
 unfold ml
 rw[cB,ag (show¬((b:Int)=0) by omega),cond_false,dW,iZ,←Int.ofNat_tdiv]
 generalize a/b=q at hle⊢
 rw[fA (by omega) (by omega)];rfl
theorem r78(Φ:Nat→Option CF)(h:Φ 78=some c78)(h115:Φ 115=some Ew)(h48:Φ 48=some c48)(h53:Φ 53=some c53)(h91:Φ 91=some PD)(h145:Φ 145=some C9){F:RO}{M:Mem}{c:Nat}{v:V}{l:List (List UInt8)}{s:List UInt8}(ok:d9 F M c)(hs:cj F M c 1 v (fP l))
 (hl:oa l≤4000000) (hs1:1≤s.length) (hs2:s.length≤100):Calls Φ F 78 [v,sV s] M c fun r M' c'=>r=sV (di s l)∧Gr c M c' M':=by
 refine az h ?_
 have hn:=ML hs
 have hll:=MM l
 match l,hs,hn,hl,hll with
 |[],hs,hn,hl,hll=>
  rw[bU]at hn;simp only[WX,PS,hn,Int.ofNat_zero];exact⟨rfl,Gr.refl ok⟩
 |[w],hs,hn,hl,hll=>
  obtain⟨b1,o1,_,ia1,ld1⟩:=so hs 0 (by simp);have ia1:=ia1 .i64;rw[List.length_singleton]at hn;rw[Int.ofNat_zero]at ia1;rw[List.getElem_cons_zero]at ld1;simp only[WX,Int.reduceEq,PS,hn,Int.ofNat_one,ia1,ld1];exact⟨by simp[di],Gr.refl ok⟩
 |w0::w1::r,hs,hn,hl,hll=>
  generalize hL:w0::w1::r=L at hs hn hl hll⊢;have hL2:2≤L.length:=by rw[←hL];simp
  have d0:decide ((L.length:Int)=0)=false:=ag (by omega);have d1:decide ((L.length:Int)=1)=false:=ag (by omega);have d2:decide ((0:Int)<(s.length:Int))=true:=ae (by omega);have sb:bD .sub (.i .i64 (L.length:Int)) (.i .i64 1)=some (.i .i64 ((L.length-1:Nat):Int)):=by rw[Lw _ _ (by omega) (by omega)];congr 2;omega
  have qu:=ak1 9223372036854775807 (L.length-1) (by omega) (by omega);rw[show((9223372036854775807:Nat):Int)=9223372036854775807 from rfl]at qu;have hq:922337203685≤9223372036854775807/(L.length-1):=by
   rw[Nat.le_div_iff_mul_le (by omega)];have:922337203685*(L.length-1)≤922337203685*4000000:=Nat.mul_le_mul_left _ (by omega);omega
  have d3:decide (((9223372036854775807/(L.length-1):Nat):Int)≤(s.length:Int))=false:=ag (by omega);have hmb:s.length*(L.length-1)≤100*4000000:=Nat.mul_le_mul hs2 (by omega);have mu:bD .mul (.i .i64 (s.length:Int)) (.i .i64 ((L.length-1:Nat):Int))=some (.i .i64 ((s.length*(L.length-1):Nat):Int)):=by
   have:((s.length:Int)*((L.length-1:Nat):Int))=((s.length*(L.length-1):Nat):Int):=by rw[Int.natCast_mul]
   rw[qA _ _ (by rw[this];omega) (by rw[this];omega),this]
  have ad:bD .add (.i .i64 0) (.i .i64 ((s.length*(L.length-1):Nat):Int))=some (.i .i64 ((s.length*(L.length-1):Nat):Int)):=by rw[aO _ _ (by omega) (by omega)];simp
  simp only[WX,PS,hn,d0,d1,d2,sb,qu,d3,mu,ad];obtain⟨I1,hI1⟩:∃I:Nat→St→Prop,∀n s',I n s'↔(∃(i a:Nat) (u:List (Option V)),n=L.length-i∧i≤L.length∧s'= .mk ((cf9 u v (sV s) (.i .i64 (a:Int)) v (.i .i64 (L.length:Int)) (.i .i64 (i:Int)))) [] M c∧a≤400000000+oa (L.take i)):=⟨fun n s'=>_,fun _ _=>Iff.rfl⟩
  refine bG I1 ?_ L.length _ ((hI1 _ _).2 ⟨0,s.length*(L.length-1),(G2 (X2 (X1 (G1 (bO (X1 (G2 (G1 (aM (bE (X4 (X1 [])))))))))))),rfl,aF _,rfl,by omega⟩);intro n s' hIs;obtain⟨i,a,u,rfl,hi,rfl,ha⟩:=(hI1 _ _).1 hIs;clear hIs;have htk:=wJ L i;by_cases hlt:i<L.length
  ·have e1:decide ((i:Int)<(L.length:Int))=true:=ae (by omega);obtain⟨b1,o1,_,ia1,ld1⟩:=so hs i hlt;have hge:=AG hlt;have sb2:bD .sub (.i .i64 9223372036854775807) (.i .i64 (a:Int))=some (.i .i64 (9223372036854775807-(a:Int))):=Lw _ _ (by omega) (by omega);have e2:decide ((9223372036854775807-(a:Int))<(L[i].length:Int))=false:=ag (by omega);have ad2:bD .add (.i .i64 (a:Int)) (.i .i64 (L[i].length:Int))=some (.i .i64 ((a+L[i].length:Nat):Int)):=by rw[aO _ _ (by omega) (by omega)];simp
   have q8:bD .add (.i .i64 (i:Int)) (.i .i64 1)=some (.i .i64 ((i+1:Nat):Int)):=by rw[aO _ _ (by omega) (by omega)];simp
   simp only[WX,PS,e1,ia1,ld1,sb2,e2,ad2,q8];refine⟨L.length-(i+1),by omega,(hI1 _ _).2 ⟨i+1,a+L[i].length,(G2 (X2 (X1 (G1 (bO (X1 (G2 (G1 (aM (bE (X4 (X1 [])))))))))))),rfl,by omega,rfl,?_⟩⟩;rw[List.take_succ_eq_append_getElem hlt,wI,oa,oa];omega
  ·have e1:decide ((i:Int)<(L.length:Int))=false:=ag (by omega);have gr0:Gr c M (c+1) (M.set c (ax 96 [.p0,.l0])):=(Gr.refl ok).set c _ (ah _) (aL _) (aP _);have ok0:=gr0.ok ok;simp only[WX,PS,e1];refine av ((cd3 Φ h115 h91 h145 ok0 gr0 (ah _) (aL _) (au _ _ _) a (by omega)).mono ?_);rintro v1 M1 c1 ⟨bb,hb1,gr1,hle1,hfr1⟩;have cD:=gr1.ok ok;have hs1':=hs.grow gr1;obtain⟨b1,o1,hb1c,ia1,ld1⟩:=so hs1' 0 (by omega);have ia1:=ia1 .i64;rw[Int.ofNat_zero]at ia1;simp only[WX,PS,ia1,ld1];have hg0:=AG (l:=L) (i:=0) (by omega);refine av ((r48 Φ h48 h91 cD gr1 hb1 L[0] (jt (by simp only[bU];omega))).mono ?_);rintro v2 M2 c2 ⟨bb2,hb2,gr2,hle2,_,_⟩;rw[List.nil_append]at hb2;have ok2:=gr2.ok ok;obtain⟨v3,⟨_,_,hsl,_⟩,hs3⟩:=bi8 (lo:=1) (hi:=(fP L).length) hs (by simp[fP];omega) (ah _);have hsl':ap9 1 v (some (.i .i64 1)) none none=some v3:=congrArg QR.val (hsl rfl);have hs3':cj F M c 1 v3 (fP (L.drop 1)):=by
    rw[List.take_length,fP,←List.map_drop]at hs3;exact hs3
   have hn3:=ML hs3';rw[bP]at hn3;simp only[WX,PS,hsl',hn3];obtain⟨I2,hI2⟩:∃I:Nat→St→Prop,∀n s',I n s'↔(∃(i:Nat) (M3:Mem) (c1003 bb3:Nat) (u:List (Option V)),n=L.length-1-i∧i≤L.length-1∧s'= .mk ((cg0 u v (sV s) (.p c 0) v3 (.i .i64 ((L.length-1:Nat):Int)) (.i .i64 (i:Int)))) [] M3 c1003∧j9 M3 c c1003 c bb3 (di s (L.take (i+1)))∧Gr c M c1003 M3):=⟨fun n s'=>_,fun _ _=>Iff.rfl⟩
   refine bG I2 ?_ (L.length-1) _ ((hI2 _ _).2 ⟨0,M2,c2,bb2,(G2 (X4 (X2 (G1 (bO (bE (X4 (X2 (G2 (G1 (bO (bE (X8 (X4 (X1 []))))))))))))))),rfl,aF _,rfl,?_,gr2⟩)
   ·intro n s' hIs;obtain⟨i,M3,c1003,bb3,u,rfl,hi,rfl,hb3,gr3⟩:=(hI2 _ _).1 hIs;clear hIs;have hs4:=hs3'.grow gr3;have LV:=gr3.ok ok;have hj:=yQ s (L.take (i+1));have hj2:=wJ L (i+1);have hj3:s.length*(L.take (i+1)).length≤100*4000000:=Nat.mul_le_mul hs2 (by rw[List.length_take];omega);by_cases hlt:i<L.length-1
    ·have e1:decide ((i:Int)<((L.length-1:Nat):Int))=true:=ae (by omega);obtain⟨b1004,o1004,hb4,ia4,ld4⟩:=so hs4 i (by rw[bP];omega);have hge:(L.drop 1)[i]'(by rw[bP];omega)=L[i+1]:=by rw[List.getElem_drop];congr 1;omega
     rw[hge]at ld4;have hgl:=AG (l:=L) (i:=i+1) (by omega);have q8:bD .add (.i .i64 (i:Int)) (.i .i64 1)=some (.i .i64 ((i+1:Nat):Int)):=by rw[aO _ _ (by omega) (by omega)];simp
     simp only[WX,PS,e1,ia4,ld4];refine av ((r48 Φ h48 h91 LV gr3 hb3 s (jt (by omega))).mono ?_);rintro v5 M5 c1005 ⟨bb5,hb5,gr5,hle5,_,_⟩;have ok5:=gr5.ok ok;simp only[WX,PS];refine av ((r48 Φ h48 h91 ok5 gr5 hb5 L[i+1] (jt (by rw[bw];omega))).mono ?_);rintro v6 M6 c1006 ⟨bb6,hb6,gr6,hle6,_,_⟩;simp only[WX,PS,q8];refine⟨L.length-1-(i+1),by omega,(hI2 _ _).2 ⟨i+1,M6,c1006,bb6,(G2 (X4 (X2 (G1 (bO (bE (X4 (X2 (G2 (G1 (bO (bE (X8 (X4 (X1 []))))))))))))))),rfl,by omega,rfl,?_,gr6⟩⟩;rw[Ow s L i (by omega)];exact hb6
    ·have e1:decide ((i:Int)<((L.length-1:Nat):Int))=false:=ag (by omega);simp only[WX,PS,e1];refine av ((r53 Φ h53 LV gr3 hb3 (by omega)).mono ?_);rintro v5 M5 c1005 ⟨rfl,gr5,_,_⟩;simp only[WX];refine⟨?_,gr5⟩;rw[List.take_of_length_le (by omega)]
   ·rw[show L.take (0+1)=[L[0]] by rw[List.take_succ_eq_append_getElem (show 0<L.length by omega)];rfl]
    simpa [di]using hb2
def dA(n:Nat):UInt8:=if n<10 then UInt8.ofNat (48+n)else UInt8.ofNat (87+n)
def ix(l:List UInt8):List UInt8:=l.flatMap fun b=>[dA (b.toNat/16),dA (b.toNat%16)]
def iU(l:List UInt8):List UInt8:=if l=[]then[46]else ix l
theorem Cw(n m:Nat)(hn:n<16)(hm:m<16)(h:dA n=dA m):n=m:=by
 have:∀n,n<16→ ∀m,m<16→dA n=dA m→n=m:=by decide
 exact this n hn m hm h
theorem Cu:∀(l l':List UInt8),ix l=ix l'→l=l'
 |[],[],_=>rfl
 |[],b::r,h=>by cases h
 |b::r,[],h=>by cases h
 |b::r,b'::r',h=>by
  unfold ix at h;rw[List.flatMap_cons,List.flatMap_cons]at h;injection h with h1 h
  injection h with h2 h
  have hb:=UInt8.toNat_lt b;have hb':=UInt8.toNat_lt b';have e1:=Cw _ _ (by omega) (by omega) h1;have e2:=Cw _ _ (by omega) (by omega) h2;have e1003:b=b':=UInt8.toNat_inj.1 (by omega);rw[e1003,Cu r r' h]
theorem Ls:∀(l:List UInt8),ix l≠[46]
 |[],h=>by cases h
 |b::r,h=>by
  unfold ix at h;rw[List.flatMap_cons]at h;injection h with h1 h
  cases h
theorem Cv(l l':List UInt8)(h:iU l=iU l'):l=l':=by
 unfold iU at h
 split at h
 ·rename_i e;split at h
  ·rename_i e';rw[e,e']
  ·exact absurd h.symm (Ls _)
 ·split at h
  ·exact absurd h (Ls _)
  ·exact Cu _ _ h
theorem jO(l:List UInt8):(ix l).length=2*l.length:=by
 induction l with
 |nil=>rfl
 |cons b r ih=>unfold ix at ih⊢;rw[List.flatMap_cons,bw,ih];simp;omega
theorem C4(n:Nat):bV (UInt8.ofNat n)= .i .u8 ((n%256:Nat):Int):=by
 unfold bV;rw[UInt8.toNat_ofNat']
def Uv:CC:=(.reg [(qq a4 (.mv (x6 0)))])
def Uw:CC:=(.reg [(qq a5 (.mv z0)),(qq a6 (.mv z1)),(qq a7 (.xib z5 z6)),(qq a4 (.mv z7))])
def af4:CF:= .mk 4 [.t a4] (.seq Uv (.seq Uw .ret))
theorem cz5(v0 v1:V):bh 4 [v0,v1]=(.n (.n mL (some v1) mL) (some v0) iC):=rfl
def cv4:=ai @cz5 (ai (wu Uv.eq_1) (wu Uw.eq_1))
def SE:CC:=(.reg [(qq a4 (.mv (x6 0)))])
def SF:CC:=(.reg [(qq dm (.mv z1)),(qq dC (.ln .str dB)),(qq a5 (.mv dy))])
def SG:CC:=(.reg [(qq dX (.mv z5)),(qq dS (.bi .eql dL (x6 0))),(qq dN (.mv eA)),(aU fi (.mv z1) dN),(aU eL (.mv z0) dN),(aU eM (.bi .eql fl fT) dN),(qq ew (.pk fk xT fm)),(qq dJ (.mv fW))])
def SH:CC:=(.reg [(qq a4 (.mv (x6 0)))])
def SI:CC:=(.reg [(qq eE (.mv z5)),(qq eU (.bi .eql fY (x6 1))),(qq dG (.mv ib))])
def SJ:CC:=(.reg [(qq fC (.mv z0)),(qq fU (.mv z1)),(qq fp (.ixS ic (x6 0))),(ee fD (.call 166 [gi,ij])),(qq a4 (.mv il))])
def SK:CC:=(.reg [(qq gu (.mv z5)),(qq gH (.mv z0)),(qq ga (.ln .str ji)),(qq iG (.bi .geq jh jz)),(qq iF (.mv jj))])
def SL:CC:=(.reg [(qq a4 (.mv (x6 (-1))))])
def SN:CC:=(.reg [(qq iP (.mv z5)),(qq ia (.ld1 (.c (.p 2 0)))),(qq j0 (.bi .leq jk j1)),(qq ie (.mv k8)),(ak jB (.mv z0) ie),(ak jc (.ln .str kh) ie),(ak jd (.bi .leq kK (x6 64)) ie),(qq jm (.pk kg ll xF)),(qq jb (.mv lm))])
def JJ:CC:=(.reg [(qq k6 (.mv z0)),(qq kS (.mv z1)),(qq kT (.bad)),(qq a4 (.mv lq))])
def JK:CC:=(.cond k5 (.seq JJ .ret) .skip)
def JL:CC:=(.cond iE (.seq SL .ret) (.seq SN JK))
def JM:CC:=(.cond fX (.seq SJ .ret) (.seq SK JL))
def JN:CC:=(.cond ec (.seq SH .ret) (.seq SI JM))
def JO:CC:=(.reg [(qq jv (.mv z1)),(qq gj (.ixS mw (x6 0))),(qq a6 (.mv mf))])
def JP:CC:=(.reg [(qq mh (.mv z1)),(qq k7 (.ixS mM (x6 1))),(qq a7 (.mv nN))])
def JQ:CC:=(.reg [(qq a8 (.mv (x6 0)))])
def JR:CC:=(.reg [(qq kd (.mv z0)),(qq iH (.ln .str oq)),(qq mB (.mv z5)),(qq mC (.bi .sub nO oF)),(qq kW (.bi .add ot (x6 1))),(qq a9 (.mv nP))])
def JS:CC:=(.reg [(qq cg (.mv (x6 0)))])
def JT:CC:=(.reg [(qq kL (.mv z8)),(qq mD (.mv z9)),(qq oy (.bi .lss p7 p8))])
def JU:CC:=(.seq JT (.cond pV .skip (.exit 1)))
def JV:CC:=(.reg [(qq mE (.mv z0)),(qq mF (.mv z8)),(qq oz (.ixS pW ry)),(qq mR (.mv z6)),(qq rt (.bi .neq rp rq))])
def JW:CC:=(.reg [(qq qb (.mv z0)),(qq sK (.mv z8)),(qq pc (.bi .add uz (x6 1))),(qq mi (.mv z9)),(qq pU (.slS sH (some xp) (some xq))),(qq tL (.mv z6)),(ee sL (.call 166 [xr,xu])),(qq cF (.mv xD))])
def JX:CC:=(.reg [(qq pd (.mv cI)),(qq ub (.bi .lss yf (x6 0)))])
def JY:CC:=(.reg [(qq a4 (.mv (x6 (-1))))])
def JZ:CC:=(.cond xE (.seq JY .ret) .skip)
def K0:CC:=(.reg [(qq uc (.mv z8)),(qq sM (.mv cI)),(qq ru (.bi .add zD (x6 1))),(qq xN (.bi .add zC zE)),(qq a8 (.mv BD))])
def K1:CC:=(.cond xn (.seq JW (.seq (.seq JX JZ) K0)) .skip)
def K2:CC:=(.reg [(qq BB (.mv z0)),(qq BC (.mv z8)),(qq xO (.bi .add GT (x6 1))),(qq DB (.ixS BE GU)),(qq DC (.mv z7)),(qq DD (.bi .eql PF Nx)),(qq rC (.mv PG)),(ak DR (.mv z0) rC),(ak DT (.mv z8) rC),(ak DU (.mv z8) rC),(ak DV (.mv z5) rC),(ak xA (.bi .add PH PI) rC),(ak DW (.slS Pz (some Ny) (some PJ)) rC),(ak DX (.mv z1) rC),(ak xP (.bi .eql Nz NA) rC),(qq DY (.pk GV PK xF))])
def K3:CC:=(.reg [(qq BV (.mv z8)),(qq a4 (.mv PM))])
def K4:CC:=(.cond PL (.seq K3 .ret) .skip)
def K5:CC:=(.reg [(qq DE (.mv z8)),(qq H5 (.bi .add z95 (x6 1))),(qq a8 (.mv NB))])
def K6:CC:=(.reg [(qq H6 (.mv cm)),(qq H7 (.bi .add z97 (x6 1))),(qq cg (.mv z98))])
def K7:CC:=(.reg [(qq BW (.mv z5)),(qq mO (.ld1 (.c (.p 2 0)))),(qq mA (.bi .leq PN y5)),(qq mP (.mv sG)),(ak pa (.mv cm) mP),(ak qa (.mv z8) mP),(dZ tG (.call 168 [y7]) mP),(ak uE (.bi .gtr y6 y8) mP),(qq iO (.pk xj Bx xF))])
def K8:CC:=(.reg [(qq zJ (.mv z0)),(qq xK (.mv z8)),(qq xL (.slS ye (some Dr) none)),(qq tH (.mv z1)),(qq zK (.bad)),(qq de (.mv GC))])
def K9:CC:=(.reg [(qq zL (.mv cT)),(qq zM (.bi .geq Ds (x6 0)))])
def Ka:CC:=(.reg [(qq ka (.mv cT)),(qq tI (.mv z8)),(qq BK (.bi .add Du Dv)),(qq a4 (.mv GD))])
def Kb:CC:=(.cond Dt (.seq Ka .ret) .skip)
def Kc:CC:=(.reg [(qq a4 (.mv (x6 (-1))))])
def Kd:CC:=(.seq K8 (.seq (.seq K9 Kb) (.seq Kc .ret)))
def Ke:CC:=(.reg [(qq BL (.mv z5)),(qq BM (.ld1 (.c (.p 2 0)))),(qq BN (.bi .gtr GE GF)),(qq mQ (.mv GG)),(ak uF (.mv cm) mQ),(ak BO (.mv z8) mQ),(ak uG (.bi .shr GJ (.c (.i .u64 4))) mQ),(ak uH (.bi .add (x6 4) GK) mQ),(ak BP (.bi .geq GI GL) mQ),(qq ow (.pk GH GM xF)),(qq uI (.mv GN)),(ak uJ (.mv z8) uI),(ak BQ (.mv z9) uI),(ak BR (.bi .lss GP GQ) uI),(qq BS (.pk GO GR xF))])
def Kf:CC:=(.reg [(qq DO (.mv z0)),(qq xM (.mv z8)),(qq NF (.slS Px (some Py) none)),(qq NG (.mv z1)),(ee NH (.call 169 [aa1,aa3])),(qq cO (.mv aa4))])
def Kg:CC:=(.reg [(qq NI (.mv cK)),(qq zN (.bi .lss aa5 (x6 0)))])
def Kh:CC:=(.reg [(qq a4 (.mv (x6 (-1))))])
def Ki:CC:=(.cond aa6 (.seq Kh .ret) .skip)
def Kj:CC:=(.reg [(qq NJ (.mv z8)),(qq NK (.mv cK)),(qq NL (.bi .add aa7 aa8)),(qq a4 (.mv aa9))])
def Kk:CC:=(.seq Kf (.seq (.seq Kg Ki) (.seq Kj .ret)))
def Kl:CC:=(.cond GS Kk .skip)
def Km:CC:=(.cond y9 Kd (.seq Ke Kl))
def Ko:CC:=(.seq (.seq K2 K4) (.seq K5 (.seq K6 (.seq K7 Km))))
def Kp:CC:=(.seq JU (.block 2 (.seq (.seq JV K1) Ko)))
def Kq:CC:=(.reg [(qq a4 (.mv (x6 (-1))))])
def Kr:CC:=(.seq JS (.seq (.block 1 (.loop Kp)) (.seq Kq .ret)))
def Ks:CC:=(.seq JO (.seq JP (.seq JQ (.seq JR Kr))))
def Kt:CC:=(.seq SF (.seq (.block 0 (.seq SG JN)) Ks))
def ae9:CF:= .mk 8 [.t a4] (.seq SE Kt)
theorem cy6(v0 v1:V):bh 8 [v0,v1]=(.n (.n xC (some v1) xC) (some v0) sk7):=rfl
def bA4:=ai @cy6 (ai (wu SE.eq_1) (ai (wu SF.eq_1) (ai (wu SG.eq_1) (ai (wu SH.eq_1) (ai (wu SI.eq_1) (ai (wu SJ.eq_1) (ai (wu SK.eq_1) (ai (wu SL.eq_1) (ai (wu SN.eq_1) (ai (wu JJ.eq_1) (ai (wu JK.eq_1) (ai (wu JL.eq_1) (ai (wu JM.eq_1) (ai (wu JN.eq_1) (ai (wu JO.eq_1) (ai (wu JP.eq_1) (ai (wu JQ.eq_1) (ai (wu JR.eq_1) (ai (wu JS.eq_1) (ai (wu JT.eq_1) (ai (wu JU.eq_1) (ai (wu JV.eq_1) (ai (wu JW.eq_1) (ai (wu JX.eq_1) (ai (wu JY.eq_1) (ai (wu JZ.eq_1) (ai (wu K0.eq_1) (ai (wu K1.eq_1) (ai (wu K2.eq_1) (ai (wu K3.eq_1) (ai (wu K4.eq_1) (ai (wu K5.eq_1) (ai (wu K6.eq_1) (ai (wu K7.eq_1) (ai (wu K8.eq_1) (ai (wu K9.eq_1) (ai (wu Ka.eq_1) (ai (wu Kb.eq_1) (ai (wu Kc.eq_1) (ai (wu Kd.eq_1) (ai (wu Ke.eq_1) (ai (wu Kf.eq_1) (ai (wu Kg.eq_1) (ai (wu Kh.eq_1) (ai (wu Ki.eq_1) (ai (wu Kj.eq_1) (ai (wu Kk.eq_1) (ai (wu Kl.eq_1) (ai (wu Km.eq_1) (ai (wu Ko.eq_1) (ai (wu Kp.eq_1) (ai (wu Kq.eq_1) (ai (wu Kr.eq_1) (ai (wu Ks.eq_1) (wu Kt.eq_1)))))))))))))))))))))))))))))))))))))))))))))))))))))))
def Qr:CC:=(.reg [(qq a4 (.mv (.c (.s 0 0)))),(qq a5 (.mv (.c (.s 0 0)))),(qq a6 (.mv xF))])
def Qs:CC:=(.reg [(qq a8 (.mv z0)),(qq a9 (.mv z1)),(ee cg (.call 134 [z8,z9])),(qq a7 (.mv cm))])
def Qt:CC:=(.reg [(qq cF (.mv z7)),(qq de (.bi .geq cI (x6 0)))])
def Qu:CC:=(.dreg 12 [(0,0,(qq cO (.mv z0))),(1,0,(qq dm (.mv z7))),(2,3,(qq dC (.slS cK none (some dB)))),(3,0,(qq dJ (.mv z0))),(4,0,(qq dX (.mv z7))),(5,0,(qq dS (.mv z1))),(6,32,(qq dN (.ln .str eA))),(7,112,(qq fi (.bi .add dL fk))),(8,248,(qq eL (.slS ec (some fl) none))),(9,7,(qq a4 (.mv dy))),(10,1023,(qq a5 (.mv fT))),(11,2047,(qq a6 (.mv xT)))])
def Qv:CC:=(.seq Qt (.cond cT (.seq Qu .ret) .skip))
def Qw:CC:=(.reg [(qq eM (.mv z0)),(qq a4 (.mv fm)),(qq a5 (.mv (.c (.s 0 0)))),(qq a6 (.mv xF))])
def Qx:CC:=(.seq Qr (.seq (.seq Qs Qv) (.seq Qw .ret)))
def ae7:CF:= .mk 5 [.t a4,.t a5,.t a6] Qx
theorem cx5(v0 v1:V):bh 5 [v0,v1]=(.n (.n iC (some v1) iC) (some v0) oE):=rfl
def bA2:=ai @cx5 (ai (wu Qr.eq_1) (ai (wu Qs.eq_1) (ai (wu Qt.eq_1) (ai (wu Qu.eq_1) (ai (wu Qv.eq_1) (ai (wu Qw.eq_1) (wu Qx.eq_1)))))))
def aR3:CC:=(.reg [(qq a4 (.mv (.c (.s 0 0)))),(qq a5 (.mv (.c (.s 0 0)))),(qq a6 (.mv xF))])
def aR4:CC:=(.reg [(qq a7 (.mv z0)),(qq a8 (.mv z1)),(ee a9 (.call 100 [z7,z8])),(qq cg (.ex 0 z9)),(qq cF (.ex 1 z9)),(qq de (.ex 2 z9)),(qq a4 (.mv cm)),(qq a5 (.mv cI)),(qq a6 (.mv cT))])
def c64:CF:= .mk 4 [.t a4,.t a5,.t a6] (.seq aR3 (.seq aR4 .ret))
theorem e64(v0 v1:V):bh 4 [v0,v1]=(.n (.n mL (some v1) mL) (some v0) iC):=rfl
def B64:=ai @e64 (ai (wu aR3.eq_1) (wu aR4.eq_1))
def b79:CC:=(.reg [(qq a4 (.mv xF))])
def b80:CC:=(.reg [(qq a5 (.mv z0)),(qq a6 (.ln .str z5)),(qq a7 (.mv z1)),(qq a8 (.ln .str z7)),(qq a9 (.bi .geq z6 z8)),(qq cg (.mv z9)),(ak cF (.mv z0) cg),(ak de (.mv z1) cg),(ak cO (.ln .str cT) cg),(ak dm (.slS cI none (some cK)) cg),(ak dC (.mv z1) cg),(ak dJ (.bi .eql dB dy) cg),(qq dX (.pk cm ec xF)),(qq a4 (.mv dL))])
def bK1:CF:= .mk 5 [.t a4] (.seq b79 (.seq b80 .ret))
def b81:CC:=(.reg [(qq a4 (.mv (.c (.s 0 0))))])
def b82:CC:=(.reg [(qq a5 (.mv z0)),(qq a6 (.mv z1)),(ee a7 (.call 135 [z5,z6]))])
def b83:CC:=(.reg [(qq a8 (.mv z0)),(qq a9 (.mv z1)),(qq cg (.ln .str z9)),(qq cF (.slS z8 (some cm) none)),(qq a4 (.mv cI))])
def b84:CC:=(.seq b82 (.cond z7 (.seq b83 .ret) .skip))
def b85:CC:=(.reg [(qq de (.mv z0)),(qq a4 (.mv cT))])
def bK5:CF:= .mk 4 [.t a4] (.seq b81 (.seq b84 (.seq b85 .ret)))
def b77:CC:=(.reg [(qq a4 (.mv (.c (.s 0 0))))])
def b78:CC:=(.reg [(qq a5 (.mv z0)),(qq a6 (.mv z1)),(ee a7 (.call 139 [z5,z6])),(qq a4 (.mv z7))])
def bI5:CF:= .mk 4 [.t a4] (.seq b77 (.seq b78 .ret))
def DF:V→Option (List UInt8)
 | .s n x=>if bH (bl n x)=x then some (bl n x)else none
 |_=>none
theorem yo(l:List UInt8):DF (sV l)=some l:=by
 show(if bH (bl l.length (bH l))=bH l then some (bl l.length (bH l))else none)=_
 rw[iM,ac rfl]
theorem bg6{v:V}{l:List UInt8}(h:DF v=some l):v=sV l:=by
 unfold DF at h
 split at h
 ·rename_i n x;split at h
  ·rename_i hx;obtain rfl:=af h;show V.s n x=V.s (bl n x).length (bH (bl n x));rw[hx,eW]
  ·cases h
 ·cases h
def mG(c:UInt8):List UInt8→Nat→Option Nat
 |[],_=>none
 |x::r,i=>if x=c then some i else mG c r (i+1)
theorem Y5{c:UInt8}:∀{l:List UInt8} {i k:Nat},mG c l i=some k→i≤k∧k<i+l.length
 |[],i,k,h=>by cases h
 |x::r,i,k,h=>by
  unfold mG at h;split at h
  ·obtain rfl:=af h;simp
  ·have:=Y5 h;rw[aX];omega
theorem Lf(c:UInt8):∀(l:List UInt8) (i:Nat),mZ c.toNat l.length (bH l) i=mG c l i
 |[],i=>rfl
 |x::r,i=>by
  have hx:=UInt8.toNat_lt x;show(bif Nat.beq ((x.toNat+256*bH r)%256) c.toNat then some i else mZ c.toNat r.length ((x.toNat+256*bH r)/256) (Nat.succ i))=_;rw[show(x.toNat+256*bH r)%256=x.toNat by omega,show(x.toNat+256*bH r)/256=bH r by omega,bp,mG];by_cases h:x=c
  ·subst h;rw[ae rfl,ac rfl];rfl
  ·rw[ag (fun e=>h (UInt8.toNat_inj.1 e)),ab h,cond_false];exact Lf c r (i+1)
def cr2(x c:V):Option V:=(cS (.xib (.c x) (.c c)) [] .e .e).val
theorem ck1{F:RO}(x c:X)(M:Mem)(t:T):(cS (.xib x c) F M t).val=cr2 (x.ev t) (c.ev t):=Eq.trans rfl (Eq.refl _)
def vM:Option Nat→Int
 |some k=>(k:Int)
 |none=> -1
theorem by5(l:List UInt8)(c:UInt8):cr2 (sV l) (bV c)=some (.i .i64 (vM (mG c l 0))):=by
 show(FC (mZ (Nat.mod c.toNat 256) l.length (bH l) 0)).val=_
 have:=UInt8.toNat_lt c
 rw[show Nat.mod c.toNat 256=c.toNat from Nat.mod_eq_of_lt (by omega),Lf]
 cases mG c l 0<;>rfl
theorem cK4(Φ:Nat→Option CF)(h:Φ 166=some af4)(l:List UInt8)(b:UInt8)(ct:Nat):To Φ 166 [sV l,bV b] ct (.i .i64 (vM (mG b l 0))):=by
 refine fg h ?_
 simp only[WX,cv4,ck1,by5]
def Qq:V→Option UInt8
 | .i .u8 (.ofNat n)=>if n<256 then some (UInt8.ofNat n)else none
 |_=>none
theorem Hf(b:UInt8):Qq (bV b)=some b:=by
 have:=UInt8.toNat_lt b
 show(if b.toNat<256 then some (UInt8.ofNat b.toNat)else none)=_
 rw[ac (by omega),UInt8.ofNat_toNat]
theorem bg5{v:V}{b:UInt8}(h:Qq v=some b):v=bV b:=by
 unfold Qq at h
 split at h
 ·rename_i n;split at h
  ·obtain rfl:=af h;show V.i .u8 (n:Int)=V.i .u8 ((UInt8.ofNat n).toNat:Int);rw[UInt8.toNat_ofNat',Nat.mod_eq_of_lt (by omega)]
  ·cases h
 ·cases h
def vG:List V→Option V
 |[v,w]=>(DF v).bind fun l=>(Qq w).bind fun b=>some (.i .i64 (vM (mG b l 0)))
 |_=>none
theorem aj9(l:List UInt8)(b:UInt8):vG [sV l,bV b]=some (.i .i64 (vM (mG b l 0))):=by
 show(DF (sV l)).bind (fun l=>(Qq (bV b)).bind fun b=>some (V.i .i64 (vM (mG b l 0))))=_
 rw[yo,Option.bind_some,Hf,Option.bind_some]
theorem cA2(b:UInt8):rP (sV [b]) (.i .i64 0)=some (bV b):=oC [b] .i64 0 (by simp)
theorem cK0(Φ:Nat→Option CF)(h:Φ 134=some ae9)(vG:Φ 166=some (.orc (bg vG)))(l:List UInt8)(b:UInt8)(ct:Nat):To Φ 134 [sV l,sV [b]] ct (.i .i64 (vM (mG b l 0))):=by
 refine fg h ?_
 have e:((([b]:List UInt8).length:Nat):Int)=1:=rfl
 have d0:decide (((([b]:List UInt8).length:Nat):Int)=0)=false:=rfl
 have d1:decide (((([b]:List UInt8).length:Nat):Int)=1)=true:=rfl
 by_cases hl:[b]=l
 ·have dl:decide ([b]=l)=true:=ae hl;have hf:mG b l 0=some 0:=by rw[←hl];simp[mG]
  simp only[WX,Int.reduceEq,bA4,Int.ofNat_one,dl,hf];rfl
 ·have dl:decide ([b]=l)=false:=ag hl;simp only[WX,Int.reduceEq,bA4,Int.ofNat_one,dl,vG,cA2,aj9]
def tR:List V→Option V
 |[v,w]=>(DF v).bind fun l=>(DF w).bind fun s=>match s with|[b]=>some (.i .i64 (vM (mG b l 0)))|_=>none
 |_=>none
theorem Lh(l:List UInt8)(b:UInt8):tR [sV l,sV [b]]=some (.i .i64 (vM (mG b l 0))):=by
 show(DF (sV l)).bind (fun l=>(DF (sV [b])).bind fun s=>match s with|[b]=>some (V.i .i64 (vM (mG b l 0)))|_=>none)=_
 rw[yo,Option.bind_some,yo,Option.bind_some]
def pn(c:UInt8)(l:List UInt8):V:=match mG c l 0 with
 |some k=> .t [sV (l.take k),sV (l.drop (k+1)),.b true]
 |none=> .t [sV l,.s 0 0,.b false]
theorem EQ{F:RO}(x:X)(lo hi:Option X)(M:Mem)(t:T):oB (.slS x lo hi) F M t=oV (D4 (x.ev t) (lo.map fun x=>x.ev t) (hi.map fun x=>x.ev t)):=by
 refine(gO ?_).trans (congrArg oV (b30 (F:=F) x lo hi M t))
 intro F' M'
 refine lc ?_
 show((oT (x.ev t) QR.f fun n s=>jU n s (optN t 0 lo) (optN t n hi))= .f∨ ∃y,(oT (x.ev t) QR.f fun n s=>jU n s (optN t 0 lo) (optN t n hi))= .v y)
 cases x.ev t with
 |s n s=>
  show QV (jU n s (optN t 0 lo) (optN t n hi));generalize optN t 0 lo=a;generalize optN t n hi=b;cases a with
  |none=>exact .inl rfl
  |some a=>
   cases b with
   |none=>exact .inl rfl
   |some b=>
    show QV (Bool.rec (motive:=fun _=>QR) .f (Bool.rec (motive:=fun _=>QR) .f (vS (b-a) (s/256^a%256^(b-a))) (Nat.ble b n)) (Nat.ble a b));cases Nat.ble a b with
    |false=>exact .inl rfl
    |true=>
     cases Nat.ble b n with
     |false=>exact .inl rfl
     |true=>exact .inr ⟨_,by show vS _ _=_;unfold vS;rw[aN,aN]⟩
 |_=>exact .inl rfl
theorem cJ9(Φ:Nat→Option CF)(h:Φ 100=some ae7)(tR:Φ 134=some (.orc (bg tR)))(l:List UInt8)(b:UInt8)(hl:l.length≤1073741824)(ct:Nat):To Φ 100 [sV l,sV [b]] ct (pn b l):=by
 refine fg h ?_
 unfold pn
 cases hf:mG b l 0 with
 |none=>
  have d:decide ((0:Int)≤vM none)=false:=rfl;simp only[WX,bA2,tR,Lh,hf,d]
 |some k=>
  have hk:=(Y5 hf).2;have d:decide ((0:Int)≤(k:Int))=true:=ae (by omega);have hz:vM (some k)=(k:Int):=rfl;have e:((([b]:List UInt8).length:Nat):Int)=1:=rfl;have q1:bD .add (.i .i64 (k:Int)) (.i .i64 1)=some (.i .i64 ((k+1:Nat):Int)):=by rw[aO _ _ (by omega) (by omega)];simp
  have s1:=D5 l .i64 k (by omega);have s2:=tl l .i64 (k+1) (by omega);simp only[WX,bA2,tR,Lh,hf,d,hz,Int.ofNat_one,q1,s1,s2,EQ]
def py:List V→Option V
 |[v,w]=>(DF v).bind fun l=>(DF w).bind fun s=>match s with|[b]=>if l.length≤1073741824 then some (pn b l)else none|_=>none
 |_=>none
theorem Lg(l:List UInt8)(b:UInt8)(hl:l.length≤1073741824):py [sV l,sV [b]]=some (pn b l):=by
 show(DF (sV l)).bind (fun l=>(DF (sV [b])).bind fun s=>match s with|[b]=>if l.length≤1073741824 then some (pn b l)else none|_=>none)=_
 rw[yo,Option.bind_some,yo,Option.bind_some]
 exact ac hl
theorem ba7(b:UInt8)(l:List UInt8):∃x y z,pn b l= .t [x,y,z]:=by
 unfold pn
 cases mG b l 0<;>exact⟨_,_,_,rfl⟩
theorem t64(Φ:Nat→Option CF)(h:Φ 64=some c64)(py:Φ 100=some (.orc (bg py)))(l:List UInt8)(b:UInt8)(hl:l.length≤1073741824)(ct:Nat):To Φ 64 [sV l,sV [b]] ct (pn b l):=by
 refine fg h ?_
 have h1:=Lg l b hl
 obtain⟨x,y,z,hc⟩:=ba7 b l
 rw[hc]at h1⊢
 simp only[WX,B64,py,h1]
abbrev cg1(u:List (Option V))(x0 x3 x9 x10 x11:V):T:=(.n (.n (.n (hU u 15 7 23) (some x3) (.n (ju u 19) (some x11) (ju u 27))) (uO u 1) (.n (.n (ju u 17) (some x9) (ju u 25)) (uO u 5) (hU u 21 13 29))) (some x0) (.n (am u 16 8 24 4 20 12 28) (uO u 2) (.n (.n (ju u 18) (some x10) (ju u 26)) (uO u 6) (hU u 22 14 30))))
def aQ2:CC:=(.reg [(qq a6 (.mv z0)),(qq a7 (.ln .slice z6)),(qq a8 (.bi .eql z7 (x6 0)))])
def aQ3:CC:=(.seq (.reg [(qq a2 (.mv (.c (.s 1 46))))]) .ret)
def aQ4:CC:=(.reg [(aa a3 (.al 96 [.p0,.l0]))])
def aQ5:CC:=(.reg [(qq a9 (.mv z0)),(qq cg (.ln .slice z9)),(qq cF (.mv (x6 0)))])
def aQ6:CC:=(.reg [(qq de (.bi .lss cI cm))])
def aQ7:CC:=(.reg [(qq cO (.iaS 1 z9 cI)),(qq dm (.ld1 cK)),(qq a5 (.mv dB))])
def aQ8:CC:=(.dreg 10 [(0,0,(qq dC (.mv z5))),(1,1,(qq dJ (.bi .shr dy (.c (.i .u64 4))))),(2,3,(qq dX (.slS (.c (.s 16 136107713667768957684761770045455085872)) (some ec) none))),(3,7,(qq dS (.slS dL none (some (x6 1))))),(4,0,(qq dN (.mv z5))),(5,16,(qq fi (.bi .and fk (.c (.i .u8 15))))),(6,48,(qq eL (.slS (.c (.s 16 136107713667768957684761770045455085872)) (some fl) none))),(7,112,(qq eM (.slS fT none (some (x6 1))))),(8,255,(qq ew (.bi .add eA fm))),(9,511,(ee dG (.call 48 [z3,fW])))])
def aQ9:CC:=(.reg [(qq eE (.bi .add cI (x6 1))),(qq cF (.mv fY))])
def aR0:CC:=(.seq (.cond cT .skip (.exit 0)) (.seq (.block 1 (.seq aQ7 aQ8)) aQ9))
def W0:CC:=(.reg [(ee eU (.call 53 [z3])),(qq a2 (.mv ib))])
def W1:CC:=(.seq (.seq aQ5 (.block 0 (.loop (.seq aQ6 aR0)))) (.seq W0 .ret))
def W2:CC:=(.seq (.seq aQ2 (.cond z8 aQ3 .skip)) (.seq aQ4 W1))
def W3:CC:=(.seq (.reg [(qq a2 (.mv (.c (.s 0 0))))]) W2)
def c51:CF:= .mk 5 [.t a2] W3
theorem e51(v0:V):bh 5 [v0]=(.n oE (some v0) oE):=rfl
def B51:=ai @e51 (ai (wu aQ2.eq_1) (ai (wu aQ3.eq_1) (ai (wu aQ4.eq_1) (ai (wu aQ5.eq_1) (ai (wu aQ6.eq_1) (ai (wu aQ7.eq_1) (ai (wu aQ8.eq_1) (ai (wu aQ9.eq_1) (ai (wu aR0.eq_1) (ai (wu W0.eq_1) (ai (wu W1.eq_1) (ai (wu W2.eq_1) (wu W3.eq_1)))))))))))))
theorem AL(b:UInt8):bD .shr (.i .u8 (b.toNat:Int)) (.i .u64 4)=some (.i .u8 ((b.toNat/16:Nat):Int)):=by
 have h:=Ep .u8 .u64 (b.toNat:Int) 4
 rw[show(((4:Nat):Int))=4 from rfl,show eJ .u8 4=4 from rfl,Int.fdiv_eq_ediv_of_nonneg _ (Int.natCast_nonneg _)]at h
 exact h
theorem wO(b:UInt8):bD .and (.i .u8 (b.toNat:Int)) (.i .u8 15)=some (.i .u8 ((b.toNat%16:Nat):Int)):=by
 have hb:=UInt8.toNat_lt b
 have h2:toU .u8 (b.toNat:Int)=b.toNat:=by show((b.toNat:Int)%256).toNat=_;omega
 rw[b86,h2,show toU .u8 15=2^4-1 from rfl,Nat.and_two_pow_sub_one_eq_mod,bS]
 congr 2
 omega
theorem Em{F:RO}(a b:List UInt8)(M:Mem):biQ .add (sV a) (sV b) F M=oV (bD .add (sV a) (sV b)):=by
 refine(gO ?_).trans (congrArg oV (bk0 (F:=F) .add _ _ M .e))
 intro F' M'
 have key:∀n x m y,m4 n x m y=oV (m4 n x m y).val:=fun n x m y=>by
  unfold m4;cases Nat.ble (Nat.add n m) 1099511627776 with
  |false=>rfl
  |true=>show vS _ _=oV (vS _ _).val;unfold vS;rw[aN,aN];rfl
 exact key _ _ _ _
theorem Fq{F:RO}{M:Mem}{c c':Nat}(h:d9 F M c)(hc:c≤c'):d9 F M c':=⟨fun y hy=>h.hiM y (by omega),fun y hy=>h.hiF y (by omega),h.ap,by have:=h.ge;omega⟩
def vJ:List UInt8:=[48,49,50,51,52,53,54,55,56,57,97,98,99,100,101,102]
theorem ak0(n:Nat)(h:n<16):(vJ.drop n).take 1=[dA n]:=by
 have:∀n,n<16→(vJ.drop n).take 1=[dA n]:=by decide
 exact this n h
theorem fQ{α:Type}{l:List α}{j:Nat}(h:j<l.length):l.take (j+1)=l.take j++[l[j]]:=by rw[List.take_add_one,List.getElem?_eq_getElem h];rfl
theorem r51(Φ:Nat→Option CF)(h:Φ 51=some c51)(h48:Φ 48=some c48)(h53:Φ 53=some c53)(h91:Φ 91=some PD){F:RO}{M:Mem}{c:Nat}{v:V}{l:List UInt8}(ok:d9 F M c)(hs:ov F M c v l)(hl:l.length≤400000):
 Calls Φ F 51 [v] M c fun r M' c'=>r=sV (iU l)∧Gr c M c' M':=by
 refine az h ?_
 have hln:=hs.len
 by_cases h0:l=[]
 ·subst h0;rw[bU]at hln;simp only[WX,B51,hln,Int.ofNat_zero];exact⟨rfl,Gr.refl ok⟩
 ·have hpos:l.length≠0:=fun e=>h0 (List.length_eq_zero_iff.1 e);have d0:decide ((l.length:Int)=0)=false:=ag (by omega);simp only[WX,B51,hln,d0];have g0:=(Gr.refl ok).set c (ax 96 [.p0,.l0]) (ah _) (aL _) (aP _);obtain⟨I,hI⟩:∃I:Nat→St→Prop,∀n s',I n s'↔(∃(i c1 bb:Nat) (M1:Mem) (u:List (Option V)),n=l.length-i∧i≤l.length∧s'= .mk ((cg1 u v (.p c 0) v (.i .i64 (l.length:Int)) (.i .i64 (i:Int)))) [] M1 c1∧Gr c M c1 M1∧j9 M1 c c1 c bb (ix (l.take i))):=⟨fun n s'=>_,fun _ _=>Iff.rfl⟩
  refine bG I ?_ l.length _ ((hI _ _).2 ⟨0,c+1,c+1,_,(G1 (X2 (G1 (X4 (X1 (G2 (G1 (bE (X2 (X1 [])))))))))),rfl,aF _,rfl,g0,⟨ah _,aL _,by omega,.p0,.l0,au _ _ _,.inl rfl,.inl ⟨by rw[List.take_zero];rfl,rfl⟩⟩⟩);intro n s' hIs;obtain⟨i,c1,bb,M1,u,rfl,hi,rfl,g1,hb⟩:=(hI _ _).1 hIs;clear hIs;have cD:=g1.ok ok;by_cases hlt:i<l.length
  ·have d1:decide ((i:Int)<(l.length:Int))=true:=ae (by omega);have q8:bD .add (.i .i64 (i:Int)) (.i .i64 1)=some (.i .i64 ((i+1:Nat):Int)):=by rw[aO _ _ (by omega) (by omega)];simp
   obtain⟨pb,po,hpb,hia,hld⟩:=hs.get i hlt;have hia:=hia .i64;have hld1:=(g1.load1 (F:=F) hpb po).trans hld;have htk:=fQ hlt;generalize l[i]=x at hld hld1 htk;have hx:=UInt8.toNat_lt x;have e78:V.s 16 136107713667768957684761770045455085872=sV vJ:=rfl;have s1:=tl vJ .u8 (x.toNat/16) (by show _≤16;omega);have s2:=tl vJ .u8 (x.toNat%16) (by show _≤16;omega);have s3:=D5 (vJ.drop (x.toNat/16)) .i64 1 (by rw[bP];show 1≤16-_;omega);have s4:=D5 (vJ.drop (x.toNat%16)) .i64 1 (by rw[bP];show 1≤16-_;omega);rw[ak0 _ (by omega),show((1:Nat):Int)=1 from rfl]at s3 s4;have hcat:bD .add (sV [dA (x.toNat/16)]) (sV [dA (x.toNat%16)])=some (sV [dA (x.toNat/16),dA (x.toNat%16)]):=nR _ _ (by show 1+1≤1099511627776;decide);have a1:=AL x;have a2:=wO x;simp only[WX,kJ,B51,d1,hia,hld1,e78,a1,a2,EQ,s1,s2,s3,s4,Em,hcat];have ok1':=Fq cD (show c1≤c1+10 by omega);refine lb ((r48 Φ h48 h91 ok1' (g1.trans ((Gr.refl cD).up (show c1≤c1+10 by omega))) (hb.up (show c1≤c1+10 by omega) fun x _=>rfl) [dA (x.toNat/16),dA (x.toNat%16)] (jt (by rw[jO,List.length_take];show _+2≤_;omega))).mono ?_);rintro r M2 c2 ⟨bb',hb2,g2,hle,_,_⟩;refine⟨(g2.ok ok).free,?_⟩;simp only[WX,B51,q8];refine⟨l.length-(i+1),by omega,(hI _ _).2 ⟨i+1,c2,bb',M2,(G1 (X2 (G1 (X4 (X1 (G2 (G1 (bE (X2 (X1 [])))))))))),rfl,hlt,rfl,g2,?_⟩⟩;rw[htk];have:ix (l.take i++[x])=ix (l.take i)++[dA (x.toNat/16),dA (x.toNat%16)]:=by unfold ix;rw[List.flatMap_append];rfl
   rw[this];exact hb2
  ·obtain rfl:i=l.length:=by omega
   have d1:decide ((l.length:Int)<(l.length:Int))=false:=ag (by omega);rw[List.take_length]at hb;simp only[WX,B51,d1];refine av ((r53 Φ h53 cD g1 hb (by rw[jO];omega)).mono ?_);rintro r M2 c2 ⟨rfl,g2,_,_⟩;simp only[WX];refine⟨?_,g2⟩;unfold iU;rw[ab h0]
def Uz:CC:=(.reg [(qq a3 (.mv z0)),(qq a4 (.bi .geq z3 (.c (.i .u64 4294967296))))])
def UA:CC:=(.reg [(qq a5 (.mv z0)),(qq a6 (.bi .shr z5 (.c (.i .u64 32)))),(qq a0 (.mv z6))])
def UB:CC:=(.seq UA (.reg [(qq a2 (.mv (x6 32)))]))
def UC:CC:=(.reg [(qq a7 (.mv z0)),(qq a8 (.bi .geq z7 (.c (.i .u64 65536))))])
def UD:CC:=(.reg [(qq a9 (.mv z0)),(qq cg (.bi .shr z9 (.c (.i .u64 16)))),(qq a0 (.mv cm))])
def UE:CC:=(.reg [(qq cF (.mv z2)),(qq de (.bi .add cI (x6 16))),(qq a2 (.mv cT))])
def UF:CC:=(.seq UC (.cond z8 (.seq UD UE) .skip))
def UG:CC:=(.reg [(qq cO (.mv z0)),(qq dm (.bi .geq cK (.c (.i .u64 256))))])
def UH:CC:=(.reg [(qq dC (.mv z0)),(qq dJ (.bi .shr dy (.c (.i .u64 8)))),(qq a0 (.mv ec))])
def KU:CC:=(.reg [(qq dX (.mv z2)),(qq dS (.bi .add dL (x6 8))),(qq a2 (.mv eA))])
def KV:CC:=(.seq UG (.cond dB (.seq UH KU) .skip))
def KW:CC:=(.reg [(qq dN (.mv z2)),(qq fi (.mv z0)),(qq eL (.ci .u8 fl)),(qq eM (.ixS (.c (.s 256 1013866857139168856493015739252390649739422828853819106890363778118420553376247557433637691341895324351018602695588957474325319502760499485336098898398377509666851054660423406800006203933793007272033180812049178612605246075062580585469430410618860250057463399279570354286669047577758927328864388992123306212451509403152394148136105363817402562688186708175358218852349079190158732807302672745370040257219644697201681238697346923541678507645485296520536209706771857694240900605172937619415410180424934769249448772944216470541052485265558808433676546390051204254346932932316488017972311616136051587427851453983453479168)) fT)),(qq ew (.ci .i64 fm)),(qq dG (.bi .add fk fW)),(qq a2 (.mv fX))])
def KX:CC:=(.seq (.seq Uz (.cond z4 UB .skip)) (.seq UF (.seq KV (.seq KW .ret))))
def KY:CC:=(.seq (.reg [(qq a2 (.mv (x6 0)))]) KX)
def af6:CF:= .mk 5 [.t a2] KY
theorem cz7(v0:V):bh 5 [v0]=(.n oE (some v0) oE):=rfl
def BG:=ai @cz7 (ai (wu Uz.eq_1) (ai (wu UA.eq_1) (ai (wu UB.eq_1) (ai (wu UC.eq_1) (ai (wu UD.eq_1) (ai (wu UE.eq_1) (ai (wu UF.eq_1) (ai (wu UG.eq_1) (ai (wu UH.eq_1) (ai (wu KU.eq_1) (ai (wu KV.eq_1) (ai (wu KW.eq_1) (ai (wu KX.eq_1) (wu KY.eq_1))))))))))))))
def Ux:CC:=(.reg [(qq a3 (.mv z0)),(qq a4 (.bi .mul z3 (x6 78913))),(qq a5 (.bi .shr z4 (.c (.i .u64 18)))),(qq a2 (.mv z5))])
def Uy:CC:=(.seq (.reg [(qq a2 (.mv (x6 0)))]) (.seq Ux .ret))
def af5:CF:= .mk 3 [.t a2] Uy
theorem cz6(v0:V):bh 3 [v0]=(.n mL (some v0) mL):=rfl
def cv5:=ai @cz6 (ai (wu Ux.eq_1) (wu Uy.eq_1))
def UI:CC:=(.seq (.reg [(qq a2 (.mv (x6 1)))]) .ret)
def UJ:CC:=(.seq (.reg [(qq a3 (.mv z0))]) (.cond z3 UI .skip))
def UK:CC:=(.seq (.reg [(qq a2 (.mv (x6 0)))]) .ret)
def UL:CC:=(.seq (.reg [(qq a2 (.mv (x6 0)))]) (.seq UJ UK))
def af7:CF:= .mk 3 [.t a2] UL
theorem cz8(v0:V):bh 3 [v0]=(.n mL (some v0) mL):=rfl
def bA8:=ai @cz8 (ai (wu UI.eq_1) (ai (wu UJ.eq_1) (ai (wu UK.eq_1) (wu UL.eq_1))))
def U0:CC:=(.reg [(qq a4 (.mv z0)),(ee a5 (.call 178 [z4])),(ee a6 (.call 177 [z5])),(qq a3 (.mv z6))])
def U1:CC:=(.reg [(qq a7 (.mv z3)),(qq a8 (.mv z0)),(qq a9 (.mv z3)),(qq cg (.iaA 20 1 (.c (.p 4 0)) z9)),(qq cF (.ld1 cm)),(qq de (.bi .geq z8 cI)),(ee cO (.call 179 [cT])),(qq dm (.bi .add z7 cK)),(qq a2 (.mv dB))])
def U2:CC:=(.seq (.reg [(qq a2 (.mv (x6 0)))]) (.seq U0 (.seq U1 .ret)))
def af3:CF:= .mk 4 [.t a2] U2
theorem cz3(v0:V):bh 4 [v0]=(.n iC (some v0) iC):=rfl
def bA7:=ai @cz3 (ai (wu U0.eq_1) (ai (wu U1.eq_1) (wu U2.eq_1)))
def TV:CC:=(.reg [(qq a3 (.mv z0)),(qq a4 (.bi .lss z3 (x6 10)))])
def TW:CC:=(.reg [(qq a5 (.mv z0)),(qq a6 (.mv z0)),(qq a7 (.bi .add z6 (x6 1))),(qq a8 (.slS (.c (.s 36 237927390410950444456928663707796224754864904193074819559483181009558347043374296609072)) (some z5) (some z7))),(qq a2 (.mv z8))])
def TX:CC:=(.seq TV (.cond z4 (.seq TW .ret) .skip))
def TY:CC:=(.reg [(qq a9 (.mv z0)),(qq cg (.bi .mul z9 (x6 2))),(qq cF (.mv z0)),(qq de (.bi .mul cI (x6 2))),(qq cO (.bi .add cT (x6 2))),(qq dm (.slS (.c (.s 200 9938655150514779720929161263213647789093395803754561035662628441001274968862597953692946393464194303251501229616933063375291039650253924995779037586872666250072396106842829501851083234932712366962979930255066872747696324303968523733872590022915936937156789320557469720923390131174387415513794469201054844961267015441141542819553679203788501627738430154234325528792480477051962324423099068299719245009424585859096469223093538032153047611602695245052081125123941502624659711709950000)) (some cm) (some cK))),(qq a2 (.mv dB))])
def TZ:CC:=(.seq (.reg [(qq a2 (.mv (.c (.s 0 0))))]) (.seq TX (.seq TY .ret)))
def af2:CF:= .mk 4 [.t a2] TZ
theorem cz2(v0:V):bh 4 [v0]=(.n iC (some v0) iC):=rfl
def bA6:=ai @cz2 (ai (wu TV.eq_1) (ai (wu TW.eq_1) (ai (wu TX.eq_1) (ai (wu TY.eq_1) (wu TZ.eq_1)))))
def kM:Nat→Nat→List UInt8
 |0,_=>[]
 |k+1,n=>kM k (n/10)++[UInt8.ofNat (48+n%10)]
def Fm:Nat→Nat→Nat
 |0,_=>1
 |f+1,n=>if n<10 then 1 else Fm f (n/10)+1
def nd(n:Nat):Nat:=Fm 20 n
theorem j7:∀(k f n:Nat),(k=0∨10^k≤n)→n<10^(k+1)→k≤f→Fm f n=k+1
 |0,0,_,_,_,_=>rfl
 |0,f+1,n,_,h,_=>ac h
 |k+1,0,n,_,_,h=>by omega
 |k+1,f+1,n,h1,h2,h3=>by
  have h1:10^(k+1)≤n:=h1.resolve_left (Nat.succ_ne_zero k);have hp:=Nat.pow_pos (n:=k) (show 0<10 by decide);rw[Nat.pow_succ]at h1 h2;rw[Fm,ab (by omega),j7 k f (n/10) (.inr (by omega)) (by omega) (by omega)]
def gP(n:Nat):List UInt8:=kM (nd n) n
def bI:Int→List UInt8
 | .ofNat n=>gP n
 | .negSucc n=>45::gP (n+1)
theorem fF:∀k n,(kM k n).length=k
 |0,n=>rfl
 |k+1,n=>by rw[kM,bw,fF k];rfl
def l8N:Nat:=1013866857139168856493015739252390649739422828853819106890363778118420553376247557433637691341895324351018602695588957474325319502760499485336098898398377509666851054660423406800006203933793007272033180812049178612605246075062580585469430410618860250057463399279570354286669047577758927328864388992123306212451509403152394148136105363817402562688186708175358218852349079190158732807302672745370040257219644697201681238697346923541678507645485296520536209706771857694240900605172937619415410180424934769249448772944216470541052485265558808433676546390051204254346932932316488017972311616136051587427851453983453479168
def smN:Nat:=9938655150514779720929161263213647789093395803754561035662628441001274968862597953692946393464194303251501229616933063375291039650253924995779037586872666250072396106842829501851083234932712366962979930255066872747696324303968523733872590022915936937156789320557469720923390131174387415513794469201054844961267015441141542819553679203788501627738430154234325528792480477051962324423099068299719245009424585859096469223093538032153047611602695245052081125123941502624659711709950000
def dgN:Nat:=237927390410950444456928663707796224754864904193074819559483181009558347043374296609072
def jF(x:Nat):Nat:=if x<1 then 0 else if x<2 then 1 else if x<4 then 2 else if x<8 then 3 else if x<16 then 4 else if x<32 then 5 else if x<64 then 6 else if x<128 then 7 else 8
theorem Ox:(List.range 256).all (fun x=>l8N/256^x%256==jF x)=true:=by decide+kernel
theorem bj0:(List.range 100).all (fun x=>(smN/256^(2*x)%256==48+x/10)&&(smN/256^(2*x+1)%256==48+x%10)&&(smN/256^(2*x)%256^2==(48+x/10)+256*(48+x%10)))=true:=by decide+kernel
theorem bb4:(List.range 10).all (fun x=>dgN/256^x%256^1==48+x)=true:=by decide+kernel
theorem Yo(x:Nat)(h:x<256):l8N/256^x%256=jF x:=by
 have:=List.all_eq_true.1 Ox x (List.mem_range.2 h)
 simpa using this
theorem Zl(x:Nat)(h:x<100):smN/256^(2*x)%256=48+x/10∧smN/256^(2*x+1)%256=48+x%10∧smN/256^(2*x)%256^2=(48+x/10)+256*(48+x%10):=by
 have:=List.all_eq_true.1 bj0 x (List.mem_range.2 h)
 simp only[aD,beq_iff_eq]at this
 exact⟨this.1.1,this.1.2,this.2⟩
theorem bO7(x:Nat)(h:x<10):dgN/256^x%256^1=48+x:=by
 have:=List.all_eq_true.1 bb4 x (List.mem_range.2 h)
 simpa using this
theorem Ag(n s i:Nat)(k:IntKind)(h:i<n):rP (.s n s) (.i k (i:Int))=some (.i .u8 ((s/256^i%256:Nat):Int)):=by
 show(np n s i).val=_
 show(Bool.rec (motive:=fun _=>QR) QR.f (fN (Nat.mod (Nat.div s (j8 i)) 256) fun c=>QR.v (.i .u8 (.ofNat c))) (Nat.blt i n)).val=_
 rw[bb,dY,ac (by simpa using h),aN];rfl
theorem td(x:Nat)(k:IntKind)(h:x<256):rP (.s 256 1013866857139168856493015739252390649739422828853819106890363778118420553376247557433637691341895324351018602695588957474325319502760499485336098898398377509666851054660423406800006203933793007272033180812049178612605246075062580585469430410618860250057463399279570354286669047577758927328864388992123306212451509403152394148136105363817402562688186708175358218852349079190158732807302672745370040257219644697201681238697346923541678507645485296520536209706771857694240900605172937619415410180424934769249448772944216470541052485265558808433676546390051204254346932932316488017972311616136051587427851453983453479168) (.i k (x:Int))=some (.i .u8 ((jF x:Nat):Int)):=by
 have:=Ag 256 l8N x k h
 rw[Yo x h]at this
 exact this
theorem qf(n:Nat)(h:n<256):bV (UInt8.ofNat n)= .i .u8 (n:Int):=by
 show V.i .u8 ((UInt8.ofNat n).toNat:Int)=_
 rw[UInt8.toNat_ofNat',Nat.mod_eq_of_lt h]
theorem pC(x:Nat)(k:IntKind)(h:x<100):rP (.s 200 9938655150514779720929161263213647789093395803754561035662628441001274968862597953692946393464194303251501229616933063375291039650253924995779037586872666250072396106842829501851083234932712366962979930255066872747696324303968523733872590022915936937156789320557469720923390131174387415513794469201054844961267015441141542819553679203788501627738430154234325528792480477051962324423099068299719245009424585859096469223093538032153047611602695245052081125123941502624659711709950000) (.i k ((2*x:Nat):Int))=some (bV (UInt8.ofNat (48+x/10))):=by
 have:=Ag 200 smN (2*x) k (by omega)
 rw[(Zl x h).1]at this
 rw[qf _ (by omega)];exact this
theorem pD(x:Nat)(k:IntKind)(h:x<100):rP (.s 200 9938655150514779720929161263213647789093395803754561035662628441001274968862597953692946393464194303251501229616933063375291039650253924995779037586872666250072396106842829501851083234932712366962979930255066872747696324303968523733872590022915936937156789320557469720923390131174387415513794469201054844961267015441141542819553679203788501627738430154234325528792480477051962324423099068299719245009424585859096469223093538032153047611602695245052081125123941502624659711709950000) (.i k ((2*x+1:Nat):Int))=some (bV (UInt8.ofNat (48+x%10))):=by
 have:=Ag 200 smN (2*x+1) k (by omega)
 rw[(Zl x h).2.1]at this
 rw[qf _ (by omega)];exact this
theorem MH(n s i j:Nat)(k k':IntKind)(h:i≤j)(h2:j≤n):D4 (.s n s) (some (.i k (i:Int))) (some (.i k' (j:Int)))=some (.s (j-i) (s/256^i%256^(j-i))):=by
 show(jU n s (some i) (some j)).val=_
 show(Bool.rec (motive:=fun _=>QR) .f (Bool.rec (motive:=fun _=>QR) .f (vS (j-i) (s/256^i%256^(j-i))) (Nat.ble j n)) (Nat.ble i j)).val=_
 rw[bb,bb,bL,bL,ac (by simpa using h),ac (by simpa using h2)]
 show(fN (j-i) fun n=>fN (s/256^i%256^(j-i)) fun x=>QR.v (.s n x)).val=_
 rw[aN,aN];rfl
theorem cf4(x:Nat)(h:x<10):D4 (.s 36 237927390410950444456928663707796224754864904193074819559483181009558347043374296609072) (some (.i .i64 (x:Int))) (some (.i .i64 ((x+1:Nat):Int)))=some (sV (gP x)):=by
 have:=MH 36 dgN x (x+1) .i64 .i64 (by omega) (by omega)
 rw[show x+1-x=1 by omega,bO7 x h]at this
 refine this.trans ?_
 have e:gP x=[UInt8.ofNat (48+x)]:=by
  unfold gP;rw[show nd x=1 from j7 0 20 x (.inl rfl) h (by omega)];show[UInt8.ofNat (48+x%10)]=_;rw[Nat.mod_eq_of_lt h]
 rw[e]
 show _=some (V.s 1 ((UInt8.ofNat (48+x)).toNat+256*0))
 rw[UInt8.toNat_ofNat',Nat.mod_eq_of_lt (by omega)];rfl
theorem cf5(x:Nat)(h:x<100)(h1:10≤x):D4 (.s 200 9938655150514779720929161263213647789093395803754561035662628441001274968862597953692946393464194303251501229616933063375291039650253924995779037586872666250072396106842829501851083234932712366962979930255066872747696324303968523733872590022915936937156789320557469720923390131174387415513794469201054844961267015441141542819553679203788501627738430154234325528792480477051962324423099068299719245009424585859096469223093538032153047611602695245052081125123941502624659711709950000) (some (.i .i64 ((2*x:Nat):Int))) (some (.i .i64 ((2*x+2:Nat):Int)))=some (sV (gP x)):=by
 have:=MH 200 smN (2*x) (2*x+2) .i64 .i64 (by omega) (by omega)
 rw[show 2*x+2-2*x=2 by omega,(Zl x h).2.2]at this
 refine this.trans ?_
 have e:gP x=[UInt8.ofNat (48+x/10),UInt8.ofNat (48+x%10)]:=by
  unfold gP;rw[show nd x=2 from j7 1 20 x (.inr h1) h (by omega)];show[UInt8.ofNat (48+x/10%10)]++[UInt8.ofNat (48+x%10)]=_;rw[Nat.mod_eq_of_lt (show x/10<10 by omega)];rfl
 rw[e]
 show _=some (V.s 2 ((UInt8.ofNat (48+x/10)).toNat+256*((UInt8.ofNat (48+x%10)).toNat+256*0)))
 rw[UInt8.toNat_ofNat',UInt8.toNat_ofNat',Nat.mod_eq_of_lt (show 48+x/10<2^8 by omega),Nat.mod_eq_of_lt (show 48+x%10<2^8 by omega)];rfl
def mH(n:Nat):Nat:=if n<256 then jF n else if n<65536 then 8+jF (n/256)else if n<16777216 then 16+jF (n/65536)else 24+jF (n/16777216)
def j5(n:Nat):Nat:=if n<4294967296 then mH n else 32+mH (n/4294967296)
theorem j3(x:Nat):jF x≤8:=by
 unfold jF;repeat' split
 all_goals omega
theorem AK(a n:Nat)(hn:n≤64):bD .shr (.i .u64 (a:Int)) (.i .u64 (n:Int))=some (.i .u64 ((a/2^n:Nat):Int)):=by
 rw[Ep]
 have:eJ .u64 n=n:=by
  unfold eJ;rw[bL,ae (show n≤kF .u64 from hn)];rfl
 rw[this,Int.fdiv_eq_ediv_of_nonneg _ (Int.natCast_nonneg _)];rfl
theorem me(n:Nat)(h:n<256):IntKind.u8.wrap (n:Int)=(n:Int):=by rw[bS];omega
theorem kD(n:Nat)(h:n<9223372036854775808):IntKind.i64.wrap (n:Int)=(n:Int):=fA (by omega) (by omega)
theorem cK6(Φ:Nat→Option CF)(h:Φ 178=some af6)(n:Nat)(hn:n<18446744073709551616)(ct:Nat):To Φ 178 [.i .u64 (n:Int)] ct (.i .i64 (j5 n:Int)):=by
 refine fg h ?_
 have s8:=fun a=>AK a 8 (by omega)
 have s16:=fun a=>AK a 16 (by omega)
 have s32:=AK n 32 (by omega)
 rw[show((8:Nat):Int)=8 from rfl,show(2:Nat)^8=256 from rfl]at s8
 rw[show((16:Nat):Int)=16 from rfl,show(2:Nat)^16=65536 from rfl]at s16
 rw[show((32:Nat):Int)=32 from rfl,show(2:Nat)^32=4294967296 from rfl]at s32
 by_cases hs:n<4294967296
 ·have d0:decide ((4294967296:Int)≤(n:Int))=false:=ag (by omega);have hl:j5 n=mH n:=ac hs;by_cases h0:n<256
  ·have d1:decide ((65536:Int)≤(n:Int))=false:=ag (by omega);have d2:decide ((256:Int)≤((n:Nat):Int))=false:=ag (by omega);have hb:=j3 (n);have ha:bD .add (.i .i64 0) (.i .i64 (jF (n):Int))=some (.i .i64 ((0+jF (n):Nat):Int)):=by rw[aO _ _ (by omega) (by omega)];simp
   have e:j5 n=0+jF (n):=by rw[hl];unfold mH;rw[ac h0];omega
   simp only[WX,BG,d0,d1,d2,me (n) (by omega),td (n) .u8 (by omega),kD (jF (n)) (by omega),ha,e]
  by_cases h1:n<65536
  ·have d1:decide ((65536:Int)≤(n:Int))=false:=ag (by omega);have d2:decide ((256:Int)≤((n:Nat):Int))=true:=ae (by omega);have a2:bD .add (.i .i64 0) (.i .i64 8)=some (.i .i64 8):=aO 0 8 (by omega) (by omega);have hb:=j3 (n/256);have ha:bD .add (.i .i64 8) (.i .i64 (jF (n/256):Int))=some (.i .i64 ((8+jF (n/256):Nat):Int)):=by rw[aO _ _ (by omega) (by omega)];simp
   have e:j5 n=8+jF (n/256):=by rw[hl];unfold mH;rw[ab h0,ac h1]
   simp only[WX,BG,d0,d1,d2,s8,a2,me (n/256) (by omega),td (n/256) .u8 (by omega),kD (jF (n/256)) (by omega),ha,e]
  by_cases h2:n<16777216
  ·have d1:decide ((65536:Int)≤(n:Int))=true:=ae (by omega);have d2:decide ((256:Int)≤((n/65536:Nat):Int))=false:=ag (by omega);have a1:bD .add (.i .i64 0) (.i .i64 16)=some (.i .i64 16):=aO 0 16 (by omega) (by omega);have hb:=j3 (n/65536);have ha:bD .add (.i .i64 16) (.i .i64 (jF (n/65536):Int))=some (.i .i64 ((16+jF (n/65536):Nat):Int)):=by rw[aO _ _ (by omega) (by omega)];simp
   have e:j5 n=16+jF (n/65536):=by rw[hl];unfold mH;rw[ab h0,ab h1,ac h2]
   simp only[WX,BG,d0,d1,d2,s16,a1,me (n/65536) (by omega),td (n/65536) .u8 (by omega),kD (jF (n/65536)) (by omega),ha,e]
  have d1:decide ((65536:Int)≤(n:Int))=true:=ae (by omega);have d2:decide ((256:Int)≤((n/65536:Nat):Int))=true:=ae (by omega);have a1:bD .add (.i .i64 0) (.i .i64 16)=some (.i .i64 16):=aO 0 16 (by omega) (by omega);have a2:bD .add (.i .i64 16) (.i .i64 8)=some (.i .i64 24):=aO 16 8 (by omega) (by omega);have hb:=j3 (n/65536/256);have ha:bD .add (.i .i64 24) (.i .i64 (jF (n/65536/256):Int))=some (.i .i64 ((24+jF (n/65536/256):Nat):Int)):=by rw[aO _ _ (by omega) (by omega)];simp
  have e:j5 n=24+jF (n/65536/256):=by rw[hl];unfold mH;rw[ab h0,ab h1,ab h2];rw[show n/16777216=n/65536/256 by rw[Nat.div_div_eq_div_mul]]
  simp only[WX,BG,d0,d1,d2,s8,s16,a1,a2,me (n/65536/256) (by omega),td (n/65536/256) .u8 (by omega),kD (jF (n/65536/256)) (by omega),ha,e]
 ·have d0:decide ((4294967296:Int)≤(n:Int))=true:=ae (by omega);obtain⟨m,hm⟩:∃m,n/4294967296=m:=⟨_,rfl⟩
  have hm2:m<4294967296:=by omega
  have hl:j5 n=32+mH m:=by unfold j5;rw[ab hs,hm]
  by_cases h0:m<256
  ·have d1:decide ((65536:Int)≤(m:Int))=false:=ag (by omega);have d2:decide ((256:Int)≤((m:Nat):Int))=false:=ag (by omega);have hb:=j3 (m);have ha:bD .add (.i .i64 32) (.i .i64 (jF (m):Int))=some (.i .i64 ((32+jF (m):Nat):Int)):=by rw[aO _ _ (by omega) (by omega)];simp
   have e:j5 n=32+jF (m):=by rw[hl];unfold mH;rw[ac h0]
   simp only[WX,BG,d0,s32,hm,d1,d2,me (m) (by omega),td (m) .u8 (by omega),kD (jF (m)) (by omega),ha,e]
  by_cases h1:m<65536
  ·have d1:decide ((65536:Int)≤(m:Int))=false:=ag (by omega);have d2:decide ((256:Int)≤((m:Nat):Int))=true:=ae (by omega);have a2:bD .add (.i .i64 32) (.i .i64 8)=some (.i .i64 40):=aO 32 8 (by omega) (by omega);have hb:=j3 (m/256);have ha:bD .add (.i .i64 40) (.i .i64 (jF (m/256):Int))=some (.i .i64 ((40+jF (m/256):Nat):Int)):=by rw[aO _ _ (by omega) (by omega)];simp
   have e:j5 n=40+jF (m/256):=by rw[hl];unfold mH;rw[ab h0,ac h1];omega
   simp only[WX,BG,d0,s32,hm,d1,d2,s8,a2,me (m/256) (by omega),td (m/256) .u8 (by omega),kD (jF (m/256)) (by omega),ha,e]
  by_cases h2:m<16777216
  ·have d1:decide ((65536:Int)≤(m:Int))=true:=ae (by omega);have d2:decide ((256:Int)≤((m/65536:Nat):Int))=false:=ag (by omega);have a1:bD .add (.i .i64 32) (.i .i64 16)=some (.i .i64 48):=aO 32 16 (by omega) (by omega);have hb:=j3 (m/65536);have ha:bD .add (.i .i64 48) (.i .i64 (jF (m/65536):Int))=some (.i .i64 ((48+jF (m/65536):Nat):Int)):=by rw[aO _ _ (by omega) (by omega)];simp
   have e:j5 n=48+jF (m/65536):=by rw[hl];unfold mH;rw[ab h0,ab h1,ac h2];omega
   simp only[WX,BG,d0,s32,hm,d1,d2,s16,a1,me (m/65536) (by omega),td (m/65536) .u8 (by omega),kD (jF (m/65536)) (by omega),ha,e]
  have d1:decide ((65536:Int)≤(m:Int))=true:=ae (by omega);have d2:decide ((256:Int)≤((m/65536:Nat):Int))=true:=ae (by omega);have a1:bD .add (.i .i64 32) (.i .i64 16)=some (.i .i64 48):=aO 32 16 (by omega) (by omega);have a2:bD .add (.i .i64 48) (.i .i64 8)=some (.i .i64 56):=aO 48 8 (by omega) (by omega);have hb:=j3 (m/65536/256);have ha:bD .add (.i .i64 56) (.i .i64 (jF (m/65536/256):Int))=some (.i .i64 ((56+jF (m/65536/256):Nat):Int)):=by rw[aO _ _ (by omega) (by omega)];simp
  have e:j5 n=56+jF (m/65536/256):=by rw[hl];unfold mH;rw[ab h0,ab h1,ab h2];rw[show m/16777216=m/65536/256 by rw[Nat.div_div_eq_div_mul]];omega
  simp only[WX,BG,d0,s32,hm,d1,d2,s8,s16,a1,a2,me (m/65536/256) (by omega),td (m/65536/256) .u8 (by omega),kD (jF (m/65536/256)) (by omega),ha,e]
def tU:List V→Option V
 |[.i .u64 (.ofNat n)]=>if n<18446744073709551616 then some (.i .i64 (j5 n:Int))else none
 |_=>none
theorem Ln{n:Nat}(h:n<18446744073709551616):tU [.i .u64 (n:Int)]=some (.i .i64 (j5 n:Int)):=ac h
theorem ak2(a n:Nat)(hn:n≤64):bD .shr (.i .i64 (a:Int)) (.i .u64 (n:Int))=some (.i .i64 ((a/2^n:Nat):Int)):=by
 rw[Ep]
 have:eJ .i64 n=n:=by
  unfold eJ;rw[bL,ae (show n≤kF .i64 from hn)];rfl
 rw[this,Int.fdiv_eq_ediv_of_nonneg _ (Int.natCast_nonneg _)];rfl
theorem cK5(Φ:Nat→Option CF)(h:Φ 177=some af5)(n:Nat)(hn:n<100)(ct:Nat):To Φ 177 [.i .i64 (n:Int)] ct (.i .i64 ((n*78913/262144:Nat):Int)):=by
 refine fg h ?_
 have h1:bD .mul (.i .i64 (n:Int)) (.i .i64 78913)=some (.i .i64 ((n*78913:Nat):Int)):=by rw[qA _ _ (by omega) (by omega)];simp
 have h2:=ak2 (n*78913) 18 (by omega)
 rw[show((18:Nat):Int)=18 from rfl,show(2:Nat)^18=262144 from rfl]at h2
 simp only[WX,cv5,h1,h2]
def tT:List V→Option V
 |[.i .i64 (.ofNat n)]=>if n<100 then some (.i .i64 ((n*78913/262144:Nat):Int))else none
 |_=>none
theorem Ll{n:Nat}(h:n<100):tT [.i .i64 (n:Int)]=some (.i .i64 ((n*78913/262144:Nat):Int)):=ac h
theorem cK7(Φ:Nat→Option CF)(h:Φ 179=some af7)(b:Bool)(ct:Nat):To Φ 179 [.b b] ct (.i .i64 (if b=true then 1 else 0)):=by
 refine fg h ?_
 cases b
 ·simp only[WX,bA8]
 ·simp only[WX,bA8]
def tV:List V→Option V
 |[.b b]=>some (.i .i64 (if b=true then 1 else 0))
 |_=>none
theorem Lo(b:Bool):tV [.b b]=some (.i .i64 (if b=true then 1 else 0)):=rfl
theorem cK3(Φ:Nat→Option CF)(h:Φ 158=some af2)(n:Nat)(hn:n<100)(ct:Nat):To Φ 158 [.i .i64 (n:Int)] ct (sV (gP n)):=by
 refine fg h ?_
 by_cases h1:n<10
 ·have d:decide ((n:Int)<10)=true:=ae (by omega);have ha:bD .add (.i .i64 (n:Int)) (.i .i64 1)=some (.i .i64 ((n+1:Nat):Int)):=by rw[aO _ _ (by omega) (by omega)];simp
  simp only[WX,bA6,d,ha,cf4 n h1]
 ·have d:decide ((n:Int)<10)=false:=ag (by omega);have hm:bD .mul (.i .i64 (n:Int)) (.i .i64 2)=some (.i .i64 ((2*n:Nat):Int)):=by rw[qA _ _ (by omega) (by omega)];simp;omega
  have ha:bD .add (.i .i64 ((2*n:Nat):Int)) (.i .i64 2)=some (.i .i64 ((2*n+2:Nat):Int)):=by rw[aO _ _ (by omega) (by omega)];simp
  simp only[WX,bA6,d,hm,ha,cf5 n hn (by omega)]
def vF:List V→Option V
 |[.i .i64 (.ofNat n)]=>if n<100 then some (sV (gP n))else none
 |_=>none
theorem aj8{n:Nat}(h:n<100):vF [.i .i64 (n:Int)]=some (sV (gP n)):=ac h
def Aq:List Int:=[1,10,100,1000,10000,100000,1000000,10000000,100000000,1000000000,10000000000,100000000000,1000000000000,10000000000000,100000000000000,1000000000000000,10000000000000000,100000000000000000,1000000000000000000,10000000000000000000]
theorem ae4:(List.range 256).all (fun x=>decide (x=0)||(decide (2^(jF x-1)≤x)&&decide (x<2^jF x)&&decide (1≤jF x)))=true:=by decide+kernel
theorem A0{x:Nat}(h:x<256)(h0:1≤x):1≤jF x∧2^(jF x-1)≤x∧x<2^jF x:=by
 have:=List.all_eq_true.1 ae4 x (List.mem_range.2 h)
 simp only[Bool.or_eq_true,aD,decide_eq_true_eq]at this
 rcases this with h|⟨⟨h1,h2⟩,h3⟩
 ·omega
 ·exact⟨h3,h1,h2⟩
theorem nX{n L:Nat}(s:Nat)(h:1≤L∧2^(L-1)≤n/2^s∧n/2^s<2^L):1≤s+L∧2^(s+L-1)≤n∧n<2^(s+L):=by
 obtain⟨h1,h2,h3⟩:=h
 have hp:=Nat.pow_pos (n:=s) (show 0<2 by decide)
 refine⟨by omega,?_,?_⟩
 ·rw[show s+L-1=(L-1)+s by omega,Nat.pow_add];exact(Nat.le_div_iff_mul_le hp).1 h2
 ·rw[Nat.add_comm,Nat.pow_add];exact(Nat.div_lt_iff_lt_mul hp).1 h3
theorem LD{n:Nat}(h:n<4294967296)(h0:1≤n):1≤mH n∧2^(mH n-1)≤n∧n<2^mH n:=by
 unfold mH
 split
 ·exact A0 (by omega) h0
 ·split
  ·exact nX 8 (A0 (x:=n/256) (by omega) (by omega))
  ·split
   ·exact nX 16 (A0 (x:=n/65536) (by omega) (by omega))
   ·exact nX 24 (A0 (x:=n/16777216) (by omega) (by omega))
theorem LF{n:Nat}(h:n<18446744073709551616)(h0:1≤n):1≤j5 n∧2^(j5 n-1)≤n∧n<2^j5 n:=by
 unfold j5
 split
 ·exact LD (by omega) h0
 ·exact nX 32 (LD (n:=n/4294967296) (by omega) (by omega))
theorem LZ:(List.range 65).all (fun L=>decide (L*78913/262144<20)&&(Aq[L*78913/262144]?==some ((10^(L*78913/262144):Nat):Int))&&decide (2^L≤10^(L*78913/262144+1))&&(decide (L*78913/262144=0)||decide (10^(L*78913/262144-1)≤2^(L-1))))=true:=by decide+kernel
theorem Ai{n:Nat}(h:n<18446744073709551616):j5 n≤64:=by
 have ha:∀m,mH m≤32:=fun m=>by
  have h1:=j3 m;have h2:=j3 (m/256);have h3:=j3 (m/65536);have h4:=j3 (m/16777216);unfold mH;repeat' split
  all_goals omega
 have h1:=ha n;have h2:=ha (n/4294967296)
 unfold j5;split<;>omega
theorem Yz(n:Nat)(h1:1≤n)(h2:n<18446744073709551616):∃(t:Nat) (p:Nat),j5 n*78913/262144=t∧Aq[t]?=some (p:Int)∧t<20∧nd n=t+(if p≤n then 1 else 0):=by
 obtain⟨_,l1,l2⟩:=LF h2 h1
 have hl:=Ai h2
 have hc:=List.all_eq_true.1 LZ (j5 n) (List.mem_range.2 (by omega))
 simp only[aD,Bool.or_eq_true,decide_eq_true_eq,beq_iff_eq]at hc
 obtain⟨⟨⟨c1,c2⟩,c3⟩,c4⟩:=hc
 generalize j5 n*78913/262144=t at c1 c2 c3 c4⊢
 refine⟨t,10^t,rfl,c2,c1,?_⟩
 split
 ·rename_i hp;exact j7 t 20 n (.inr hp) (by omega) (by omega)
 ·rename_i hp;rcases c4 with h0|c4
  ·subst h0;exact absurd h1 hp
  ·have ht:t≠0:=by rintro rfl;exact hp h1
   have:=j7 (t-1) 20 n (.inr (by omega)) (by rw[Nat.sub_add_cancel (by omega)];omega) (by omega);show Fm 20 n=_;rw[this];omega
theorem jQ(n:Nat)(h:n<18446744073709551616):1≤nd n∧nd n≤20∧n<10^nd n:=by
 by_cases h0:n=0
 ·subst h0;exact⟨by decide,by decide,by decide⟩
 obtain⟨_,l1,l2⟩:=LF h (show 1≤n by omega)
 have hl:=Ai h
 have hc:=List.all_eq_true.1 LZ (j5 n) (List.mem_range.2 (by omega))
 simp only[aD,Bool.or_eq_true,decide_eq_true_eq,beq_iff_eq]at hc
 obtain⟨⟨⟨c1,c2⟩,c3⟩,c4⟩:=hc
 obtain⟨t,p,e1,e2,e3,e4⟩:=Yz n (by omega) h
 rw[e1]at c1 c2 c3 c4
 rw[c2]at e2
 have e2:=Int.ofNat.inj (af e2)
 subst e2
 by_cases hp:10^t≤n
 ·rw[ac hp]at e4;rw[e4];exact⟨by omega,by omega,by rw[Nat.pow_succ];rw[Nat.pow_succ]at c3;omega⟩
 ·rw[ab hp]at e4;rw[e4];have ht:t≠0:=by rintro rfl;exact hp (by omega)
  exact⟨by omega,by omega,by rw[bT];omega⟩
def bS3(len sz:Nat)(x i:V):Option V:=(cS (.iaA len sz (.c x) (.c i)) [] .e .e).val
theorem Dh{F:RO}(len sz:Nat)(x i:X)(M:Mem)(t:T):(cS (.iaA len sz x i) F M t).val=bS3 len sz (x.ev t) (i.ev t):=Eq.trans rfl (Eq.refl _)
theorem Lx(len sz b o n:Nat)(k:IntKind)(h:n<len):bS3 len sz (.p b o) (.i k (n:Int))=some (.p b (o+n*sz)):=by
 show(xY sz b o len (n:Int)).val=_
 show(Bool.rec (motive:=fun _=>QR) .f (uo b (Nat.add o (Nat.mul n sz))) (Nat.blt n len)).val=_
 rw[bb,dY,ac (by simpa using h)]
 unfold uo
 rw[aN];rfl
theorem og(a b:Nat)(hb:0<b)(ha:a<4294967296):bD .quo (.i .u32 (a:Int)) (.i .u32 (b:Int))=some (.i .u32 ((a/b:Nat):Int)):=by
 have hle:a/b≤a:=Nat.div_le_self a b
 show(ml .u32 (a:Int) (b:Int)).val=_
 unfold ml
 rw[cB,ag (show¬((b:Int)=0) by omega),cond_false,dW,iZ,←Int.ofNat_tdiv,AJ _ (by omega)];rfl
theorem oo(a b:Nat)(hb:0<b):bD .rem (.i .u32 (a:Int)) (.i .u32 (b:Int))=some (.i .u32 ((a%b:Nat):Int)):=by
 show(mm .u32 (a:Int) (b:Int)).val=_
 unfold mm
 rw[cB,ag (show¬((b:Int)=0) by omega),cond_false,dW,←Int.ofNat_tmod];rfl
theorem cI6(Φ:Nat→Option CF)(h:Φ 159=some af3){L:List eT}(tU:Φ 178=some (.orc (bg tU)))(tT:Φ 177=some (.orc (bg tT)))(tV:Φ 179=some (.orc (bg tV)))
 {F:RO} {M:Mem} {c:Nat} (ok:d9 F M c) (ht:bA F L=true) (hp:(4,IntKind.u64,Aq)∈L) (n:Nat) (h1:1≤n) (h2:n<18446744073709551616):Calls Φ F 159 [.i .u64 (n:Int)] M c fun r _ _=>r= .i .i64 (nd n:Int):=by
 obtain⟨t,p,e1,e2,e1003,e1004⟩:=Yz n h1 h2
 have hl:j5 n<100:=by have:=Ai h2;omega
 have hld:=Zx (M:=M) ht ok.ap hp e2
 have hia:=Lx 20 1 4 0 t .i64 (by omega)
 rw[show 0+t*1=t by omega]at hia
 refine az h ?_
 by_cases hpn:p≤n
 ·have d:decide ((p:Int)≤(n:Int))=true:=ae (by omega);rw[ac hpn]at e1004;have ha:bD .add (.i .i64 (t:Int)) (.i .i64 1)=some (.i .i64 ((t+1:Nat):Int)):=by rw[aO _ _ (by omega) (by omega)];simp
  simp only[WX,bA7,tU,tT,tV,Ln h2,Ll hl,Lo,e1,hia,hld,Dh,d,ha,e1004]
 ·have d:decide ((p:Int)≤(n:Int))=false:=ag (by omega);rw[ab hpn]at e1004;have ha:bD .add (.i .i64 (t:Int)) (.i .i64 0)=some (.i .i64 ((t+0:Nat):Int)):=by rw[aO _ _ (by omega) (by omega)];simp
  simp only[WX,bA7,tU,tT,tV,Ln h2,Ll hl,Lo,e1,hia,hld,Dh,d,ha,e1004]
abbrev cg4(u:List (Option V))(x0 x1 x7 x8:V):T:=(.n (.n (.n (.n (ju u 15) (some x7) (ju u 23)) (uO u 3) (hU u 19 11 27)) (some x1) (am u 17 9 25 5 21 13 29)) (some x0) (.n (.n (.n (ju u 16) (some x8) (ju u 24)) (uO u 4) (hU u 20 12 28)) (uO u 2) (am u 18 10 26 6 22 14 30)))
def Rb:CC:=(.reg [(aa a1 (.bx 133 2 z0)),(qq a2 (.mv xF))])
def Rc:CC:=(.reg [(qq a3 (.iaA 2 1 z1 (x6 0))),(qq a4 (.ld1 z3)),(qq a5 (.bi .lss z4 (x6 0))),(qq a6 (.mv z5)),(aU a7 (.iaA 2 1 z1 (x6 0)) a6),(aU a8 (.ld1 z7) a6),(aU a9 (.iaA 2 1 z1 (x6 1)) a6),(aU cg (.ld1 z9) a6),(aU cF (.bi .gtr z8 cm) a6),(qq de (.pk z6 xT cI)),(qq a2 (.mv cT))])
def Ey:CF:= .mk 4 [.t a2] (.seq Rb (.seq Rc .ret))
theorem cx8(v0:V):bh 4 [v0]=(.n iC (some v0) iC):=rfl
def bA3:=ai @cx8 (ai (wu Rb.eq_1) (wu Rc.eq_1))
def ST:CC:=(.reg [(qq a4 (.mv (x6 0)))])
def SU:CC:=(.reg [(qq a6 (.mv z0)),(qq a7 (.ln .slice z6)),(qq a8 (.mv (x6 0)))])
def SV:CC:=(.reg [(qq a9 (.bi .lss z8 z7))])
def SW:CC:=(.reg [(qq cg (.mv z8)),(qq a5 (.mv cm))])
def SX:CC:=(.reg [(qq cF (.mv z1)),(qq de (.mv z0)),(qq cO (.mv z5)),(qq dm (.iaS 2 cT cK)),(qq dC (.ldn 2 dB)),(ee dJ (.cv cI [dy]))])
def SY:CC:=(.reg [(qq dX (.mv z5)),(qq a4 (.mv dL))])
def SZ:CC:=(.cond ec (.seq SY .ret) .skip)
def T0:CC:=(.reg [(qq dS (.bi .add z8 (x6 1))),(qq a8 (.mv eA))])
def T4:CC:=(.seq (.cond z9 .skip (.exit 0)) (.seq (.block 1 (.seq SW (.seq SX SZ))) T0))
def Ku:CC:=(.reg [(qq a4 (.mv (x6 (-1))))])
def Kv:CC:=(.seq (.seq SU (.block 0 (.loop (.seq SV T4)))) (.seq Ku .ret))
def O1:CF:= .mk 5 [.t a4] (.seq ST Kv)
theorem cy8(v0 v1:V):bh 5 [v0,v1]=(.n (.n iC (some v1) iC) (some v0) oE):=rfl
def PQ:=ai @cy8 (ai (wu ST.eq_1) (ai (wu SU.eq_1) (ai (wu SV.eq_1) (ai (wu SW.eq_1) (ai (wu SX.eq_1) (ai (wu SY.eq_1) (ai (wu SZ.eq_1) (ai (wu T0.eq_1) (ai (wu T4.eq_1) (ai (wu Ku.eq_1) (wu Kv.eq_1)))))))))))
def R9:CC:=(.reg [(qq a4 (.mv xF))])
def Ra:CC:=(.reg [(qq a5 (.mv z0)),(qq a6 (.mv z1)),(ee a7 (.call 146 [z5,z6])),(qq a8 (.bi .geq z7 (x6 0))),(qq a4 (.mv z8))])
def Xr:CF:= .mk 4 [.t a4] (.seq R9 (.seq Ra .ret))
theorem cx7(v0 v1:V):bh 4 [v0,v1]=(.n (.n mL (some v1) mL) (some v0) iC):=rfl
def cu7:=ai @cx7 (ai (wu R9.eq_1) (wu Ra.eq_1))
def aS4:CC:=(.reg [(qq a3 (.mv z0)),(ee a4 (.call 116 [z3,(.c (.f 117 [] []))])),(qq a5 (.un .not z4)),(qq a2 (.mv z5))])
def aS5:CC:=(.seq (.reg [(qq a2 (.mv xF))]) (.seq aS4 .ret))
def c79:CF:= .mk 3 [.t a2] aS5
theorem e79(v0:V):bh 3 [v0]=(.n mL (some v0) mL):=rfl
def B79:=ai @e79 (ai (wu aS4.eq_1) (wu aS5.eq_1))
def oU(l:List (Int×Int)):List (List V):=l.map fun p=>[.i .i64 p.1,.i .i64 p.2]
def tZ(p:Int×Int):Bool:=decide (p.1<0)||decide (p.2<p.1)
theorem cH6(Φ:Nat→Option CF)(h:Φ 117=some Ey){F:RO}{M:Mem}{c:Nat}(ok:d9 F M c)(x y:Int):
 Calls Φ F 117 [.g [.i .i64 x,.i .i64 y]] M c fun r M' c'=>r= .b (tZ (x,y))∧Gr c M c' M':=by
 refine az h ?_
 have gX:=(Gr.refl ok).set c (ax 133 [.i .i64 x,.i .i64 y]) (ah _) (aL _) (aP _)
 have hc0:(M.set c (ax 133 [.i .i64 x,.i .i64 y])).get c=some (ax 133 [.i .i64 x,.i .i64 y]):=au _ _ _
 have l0:=aj (F:=F) hc0 0
 have l1:=aj (F:=F) hc0 1
 have i0:=Lx 2 1 c 0 0 .i64 (by decide)
 have i1:=Lx 2 1 c 0 1 .i64 (by decide)
 rw[show 0+0*1=0 from rfl,Int.ofNat_zero]at i0
 rw[show 0+1*1=1 from rfl,Int.ofNat_one]at i1
 by_cases hx:x<0
 ·have d0:decide (x<0)=true:=ae hx;simp only[WX,Nat.reduceAdd,bA3,Dh,i0,l0,d0];exact⟨by unfold tZ;rw[d0];rfl,gX⟩
 ·have d0:decide (x<0)=false:=ag hx;simp only[WX,Nat.reduceAdd,bA3,Dh,i0,i1,l0,l1,d0];exact⟨by unfold tZ;rw[d0];rfl,gX⟩
theorem cI4(Φ:Nat→Option CF)(h:Φ 146=some O1)(h117:Φ 117=some Ey){F:RO}{M:Mem}{c:Nat}{v:V}{l:List (Int×Int)}(ok:d9 F M c)(hs:cj F M c 2 v (oU l))(hl:l.length≤1000000):
 Calls Φ F 146 [v,.f 117 [] []] M c fun r M' c'=>(∃z:Int,r= .i .i64 z∧(decide (0≤z)=l.any tZ))∧Gr c M c' M':=by
 refine az h ?_
 have hln:oD v=some (.i .i64 (l.length:Int)):=by have:=hs.len;rwa [oU,List.length_map]at this
 simp only[WX,PQ,hln]
 obtain⟨I,hI⟩:∃I:Nat→St→Prop,∀n s',I n s'↔(∃(i c1:Nat) (M1:Mem) (u:List (Option V)),n=l.length-i∧i≤l.length∧s'= .mk ((cg4 u v (.f 117 [] []) (.i .i64 (l.length:Int)) (.i .i64 (i:Int)))) [] M1 c1∧Gr c M c1 M1∧(l.take i).any tZ=false):=⟨fun n s'=>_,fun _ _=>Iff.rfl⟩
 refine bG I ?_ l.length _ ((hI _ _).2 ⟨0,c,M,(G2 (X4 (X1 (G2 (bE (X4 (X2 []))))))),rfl,aF _,rfl,Gr.refl ok,rfl⟩)
 intro n s' hIs
 obtain⟨i,c1,M1,u,rfl,hi,rfl,g1,hno⟩:=(hI _ _).1 hIs
 clear hIs
 have cD:=g1.ok ok
 have q8:bD .add (.i .i64 (i:Int)) (.i .i64 1)=some (.i .i64 ((i+1:Nat):Int)):=by rw[aO _ _ (by omega) (by omega)];simp
 by_cases hlt:i<l.length
 ·have d1:decide ((i:Int)<(l.length:Int))=true:=ae (by omega);obtain⟨pb,po,hpb,hia,hld⟩:=(hs.grow g1).at i (by rw[oU,List.length_map];exact hlt);have hia:=hia .i64;have htk:=fQ hlt;have hge:(oU l)[i]'(by rw[oU,List.length_map];exact hlt)=[.i .i64 l[i].1,.i .i64 l[i].2]:=List.getElem_map ..;rw[hge]at hld;have hld:=hld.load (by simp);generalize l[i]=p at hld htk;have hld:loadN F M1 pb po 2=some [.i .i64 p.1,.i .i64 p.2]:=hld;simp only[WX,PQ,d1,hia,hld];refine av ((cH6 Φ h117 cD p.1 p.2).mono ?_);rintro r M2 c2 ⟨rfl,g2⟩;have hany:(l.take (i+1)).any tZ=tZ p:=by rw[htk,List.any_append,hno];simp
  have hcat:=List.take_append_drop (i+1) l;cases hp:tZ (p.1,p.2)with
  |true=>
   simp only[WX,PQ];refine⟨⟨_,rfl,?_⟩,g1.trans g2⟩;rw[ae (Int.natCast_nonneg i),←hcat,List.any_append,hany,show tZ p=true from hp];rfl
  |false=>
   simp only[WX,PQ,q8];exact⟨l.length-(i+1),by omega,(hI _ _).2 ⟨i+1,c2,M2,(G2 (X4 (X1 (G2 (bE (X4 (X2 []))))))),rfl,hlt,rfl,g1.trans g2,hany.trans hp⟩⟩
 ·obtain rfl:i=l.length:=by omega
  have d1:decide ((l.length:Int)<(l.length:Int))=false:=ag (by omega);rw[List.take_length]at hno;simp only[WX,PQ,d1];exact⟨⟨_,rfl,by rw[hno];rfl⟩,g1⟩
theorem cH5(Φ:Nat→Option CF)(h:Φ 116=some Xr)(h146:Φ 146=some O1)(h117:Φ 117=some Ey){F:RO}{M:Mem}{c:Nat}{v:V}{l:List (Int×Int)}(ok:d9 F M c)(hs:cj F M c 2 v (oU l))(hl:l.length≤1000000):
 Calls Φ F 116 [v,.f 117 [] []] M c fun r M' c'=>r= .b (l.any tZ)∧Gr c M c' M':=by
 refine az h ?_
 simp only[WX,cu7]
 refine av ((cI4 Φ h146 h117 ok hs hl).mono ?_)
 rintro r M1 c1 ⟨⟨z,rfl,hz⟩,g1⟩
 simp only[WX,hz]
 exact g1
def xU(p:Int×Int):Bool:=decide (0≤p.1∧p.1≤p.2)
theorem ae1(l:List (Int×Int)):(!l.any tZ)=l.all xU:=by
 induction l with
 |nil=>rfl
 |cons p l ih=>
  rw[List.any_cons,List.all_cons,←ih,Bool.not_or]
  congr 1
  unfold tZ xU;rw[Bool.not_or,←decide_not,←decide_not,Bool.decide_and]
  congr 1<;>(congr 1;apply propext;omega)
theorem r79(Φ:Nat→Option CF)(h:Φ 79=some c79)(h116:Φ 116=some Xr)(h146:Φ 146=some O1)(h117:Φ 117=some Ey){F:RO}{M:Mem}{c:Nat}{v:V}{l:List (Int×Int)}(ok:d9 F M c)(hs:cj F M c 2 v (oU l))(hl:l.length≤1000000):
 Calls Φ F 79 [v] M c fun r M' c'=>r= .b (l.all xU)∧Gr c M c' M':=by
 refine az h ?_
 simp only[WX,B79]
 refine av ((cH5 Φ h116 h146 h117 ok hs hl).mono ?_)
 rintro r M1 c1 ⟨rfl,g1⟩
 simp only[WX,ae1]
 exact g1
abbrev Zr(u:List (Option V))(x0 x2 x3 x4 x5:V):T:=(.n (.n (.n (.n (am u 63 31 95 15 79 47 111) (uO u 7) (am u 71 39 103 23 87 55 119)) (some x3) (.n (am u 67 35 99 19 83 51 115) (uO u 11) (am u 75 43 107 27 91 59 123))) (uO u 1) (.n (.n (am u 65 33 97 17 81 49 113) (uO u 9) (am u 73 41 105 25 89 57 121)) (some x5) (.n (am u 69 37 101 21 85 53 117) (uO u 13) (am u 77 45 109 29 93 61 125)))) (some x0) (.n (.n (.n (am u 64 32 96 16 80 48 112) (uO u 8) (am u 72 40 104 24 88 56 120)) (some x4) (.n (am u 68 36 100 20 84 52 116) (uO u 12) (am u 76 44 108 28 92 60 124))) (some x2) (.n (.n (am u 66 34 98 18 82 50 114) (uO u 10) (am u 74 42 106 26 90 58 122)) (uO u 6) (.n (am u 70 38 102 22 86 54 118) (uO u 14) (am u 78 46 110 30 94 62 126)))))
abbrev b20(u:List (Option V))(x0 x2 x7 x8 x9:V):T:=(.n (.n (.n (.n (am u 63 31 95 15 79 47 111) (some x7) (am u 71 39 103 23 87 55 119)) (uO u 3) (.n (am u 67 35 99 19 83 51 115) (uO u 11) (am u 75 43 107 27 91 59 123))) (uO u 1) (.n (.n (am u 65 33 97 17 81 49 113) (some x9) (am u 73 41 105 25 89 57 121)) (uO u 5) (.n (am u 69 37 101 21 85 53 117) (uO u 13) (am u 77 45 109 29 93 61 125)))) (some x0) (.n (.n (.n (am u 64 32 96 16 80 48 112) (some x8) (am u 72 40 104 24 88 56 120)) (uO u 4) (.n (am u 68 36 100 20 84 52 116) (uO u 12) (am u 76 44 108 28 92 60 124))) (some x2) (.n (.n (am u 66 34 98 18 82 50 114) (uO u 10) (am u 74 42 106 26 90 58 122)) (uO u 6) (.n (am u 70 38 102 22 86 54 118) (uO u 14) (am u 78 46 110 30 94 62 126)))))
abbrev cg5(u:List (Option V))(x0 x2 x7 x9 x10:V):T:=(.n (.n (.n (.n (am u 63 31 95 15 79 47 111) (some x7) (am u 71 39 103 23 87 55 119)) (uO u 3) (.n (am u 67 35 99 19 83 51 115) (uO u 11) (am u 75 43 107 27 91 59 123))) (uO u 1) (.n (.n (am u 65 33 97 17 81 49 113) (some x9) (am u 73 41 105 25 89 57 121)) (uO u 5) (.n (am u 69 37 101 21 85 53 117) (uO u 13) (am u 77 45 109 29 93 61 125)))) (some x0) (.n (.n (.n (am u 64 32 96 16 80 48 112) (uO u 8) (am u 72 40 104 24 88 56 120)) (uO u 4) (.n (am u 68 36 100 20 84 52 116) (uO u 12) (am u 76 44 108 28 92 60 124))) (some x2) (.n (.n (am u 66 34 98 18 82 50 114) (some x10) (am u 74 42 106 26 90 58 122)) (uO u 6) (.n (am u 70 38 102 22 86 54 118) (uO u 14) (am u 78 46 110 30 94 62 126)))))
abbrev cg6(u:List (Option V))(x0 x2 x7:V):T:=(.n (.n (.n (.n (am u 63 31 95 15 79 47 111) (some x7) (am u 71 39 103 23 87 55 119)) (uO u 3) (.n (am u 67 35 99 19 83 51 115) (uO u 11) (am u 75 43 107 27 91 59 123))) (uO u 1) (.n (.n (am u 65 33 97 17 81 49 113) (uO u 9) (am u 73 41 105 25 89 57 121)) (uO u 5) (.n (am u 69 37 101 21 85 53 117) (uO u 13) (am u 77 45 109 29 93 61 125)))) (some x0) (.n (.n (.n (am u 64 32 96 16 80 48 112) (uO u 8) (am u 72 40 104 24 88 56 120)) (uO u 4) (.n (am u 68 36 100 20 84 52 116) (uO u 12) (am u 76 44 108 28 92 60 124))) (some x2) (.n (.n (am u 66 34 98 18 82 50 114) (uO u 10) (am u 74 42 106 26 90 58 122)) (uO u 6) (.n (am u 70 38 102 22 86 54 118) (uO u 14) (am u 78 46 110 30 94 62 126)))))
def aP8:CC:=(.reg [(qq a5 (.mv z0)),(ee a6 (.call 91 [z5]))])
def aP9:CC:=(.reg [(qq a7 (.mv z0)),(qq a8 (.mv z0)),(qq a9 (.nck z8)),(qq cg (.fa 1 z9)),(qq cF (.ld1 cm)),(qq de (.mv z1)),(aa cO (.bsl 5 1 1 [(.i .u8 0)] [(0,cT)])),(ee dm (.app 5 1 1 cI cK)),(qq dC (.nck z7)),(qq dJ (.fa 1 dy)),(ez (.st 1 ec dB))])
def aQ0:CC:=(.seq (.reg [(qq a4 (.mv (.c .a0)))]) .ret)
def aQ1:CC:=(.seq (.reg [(qq a4 (.mv (.c .a0)))]) (.seq aP8 (.seq aP9 aQ0)))
def c49:CF:= .mk 5 [.t a4] aQ1
theorem e49(v0 v1:V):bh 5 [v0,v1]=(.n (.n iC (some v1) iC) (some v0) oE):=rfl
def B49:=ai @e49 (ai (wu aP8.eq_1) (ai (wu aP9.eq_1) (ai (wu aQ0.eq_1) (wu aQ1.eq_1))))
theorem ae2{F:RO}{M:Mem}{c:Nat}{v y:V}{s:List UInt8}(hy:ov F M c y s):tM F M c 5 1 1 v y=tM F M c 5 1 1 v (sV s):=by
 unfold tM
 rw[MK,wH Nat.one_pos hy,List.length_map,gp]
theorem kU.keep{M M':Mem}{c0 c c' bb:Nat}{v:V}{l:List UInt8}(h:kU M c0 c bb v l)(hc:c≤c')(hM:c0≤bb→bb<c→M'.get bb=M.get bb):kU M' c0 c' bb v l:=by
 rcases h with h|⟨h1,h2,n,h3,h4,h5⟩
 ·exact .inl h
 ·exact .inr ⟨h1,by omega,n,h3,h4,by rw[hM h1 h2];exact h5⟩
theorem r49(Φ:Nat→Option CF)(h:Φ 49=some c49)(h91:Φ 91=some PD){F:RO}{M0 M:Mem}{c0 c b bb:Nat}{l:List UInt8}(ok:d9 F M c)(hg:Gr c0 M0 c M)(hb:j9 M c0 c b bb l)(x:UInt8)(hr:kP (l.length+1) 1=true):
 Calls Φ F 49 [.p b 0,bV x] M c fun _ M' c'=>∃bb',j9 M' c0 c' b bb' (l++[x])∧Gr c0 M0 c' M'∧c≤c'∧(∀y,y<c→y≠b→y≠bb→M'.get y=M.get y)∧(bb'=bb∨c≤bb'):=by
 obtain⟨k1,k2,k3,a,v,hM,ha,hbuf⟩:=hb
 refine az h ?_
 simp only[WX,B49]
 refine av ((r91 Φ h91 hM ha).mono ?_)
 rintro v1 M1 c1 ⟨rfl,rfl⟩
 have hg1:=hg.set b (ax 96 [.p b 0,v]) k1 k2 (ah _)
 have g1:(M.set b (ax 96 [.p b 0,v])).get b=some (ax 96 [.p b 0,v]):=au _ _ _
 have l1:load1 F (M.set b (ax 96 [.p b 0,v])) b 1=some v:=aj g1 1
 have hbuf1:kU (M.set b (ax 96 [.p b 0,v])) c0 c1 bb v l:=hbuf.keep (ah _) fun _ _=>aK _ _ (Ne.symm k3)
 have fb:flatten (bV x)=[bV x]:=rfl
 have ob:cY (bV x)=true:=rfl
 simp only[WX,B49,tw,j6,l1,fb,ob]
 have hM2:∀y,y≠b→(M.set b (ax 96 [.p b 0,v])).get y=M.get y:=fun y hy=>aK _ _ hy
 generalize M.set b (ax 96 [.p b 0,v])=M2 at hg1 g1 l1 hbuf1 hM2⊢
 have hg2:=hg1.set c1 (dx [.i .u8 0] 5 [bV x]) (by have:=hg.le;omega) (aL _) (aP _)
 have hy:ov F (M2.set c1 (dx [.i .u8 0] 5 [bV x])) (c1+1) (.l c1 0 1 1) [x]:=zo (d:=[.i .u8 0]) (ty:=5) (au _ _ _) (by omega) (fun e he=>by obtain⟨x,_,rfl⟩:=List.mem_map.1 he;rfl) rfl
 rw[ae2 hy]
 have hbuf2:kU (M2.set c1 (dx [.i .u8 0] 5 [bV x])) c0 (c1+1) bb v l:=hbuf1.keep (aP _) fun _ h=>aK _ _ (by omega)
 refine av ((Xo (F:=F) (s:=[x]) hbuf2 hg2 hr).mono ?_)
 rintro v3 M3 c3 ⟨bb',hb3,hg3,hle,hfr,hbb⟩
 have g3:M3.get b=some (ax 96 [.p b 0,v]):=by rw[hfr b (by omega) k3,aK _ _ (by omega)];exact g1
 obtain⟨o1,o2,_⟩:=A2 hb3
 have hst:=bf g3 1 [v3] (by simp) (by rw[dh,o1];rfl)
 simp only[WX,Nat.reduceAdd,B49,tw,j6,o2,hst]
 have hne:b≠bb':=by rcases hbb with h|h<;>omega
 refine⟨bb',⟨k1,by omega,hne,_,_,au _ _ _,.inr rfl,hb3.keep (ah _) fun _ _=>aK _ _ (Ne.symm hne)⟩,hg3.set b _ k1 (by omega) (ah _),by omega,fun y hy hyb hyb2=>?_,by omega⟩
 rw[aK _ _ hyb,hfr y (by omega) hyb2,aK _ _ (by omega),hM2 y hyb]
def Rd:CC:=(.reg [(qq a3 (.mv xT)),(qq a4 (.mv xF))])
def bm0:=wu Rd.eq_1
def Re:CC:=(.reg [(qq a5 (.mv (x6 0)))])
def bm1:=wu Re.eq_1
def Rf:CC:=(.reg [(qq cF (.mv z5)),(qq de (.mv z0)),(qq cO (.ln .str cT)),(qq dm (.bi .lss cI cK))])
def bm2:=wu Rf.eq_1
def Rg:CC:=(.seq Rf (.cond dB .skip (.exit 0)))
def bm3:=wu Rg.eq_1
def Rh:CC:=(.reg [(qq dX (.mv z0)),(qq dS (.mv z5)),(qq dN (.ixS dL eA)),(qq a6 (.mv fk))])
def bm4:=wu Rh.eq_1
def Ri:CC:=(.reg [(qq fi (.mv z6)),(qq eL (.bi .geq fl (.c (.i .u8 128))))])
def bm5:=wu Ri.eq_1
def Rj:CC:=(.reg [(qq a3 (.mv xF))])
def bm6:=wu Rj.eq_1
def Rk:CC:=(.cond fT (.seq Rj (.exit 0)) .skip)
def bm7:=wu Rk.eq_1
def Rl:CC:=(.reg [(qq eM (.mv z4)),(qq ew (.mv fm)),(aU dG (.mv z6) ew),(aU eE (.bi .leq (.c (.i .u8 97)) fX) ew),(aU eU (.mv fY) ew),(ak fC (.mv z6) eU),(ak fU (.bi .leq gi (.c (.i .u8 122))) eU),(aU fp (.pk ib ic xF) ew),(qq fD (.pk fW xT ij)),(qq a4 (.mv il))])
def bm8:=wu Rl.eq_1
def Hh:CC:=(.reg [(qq dC (.mv z5)),(qq dJ (.bi .add dy (x6 1))),(qq a5 (.mv ec))])
def ar4:=wu Hh.eq_1
def Hi:CC:=(.seq (.block 1 (.seq Rh (.seq (.seq Ri Rk) Rl))) Hh)
def ar5:=wu Hi.eq_1
def Hj:CC:=(.reg [(qq iF (.mv z3))])
def ar6:=wu Hj.eq_1
def Hk:CC:=(.reg [(qq gu (.mv z4)),(qq gH (.un .not jh))])
def ar7:=wu Hk.eq_1
def Hl:CC:=(.reg [(qq ga (.mv z0)),(qq a2 (.mv jz))])
def ar8:=wu Hl.eq_1
def Hm:CC:=(.cond ji (.seq Hl .ret) .skip)
def ar9:=wu Hm.eq_1
def Hn:CC:=(.reg [(aa a7 (.al 96 [.p0,.l0]))])
def as1:=wu Hn.eq_1
def Ho:CC:=(.reg [(qq a8 (.mv (x6 0)))])
def as2:=wu Ho.eq_1
def Hp:CC:=(.reg [(qq iG (.mv z0)),(qq jb (.ln .str jj)),(ee iP (.call 115 [z7,k5]))])
def as3:=wu Hp.eq_1
def Hq:CC:=(.reg [(qq a9 (.mv (x6 0)))])
def as4:=wu Hq.eq_1
def Hr:CC:=(.reg [(qq ia (.mv z9)),(qq j0 (.mv z0)),(qq ie (.ln .str k8)),(qq jB (.bi .lss j1 kg))])
def rk:=wu Hr.eq_1
def Hs:CC:=(.seq Hr (.cond kh .skip (.exit 2)))
def rn:=wu Hs.eq_1
def Ht:CC:=(.reg [(qq jm (.mv z0)),(qq k6 (.mv z9)),(qq kS (.ixS lm lr)),(qq cg (.mv mJ))])
def AU:=wu Ht.eq_1
def Hu:CC:=(.reg [(qq kT (.mv cm)),(qq jv (.bi .leq (.c (.i .u8 97)) lq)),(qq gj (.mv mw)),(ak mh (.mv cm) gj),(ak k7 (.bi .leq mM (.c (.i .u8 122))) gj),(qq kd (.pk mf nN xF))])
def AV:=wu Hu.eq_1
def Hv:CC:=(.reg [(qq iH (.mv cm)),(qq mB (.bi .sub nO (.c (.i .u8 32)))),(qq cg (.mv oF))])
def AW:=wu Hv.eq_1
def Hw:CC:=(.reg [(qq mC (.mv z8)),(qq kW (.mv z9)),(qq kL (.bi .lss ot nP))])
def AX:=wu Hw.eq_1
def Hx:CC:=(.reg [(qq mD (.mv z0)),(qq oy (.mv z8)),(qq mE (.mv z9)),(qq mF (.slS p8 (some pV) (some pW))),(ee oz (.call 48 [z7,ry]))])
def MT:=wu Hx.eq_1
def Hy:CC:=(.seq Hw (.cond p7 Hx .skip))
def AY:=wu Hy.eq_1
def zS:CC:=(.reg [(qq mR (.mv cm)),(ee rt (.call 49 [z7,rq]))])
def as5:=wu zS.eq_1
def zT:CC:=(.reg [(qq qb (.mv z9)),(qq sK (.bi .add sH (x6 1))),(qq a8 (.mv uz))])
def as6:=wu zT.eq_1
def Hz:CC:=(.cond oq (.seq Hv (.seq Hy (.seq zS zT))) .skip)
def AZ:=wu Hz.eq_1
def zU:CC:=(.reg [(qq jc (.mv z9)),(qq jd (.bi .add kK (x6 1))),(qq a9 (.mv ll))])
def as7:=wu zU.eq_1
def HA:CC:=(.seq (.block 3 (.seq Ht (.seq Hu Hz))) zU)
def B0:=wu HA.eq_1
def HB:CC:=(.reg [(qq pc (.mv z8)),(qq mi (.mv z0)),(qq pU (.ln .str xq)),(qq tL (.bi .lss xp xr))])
def B2:=wu HB.eq_1
def HC:CC:=(.reg [(qq sL (.mv z0)),(qq pd (.mv z8)),(qq ub (.slS xD (some yf) none)),(ee uc (.call 48 [z7,xE]))])
def MU:=wu HC.eq_1
def zV:CC:=(.seq HB (.cond xu HC .skip))
def B4:=wu zV.eq_1
def ud:CC:=(.reg [(ee sM (.call 53 [z7])),(qq a2 (.mv zD))])
def as8:=wu ud.eq_1
def HD:CC:=(.seq (.seq Hq (.block 2 (.loop (.seq Hs HA)))) (.seq zV (.seq ud .ret)))
def as9:=wu HD.eq_1
def HE:CC:=(.seq (.seq Hk Hm) (.seq Hn (.seq Ho (.seq Hp HD))))
def at2:=wu HE.eq_1
def HF:CC:=(.seq Hj (.cond iE HE .skip))
def at3:=wu HF.eq_1
def uf:CC:=(.reg [(qq ru (.mv z0)),(ee xN (.call 121 [(.c (.f 147 [] [])),zE])),(qq a2 (.mv BD))])
def at4:=wu uf.eq_1
def HG:CC:=(.seq (.seq Re (.block 0 (.loop (.seq Rg Hi)))) (.seq HF (.seq uf .ret)))
def at5:=wu HG.eq_1
def HH:CC:=(.seq (.reg [(qq a2 (.mv (.c (.s 0 0))))]) (.seq Rd HG))
def at6:=wu HH.eq_1
def Xs:CF:= .mk 7 [.t a2] HH
theorem cx9(v0:V):bh 7 [v0]=(.n xC (some v0) xC):=rfl
def tC:=ai @cx9 (ai @bm0 (ai @bm1 (ai @bm2 (ai @bm3 (ai @bm4 (ai @bm5 (ai @bm6 (ai @bm7 (ai @bm8 (ai @ar4 (ai @ar5 (ai @ar6 (ai @ar7 (ai @ar8 (ai @ar9 (ai @as1 (ai @as2 (ai @as3 (ai @as4 (ai @rk (ai @rn (ai @AU (ai @AV (ai @AW (ai @AX (ai @MT (ai @AY (ai @as5 (ai @as6 (ai @AZ (ai @as7 (ai @B0 (ai @B2 (ai @MU (ai @B4 (ai @as8 (ai @as9 (ai @at2 (ai @at3 (ai @at4 (ai @at5 (@at6))))))))))))))))))))))))))))))))))))))))))
def loU(b:UInt8):Bool:=decide (97≤b.toNat)&&decide (b.toNat≤122)
def uw(b:UInt8):UInt8:=if loU b=true then b-32 else b
theorem bj8{x:UInt8}(h:loU x=true):V.i .u8 ((x.toNat-32:Nat):Int)=bV (uw x):=by
 have h':=h
 unfold loU at h'
 rw[aD,decide_eq_true_eq,decide_eq_true_eq]at h'
 unfold uw
 rw[ac h,bV,UInt8.toNat_sub_of_le _ _ (by rw[UInt8.le_iff_toNat_le];show 32≤_;omega)];rfl
theorem b24{x:UInt8}(h:loU x=false):uw x=x:=by unfold uw;rw[h];rfl
theorem yW:∀{l:List UInt8},l.any loU=false→l.map uw=l
 |[],_=>rfl
 |x::l,h=>by
  rw[List.any_cons,Bool.or_eq_false_iff]at h;rw[List.map_cons,b24 h.1,yW h.2]
theorem wN{α:Type}{l:List α}{p i:Nat}(hp:p≤i)(h:i<l.length):(l.take (i+1)).drop p=(l.take i).drop p++[l[i]]:=by
 rw[fQ h,List.drop_append_of_le_length (by rw[List.length_take];omega)]
theorem cH7(Φ:Nat→Option CF)(h:Φ 118=some Xs)(h115:Φ 115=some Ew)(h91:Φ 91=some PD)(h48:Φ 48=some c48)(h49:Φ 49=some c49)(h53:Φ 53=some c53)(h145:Φ 145=some C9){F:RO}{M:Mem}{c:Nat}(ok:d9 F M c)(l:List UInt8)(hl:l.length≤1000000)(ha:∀x∈l,x.toNat<128):
 Calls Φ F 118 [sV l] M c fun r M' c'=>r=sV (l.map uw)∧Gr c M c' M':=by
 refine az h ?_
 have hge:=ok.ge
 simp only[WX,tC]
 obtain⟨I,hI⟩:∃I:Nat→St→Prop,∀n s',I n s'↔(∃(i:Nat) (u:List (Option V)),n=l.length-i∧i≤l.length∧s'= .mk ((Zr u (sV l) (.s 0 0) (.b true) (.b ((l.take i).any loU)) (.i .i64 (i:Int)))) [] M c):=⟨fun n s'=>_,fun _ _=>Iff.rfl⟩
 refine bG I ?_ l.length _ ((hI _ _).2 ⟨0,(G1 (X1 (G4 (aM (bO (bE (X8 (X1 [])))))))),rfl,aF _,rfl⟩)
 intro n s' hIs
 obtain⟨i,u,rfl,hi,rfl⟩:=(hI _ _).1 hIs
 clear hIs
 have q8:bD .add (.i .i64 (i:Int)) (.i .i64 1)=some (.i .i64 ((i+1:Nat):Int)):=by rw[aO _ _ (by omega) (by omega)];simp
 by_cases hlt:i<l.length
 ·have d1:decide ((i:Int)<(l.length:Int))=true:=ae (by omega);have x1:=oC l .i64 i hlt;have hx:=ha _ (List.getElem_mem hlt);have hany:(l.take (i+1)).any loU=((l.take i).any loU||loU l[i]):=by rw[fQ hlt,List.any_append];simp
  have fin:∀(b:Bool) u,b=(l.take (i+1)).any loU→ ∃m<l.length-i,I m (.mk ((Zr u (sV l) (.s 0 0) (.b true) (.b b) (.i .i64 ((i+1:Nat):Int)))) [] M c):=fun b u hb=>⟨l.length-(i+1),by omega,(hI _ _).2 ⟨i+1,u,rfl,hlt,by rw[hb]⟩⟩;rw[bV]at x1;have d2:decide ((128:Int)≤(l[i].toNat:Int))=false:=ag (by omega);cases hb:(l.take i).any loU with
  |true=>
   simp only[WX,tC,d1,x1,d2,q8];exact fin true (G1 (X1 (G4 (aM (bO (bE (X8 (X1 [])))))))) (by rw[hany,hb];rfl)
  |false=>
   by_cases h1:97≤l[i].toNat
   ·have d3:decide ((97:Int)≤(l[i].toNat:Int))=true:=ae (by omega);simp only[WX,tC,d1,x1,d2,d3,q8];exact fin _ (G1 (X1 (G4 (aM (bO (bE (X8 (X1 [])))))))) (by rw[hany,hb];unfold loU;rw[ae h1,Bool.false_or,Bool.true_and];congr 1;apply propext;omega)
   ·have d3:decide ((97:Int)≤(l[i].toNat:Int))=false:=ag (by omega);simp only[WX,tC,d1,x1,d2,d3,q8];exact fin _ (G1 (X1 (G4 (aM (bO (bE (X8 (X1 [])))))))) (by rw[hany,hb];unfold loU;rw[ag h1];rfl)
 obtain rfl:i=l.length:=by omega
 have d1:decide ((l.length:Int)<(l.length:Int))=false:=ag (by omega)
 rw[List.take_length]
 cases hb:l.any loU with
 |false=>
  simp only[WX,tC,d1];exact⟨by rw[yW hb],Gr.refl ok⟩
 |true=>
  simp only[WX,tC,d1];have g0:=(Gr.refl ok).set c (ax 96 [.p0,.l0]) (ah _) (aL _) (aP _);refine av ((cd3 Φ h115 h91 h145 (g0.ok ok) g0 (ah _) (aL _) (au _ _ _) l.length (by omega)).mono ?_);rintro r M1 c1 ⟨bb,hb1,g1,le1,_⟩;simp only[WX,tC];obtain⟨I2,hI2⟩:∃I:Nat→St→Prop,∀n s',I n s'↔(∃(i pos c1 bb:Nat) (M1:Mem) (u:List (Option V)),n=l.length-i∧i≤l.length∧pos≤i∧s'= .mk ((b20 u (sV l) (.s 0 0) (.p c 0) (.i .i64 (pos:Int)) (.i .i64 (i:Int)))) [] M1 c1∧Gr c M c1 M1∧j9 M1 c c1 c bb ((l.take pos).map uw)∧(l.take i).map uw=(l.take pos).map uw++(l.take i).drop pos):=⟨fun n s'=>_,fun _ _=>Iff.rfl⟩
  refine bG I2 ?_ l.length _ ((hI2 _ _).2 ⟨0,0,c1,bb,M1,(G1 (X1 (G1 (X4 (G2 (G1 (aM (bO (bE (X4 (X1 []))))))))))),rfl,aF _,ah _,rfl,g1,hb1,rfl⟩);intro n s' hIs;clear hI;obtain⟨i,pos,c1,bb,M1,u,rfl,hi,hpi,rfl,g1,hb1,hmap⟩:=(hI2 _ _).1 hIs;clear hIs;have cD:=g1.ok ok;have q8:bD .add (.i .i64 (i:Int)) (.i .i64 1)=some (.i .i64 ((i+1:Nat):Int)):=by rw[aO _ _ (by omega) (by omega)];simp
  by_cases hlt:i<l.length
  ·have d1:decide ((i:Int)<(l.length:Int))=true:=ae (by omega);have x1:=oC l .i64 i hlt;have hx:=ha _ (List.getElem_mem hlt);have htk:=fQ hlt;have htd:=wN hpi hlt;generalize l[i]=x at x1 hx htk htd;rw[bV]at x1;have hmap':(l.take (i+1)).map uw=(l.take pos).map uw++(l.take i).drop pos++[uw x]:=by rw[htk,List.map_append,hmap];rfl
   cases hlo:loU x with
   |false=>
    have fin:∀u,∃m<l.length-i,I2 m (.mk ((b20 u (sV l) (.s 0 0) (.p c 0) (.i .i64 (pos:Int)) (.i .i64 ((i+1:Nat):Int)))) [] M1 c1):=fun u=>⟨l.length-(i+1),by omega,(hI2 _ _).2 ⟨i+1,pos,c1,bb,M1,u,rfl,hlt,by omega,rfl,g1,hb1,by rw[hmap',b24 hlo,htd,gf]⟩⟩;unfold loU at hlo;by_cases h1:97≤x.toNat
    ·have d3:decide ((97:Int)≤(x.toNat:Int))=true:=ae (by omega);rw[ae h1,Bool.true_and,decide_eq_false_iff_not]at hlo;have d4:decide ((x.toNat:Int)≤122)=false:=ag (by omega);simp only[WX,tC,d1,x1,d3,d4,q8];exact fin (G1 (X1 (G1 (X4 (G2 (G1 (aM (bO (bE (X4 (X1 [])))))))))))
    ·have d3:decide ((97:Int)≤(x.toNat:Int))=false:=ag (by omega);simp only[WX,tC,d1,x1,d3,q8];exact fin (G1 (X1 (G1 (X4 (G2 (G1 (aM (bO (bE (X4 (X1 [])))))))))))
   |true=>
    have hlo':=hlo;unfold loU at hlo';rw[aD,decide_eq_true_eq,decide_eq_true_eq]at hlo';have d3:decide ((97:Int)≤(x.toNat:Int))=true:=ae (by omega);have d4:decide ((x.toNat:Int)≤122)=true:=ae (by omega);have s1:bD .sub (.i .u8 (x.toNat:Int)) (.i .u8 32)=some (bV (uw x)):=by rw[eF,bS,←bj8 hlo];congr 2;omega
    have hlen:((l.take pos).map uw).length=pos:=by rw[List.length_map,List.length_take];omega
    have hlen2:((l.take i).drop pos).length=i-pos:=by rw[bP,List.length_take];omega
    have last:∀(u:List (Option V)) M2 c2 b2,Gr c M c2 M2→j9 M2 c c2 c b2 ((l.take pos).map uw++(l.take i).drop pos)→Wp (zS.seq zT) (K Φ none 118 F) (.mk ((cg5 u (sV l) (.s 0 0) (.p c 0) (.i .i64 (i:Int)) (bV (uw x)))) [] M2 c2) (fV 3 (lg zU (K Φ none 118 F) (nw I2 (l.length-i) (fV 2 (lg (zV.seq (ud.seq .ret)) (K Φ none 118 F) (lg (uf.seq .ret) (K Φ none 118 F) (cX F [.t (.r .h)] fun r M' c'=>r=sV (l.map uw)∧Gr c M c' M'))))))):=by
     intro u M2 c2 b2 g2 hb2;simp only[WX,tC];refine av ((r49 Φ h49 h91 (g2.ok ok) g2 hb2 (uw x) (jt (by rw[bw,hlen,hlen2];omega))).mono ?_);rintro r M3 c3 ⟨b3,hb3,g3,_,_,_⟩;simp only[WX,tC,q8];exact⟨l.length-(i+1),by omega,(hI2 _ _).2 ⟨i+1,i+1,c3,b3,M3,(G1 (X1 (G1 (X4 (G2 (G1 (aM (bO (bE (X4 (X1 []))))))))))),rfl,hlt,ah _,rfl,g3,by rw[hmap'];exact hb3,by rw[List.drop_eq_nil_of_le (by rw[List.length_take];omega),cL]⟩⟩
    by_cases hp:pos<i
    ·have d5:decide ((pos:Int)<(i:Int))=true:=ae (by omega);have sl:=b15 l .i64 .i64 pos i hpi hi;simp only[WX,rk,rn,AU,AV,AW,AX,MT,AY,AZ,B0,d1,x1,d3,d4,s1,d5,sl];refine av ((r48 Φ h48 h91 cD g1 hb1 ((l.take i).drop pos) (jt (by rw[hlen,hlen2];omega))).mono ?_);rintro r M2 c2 ⟨b2,hb2,g2,_,_,_⟩;simp only[WX];rw[←be];exact last (G1 (X1 (G1 (X4 (G1 (X1 (G2 (aM (bO (bE (X4 []))))))))))) M2 c2 b2 g2 hb2
    ·have d5:decide ((pos:Int)<(i:Int))=false:=ag (by omega);simp only[WX,rk,rn,AU,AV,AW,AX,AY,AZ,B0,d1,x1,d3,d4,s1,d5];rw[←be];exact last (G1 (X1 (G1 (X4 (G1 (X1 (G2 (aM (bO (bE (X4 []))))))))))) M1 c1 bb g1 (by rw[List.drop_eq_nil_of_le (by rw[List.length_take];omega),cL];exact hb1)
  ·obtain rfl:i=l.length:=by omega
   have d1:decide ((l.length:Int)<(l.length:Int))=false:=ag (by omega);rw[List.take_length]at hmap;have hlen:((l.take pos).map uw).length=pos:=by rw[List.length_map,List.length_take];omega
   have last:∀(u:List (Option V)) M2 c2 b2,Gr c M c2 M2→j9 M2 c c2 c b2 (l.map uw)→Wp (ud.seq .ret) (K Φ none 118 F) (.mk ((cg6 u (sV l) (.s 0 0) (.p c 0))) [] M2 c2) (lg (uf.seq .ret) (K Φ none 118 F) (cX F [.t (.r .h)] fun r M' c'=>r=sV (l.map uw)∧Gr c M c' M')):=by
    intro u M2 c2 b2 g2 hb2;simp only[WX,tC];refine av ((r53 Φ h53 (g2.ok ok) g2 hb2 (by rw[List.length_map];omega)).mono ?_);rintro r M3 c3 ⟨rfl,g3,_,_⟩;simp only[WX];exact g3
   by_cases hp:pos<l.length
   ·have d5:decide ((pos:Int)<(l.length:Int))=true:=ae (by omega);have sl:=tl l .i64 pos (by omega);simp only[WX,rk,rn,B2,MU,B4,d1,d5,sl];refine av ((r48 Φ h48 h91 cD g1 hb1 (l.drop pos) (jt (by rw[hlen,bP];omega))).mono ?_);rintro r M2 c2 ⟨b2,hb2,g2,_,_,_⟩;simp only[WX];rw[←hmap]at hb2;rw[←be];exact last (G1 (X1 (G1 (X4 (G1 (aM (bO (bE (X4 (X2 (X1 []))))))))))) M2 c2 b2 g2 hb2
   ·have d5:decide ((pos:Int)<(l.length:Int))=false:=ag (by omega);simp only[WX,rk,rn,B2,B4,d1,d5];rw[List.drop_eq_nil_of_le (by omega),cL]at hmap;rw[←hmap]at hb1;rw[←be];exact last (G1 (X1 (G1 (X4 (G1 (aM (bO (bE (X4 (X2 (X1 []))))))))))) M1 c1 bb g1 hb1
abbrev b18(u:List (Option V))(x0 x1 x8 x9 x10 x11 x12 x13 x99 x100 x101:V):T:=(.n (.n (.n (.n (.n (am u 127 63 191 31 159 95 223) (uO u 15) (am u 143 79 207 47 175 111 239)) (uO u 7) (.n (am u 135 71 199 39 167 103 231) (uO u 23) (am u 151 87 215 55 183 119 247))) (uO u 3) (.n (.n (.n (hU u 131 67 195) (uO u 35) (.n (ju u 163) (some x99) (ju u 227))) (uO u 19) (am u 147 83 211 51 179 115 243)) (some x11) (.n (am u 139 75 203 43 171 107 235) (uO u 27) (am u 155 91 219 59 187 123 251)))) (some x1) (.n (.n (.n (am u 129 65 193 33 161 97 225) (uO u 17) (am u 145 81 209 49 177 113 241)) (some x9) (.n (am u 137 73 201 41 169 105 233) (uO u 25) (am u 153 89 217 57 185 121 249))) (uO u 5) (.n (.n (.n (hU u 133 69 197) (uO u 37) (.n (ju u 165) (some x101) (ju u 229))) (uO u 21) (am u 149 85 213 53 181 117 245)) (some x13) (.n (am u 141 77 205 45 173 109 237) (uO u 29) (am u 157 93 221 61 189 125 253))))) (some x0) (.n (.n (.n (.n (am u 128 64 192 32 160 96 224) (uO u 16) (am u 144 80 208 48 176 112 240)) (some x8) (.n (am u 136 72 200 40 168 104 232) (uO u 24) (am u 152 88 216 56 184 120 248))) (uO u 4) (.n (.n (.n (hU u 132 68 196) (uO u 36) (.n (ju u 164) (some x100) (ju u 228))) (uO u 20) (am u 148 84 212 52 180 116 244)) (some x12) (.n (am u 140 76 204 44 172 108 236) (uO u 28) (am u 156 92 220 60 188 124 252)))) (uO u 2) (.n (.n (.n (am u 130 66 194 34 162 98 226) (uO u 18) (am u 146 82 210 50 178 114 242)) (some x10) (.n (am u 138 74 202 42 170 106 234) (uO u 26) (am u 154 90 218 58 186 122 250))) (uO u 6) (.n (.n (am u 134 70 198 38 166 102 230) (uO u 22) (am u 150 86 214 54 182 118 246)) (uO u 14) (.n (am u 142 78 206 46 174 110 238) (uO u 30) (am u 158 94 222 62 190 126 254))))))
def Te:CC:=(.reg [(qq a3 (.mv z0)),(qq a4 (.bi .or z3 (.c (.i .u8 32)))),(qq a2 (.mv z4))])
def Tf:CC:=(.seq (.reg [(qq a2 (.mv (.c (.i .u8 0))))]) (.seq Te .ret))
def af0:CF:= .mk 3 [.t a2] Tf
theorem cz0(v0:V):bh 3 [v0]=(.n mL (some v0) mL):=rfl
def cv3:=ai @cz0 (ai (wu Te.eq_1) (wu Tf.eq_1))
def S1:CC:=(.reg [(qq a6 (.mv (.c (.i .u64 0)))),(qq a7 (.mv (.c .a0)))])
def S2:CC:=(.reg [(qq dS (.mv z0)),(qq dN (.bi .eql eA (.c (.s 0 0))))])
def S3:CC:=(.reg [(qq fi (.mki 177 (x6 2))),(qq a6 (.mv (.c (.i .u64 0)))),(qq a7 (.mv fl))])
def S4:CC:=(.cond fk (.seq S3 .ret) .skip)
def S5:CC:=(.reg [(qq eL (.mv z1)),(qq eM (.bi .eql fT (x6 0))),(qq a8 (.mv fm))])
def S6:CC:=(.reg [(qq ew (.mv z0)),(qq a9 (.mv fW))])
def S7:CC:=(.reg [(qq eU (.mv z1)),(qq fC (.bi .leq (x6 2) ib)),(qq fU (.mv gi)),(ak fp (.mv z1) fU),(ak fD (.bi .leq ij (x6 36)) fU),(qq iF (.pk ic il xF)),(qq eE (.mv iE))])
def S8:CC:=(.reg [(qq gH (.mv z1)),(qq ga (.bi .eql ji (x6 0))),(qq gu (.mv jz))])
def S9:CC:=(.reg [(qq iG (.mv z0)),(qq jb (.ixS jj (x6 0))),(qq iP (.bi .eql k5 (.c (.i .u8 48))))])
def HI:CC:=(.reg [(qq jB (.mv z0)),(qq jc (.ln .str kh)),(qq jd (.bi .geq kK (x6 3))),(qq jm (.mv ll)),(ak k6 (.mv z0) jm),(ak kS (.ixS lr (x6 1)) jm),(dZ kT (.call 149 [mJ]) jm),(ak jv (.bi .eql lq (.c (.i .u8 98))) jm),(qq gj (.pk lm mw xF)),(qq ie (.mv mf))])
def HJ:CC:=(.reg [(qq mh (.mv z0)),(qq k7 (.slS mM (some (x6 2)) none)),(qq a0 (.mv nN))])
def HK:CC:=(.seq (.reg [(qq a1 (.mv (x6 2)))]) HJ)
def HL:CC:=(.reg [(qq iH (.mv z0)),(qq mB (.ln .str nO)),(qq mC (.bi .geq oF (x6 3))),(qq kW (.mv ot)),(ak kL (.mv z0) kW),(ak mD (.ixS p7 (x6 1)) kW),(dZ oy (.call 149 [p8]) kW),(ak mE (.bi .eql pV (.c (.i .u8 111))) kW),(qq mF (.pk nP pW xF)),(qq kd (.mv ry))])
def HM:CC:=(.reg [(qq oz (.mv z0)),(qq mR (.slS rp (some (x6 2)) none)),(qq a0 (.mv rq))])
def HN:CC:=(.seq (.reg [(qq a1 (.mv (x6 8)))]) HM)
def HO:CC:=(.reg [(qq qb (.mv z0)),(qq sK (.ln .str sH)),(qq pc (.bi .geq uz (x6 3))),(qq mi (.mv xp)),(ak pU (.mv z0) mi),(ak tL (.ixS xr (x6 1)) mi),(dZ sL (.call 149 [xu]) mi),(ak pd (.bi .eql xD (.c (.i .u8 120))) mi),(qq ub (.pk xq yf xF)),(qq rt (.mv xE))])
def HP:CC:=(.reg [(qq uc (.mv z0)),(qq sM (.slS zC (some (x6 2)) none)),(qq a0 (.mv zD))])
def HQ:CC:=(.seq (.reg [(qq a1 (.mv (x6 16)))]) HP)
def HR:CC:=(.reg [(qq ia (.mv z0)),(qq j0 (.slS j1 (some (x6 1)) none)),(qq a0 (.mv k8))])
def HS:CC:=(.seq (.reg [(qq a1 (.mv (x6 8)))]) HR)
def HT:CC:=(.cond xn HQ HS)
def HU:CC:=(.cond oq HN (.seq HO HT))
def HV:CC:=(.cond kg HK (.seq HL HU))
def HW:CC:=(.cond jk (.block 1 (.seq HI HV)) .skip)
def HX:CC:=(.seq (.reg [(qq a1 (.mv (x6 10)))]) (.seq S9 HW))
def HY:CC:=(.reg [(qq dG (.mki 177 (x6 3))),(qq a6 (.mv (.c (.i .u64 0)))),(qq a7 (.mv fX))])
def HZ:CC:=(.cond jh HX (.seq HY .ret))
def I0:CC:=(.cond fY .skip (.seq S8 HZ))
def I3:CC:=(.reg [(qq ru (.mv z2)),(qq xN (.bi .eql zE (x6 0)))])
def I4:CC:=(.reg [(qq BB (.mv z2)),(qq BC (.bi .lss BE (x6 0))),(qq xO (.mv GT)),(aU DB (.mv z2) xO),(aU DC (.bi .gtr PF (x6 64)) xO),(qq DD (.pk GU xT Nx))])
def I5:CC:=(.reg [(qq rC (.mki 177 (x6 4))),(qq a6 (.mv (.c (.i .u64 0)))),(qq a7 (.mv GV))])
def I6:CC:=(.cond PG (.seq I5 .ret) .skip)
def I7:CC:=(.cond BD (.reg [(qq a2 (.mv (x6 64)))]) (.seq I4 I6))
def I8:CC:=(.reg [(qq cg (.mv (.c (.i .u64 0))))])
def I9:CC:=(.reg [(qq DR (.mv z1))])
def Ia:CC:=(.reg [(qq DX (.bi .eql Pz (x6 10))),(qq DW (.mv NA))])
def Ib:CC:=(.reg [(qq cg (.mv (.c (.i .u64 1844674407370955162))))])
def Ic:CC:=(.reg [(qq DY (.bi .eql Pz (x6 16))),(qq xP (.mv PL))])
def Id:CC:=(.reg [(qq cg (.mv (.c (.i .u64 1152921504606846976))))])
def Ie:CC:=(.reg [(qq DT (.mv z1)),(qq DU (.ci .u64 Ny)),(qq DV (.bi .quo (.c (.i .u64 18446744073709551615)) PH)),(qq xA (.bi .add PI (.c (.i .u64 1)))),(qq cg (.mv PJ))])
def Ig:CC:=(.cond PK Id Ie)
def Ih:CC:=(.cond Nz Ib (.seq Ic Ig))
def Ii:CC:=(.reg [(qq BV (.mv z2)),(qq DE (.ci .u64 PM)),(qq H5 (.bi .shl (.c (.i .u64 1)) z95)),(qq H6 (.bi .sub NB (.c (.i .u64 1)))),(qq cF (.mv z97))])
def Ij:CC:=(.reg [(qq de (.mv xF))])
def Ik:CC:=(.reg [(qq cO (.mv (.c (.i .u64 0))))])
def Il:CC:=(.reg [(qq H7 (.mv z0)),(aa BW (.sb 5 z98)),(qq mO (.ln .slice PN)),(qq mA (.mv (x6 0)))])
def Im:CC:=(.reg [(qq mP (.bi .lss sG y5))])
def Io:CC:=(.cond xj .skip (.exit 3))
def Ip:CC:=(.reg [(qq pa (.iaS 1 PN sG)),(qq qa (.ld1 y6)),(qq dC (.mv y7))])
def Iq:CC:=(.reg [(qq dJ (.mv (.c (.i .u8 0))))])
def Ir:CC:=(.reg [(qq iO (.mv dy)),(qq zJ (.bi .eql y9 (.c (.i .u8 95)))),(qq xK (.mv ye)),(ak xL (.mv z8) xK),(qq tH (.pk Dr Bz xF)),(qq uE (.mv GB))])
def Is:CC:=(.reg [(qq de (.mv xT))])
def It:CC:=(.reg [(qq zL (.mv dy)),(qq zM (.bi .leq (.c (.i .u8 48)) Ds)),(qq ka (.mv Dt)),(ak tI (.mv dy) ka),(ak BK (.bi .leq Dv (.c (.i .u8 57))) ka),(qq BL (.pk Du GD xF)),(qq zK (.mv GE))])
def Iu:CC:=(.reg [(qq BM (.mv dy)),(qq BN (.bi .sub GF (.c (.i .u8 48)))),(qq dJ (.mv GG))])
def Iv:CC:=(.reg [(qq uF (.mv dy)),(ee BO (.call 149 [GI])),(qq uG (.bi .leq (.c (.i .u8 97)) GJ)),(qq uH (.mv GK)),(ak BP (.mv dy) uH),(dZ ow (.call 149 [GM]) uH),(ak uI (.bi .leq GN (.c (.i .u8 122))) uH),(qq uJ (.pk GL GO xF)),(qq mQ (.mv GP))])
def Iw:CC:=(.reg [(qq BQ (.mv dy)),(ee BR (.call 149 [GQ])),(qq BS (.bi .sub GR (.c (.i .u8 97)))),(qq DO (.bi .add GS (.c (.i .u8 10)))),(qq dJ (.mv Px))])
def Ix:CC:=(.reg [(qq tG (.mki 177 (x6 2))),(qq a6 (.mv (.c (.i .u64 0)))),(qq a7 (.mv y8))])
def Iy:CC:=(.cond GH Iw (.seq Ix .ret))
def Iz:CC:=(.cond GC Iu (.seq Iv Iy))
def IA:CC:=(.cond Bx (.seq Is (.exit 4)) (.seq It Iz))
def IB:CC:=(.reg [(qq xM (.mv ec)),(qq NF (.mv z1)),(qq NG (.ci .u8 aa1)),(qq NH (.bi .geq Py aa3))])
def IC:CC:=(.reg [(qq NI (.mki 177 (x6 2))),(qq a6 (.mv (.c (.i .u64 0)))),(qq a7 (.mv aa5))])
def ID:CC:=(.cond aa4 (.seq IC .ret) .skip)
def IE:CC:=(.reg [(qq zN (.mv cK)),(qq NJ (.mv cm)),(qq NK (.bi .geq aa6 aa7))])
def IF:CC:=(.reg [(qq NL (.mv cI)),(qq PW (.mki 177 (x6 1))),(qq a6 (.mv aa9)),(qq a7 (.mv av9))])
def IG:CC:=(.cond aa8 (.seq IF .ret) .skip)
def IH:CC:=(.reg [(qq BT (.mv cK)),(qq PX (.mv z1)),(qq PY (.ci .u64 aw1)),(qq PZ (.bi .mul aw0 aw2)),(qq cO (.mv aw3))])
def II:CC:=(.reg [(qq Q0 (.mv cK)),(qq tJ (.mv ec)),(qq Q1 (.ci .u64 aw5)),(qq Q2 (.bi .add aw4 aw6)),(qq dX (.mv aw7))])
def IJ:CC:=(.reg [(qq Q3 (.mv dL)),(qq Q4 (.mv cK)),(qq zO (.bi .lss aw8 aw9)),(qq uK (.mv ax0)),(aU Q5 (.mv dL) uK),(aU Q6 (.mv cI) uK),(aU Q7 (.bi .gtr ax2 ax3) uK),(qq Q8 (.pk ax1 xT ax4))])
def IK:CC:=(.reg [(qq tK (.mv cI)),(qq Q9 (.mki 177 (x6 1))),(qq a6 (.mv ax6)),(qq a7 (.mv ax7))])
def IL:CC:=(.cond ax5 (.seq IK .ret) .skip)
def IM:CC:=(.reg [(qq Qa (.mv dL)),(qq cO (.mv ax8))])
def IP:CC:=(.seq IH (.seq II (.seq (.seq IJ IL) IM)))
def IQ:CC:=(.seq (.seq IB ID) (.seq (.seq IE IG) IP))
def IR:CC:=(.seq Iq (.seq (.block 5 (.seq Ir IA)) IQ))
def IU:CC:=(.reg [(qq Qb (.bi .add sG (x6 1))),(qq mA (.mv ax9))])
def IV:CC:=(.seq Io (.seq (.block 4 (.seq Ip IR)) IU))
def IW:CC:=(.reg [(qq Qc (.mv cT)),(qq uL (.mv ay0)),(ak Qd (.mv z9) uL),(dZ ac2 (.call 150 [ay2]) uL),(ak ac3 (.un .not by7) uL),(qq Qe (.pk ay1 by8 xF))])
def IX:CC:=(.reg [(qq DQ (.mki 177 (x6 2))),(qq a6 (.mv (.c (.i .u64 0)))),(qq a7 (.mv bz0))])
def IY:CC:=(.cond by9 (.seq IX .ret) .skip)
def IZ:CC:=(.reg [(qq ac4 (.mv cK)),(qq a6 (.mv bz1)),(qq a7 (.mv (.c .a0)))])
def J0:CC:=(.seq (.seq Il (.block 3 (.loop (.seq Im IV)))) (.seq (.seq IW IY) (.seq IZ .ret)))
def J1:CC:=(.seq (.seq I9 (.block 2 (.seq Ia Ih))) (.seq Ii (.seq Ij (.seq Ik J0))))
def J2:CC:=(.seq (.block 0 (.seq S7 I0)) (.seq (.seq I3 I7) (.seq I8 J1)))
def J3:CC:=(.seq (.seq S2 S4) (.seq S5 (.seq S6 J2)))
def xR:CF:= .mk 8 [.t a6,.t a7] (.seq S1 J3)
theorem cy1(v0 v1 v2:V):bh 8 [v0,v1,v2]=(.n (.n xC (some v1) xC) (some v0) (.n xC (some v2) xC)):=rfl
def pX:=ai @cy1 (ai (wu S1.eq_1) (ai (wu S2.eq_1) (ai (wu S3.eq_1) (ai (wu S4.eq_1) (ai (wu S5.eq_1) (ai (wu S6.eq_1) (ai (wu S7.eq_1) (ai (wu S8.eq_1) (ai (wu S9.eq_1) (ai (wu HI.eq_1) (ai (wu HJ.eq_1) (ai (wu HK.eq_1) (ai (wu HL.eq_1) (ai (wu HM.eq_1) (ai (wu HN.eq_1) (ai (wu HO.eq_1) (ai (wu HP.eq_1) (ai (wu HQ.eq_1) (ai (wu HR.eq_1) (ai (wu HS.eq_1) (ai (wu HT.eq_1) (ai (wu HU.eq_1) (ai (wu HV.eq_1) (ai (wu HW.eq_1) (ai (wu HX.eq_1) (ai (wu HY.eq_1) (ai (wu HZ.eq_1) (ai (wu I0.eq_1) (ai (wu I3.eq_1) (ai (wu I4.eq_1) (ai (wu I5.eq_1) (ai (wu I6.eq_1) (ai (wu I7.eq_1) (ai (wu I8.eq_1) (ai (wu I9.eq_1) (ai (wu Ia.eq_1) (ai (wu Ib.eq_1) (ai (wu Ic.eq_1) (ai (wu Id.eq_1) (ai (wu Ie.eq_1) (ai (wu Ig.eq_1) (ai (wu Ih.eq_1) (ai (wu Ii.eq_1) (ai (wu Ij.eq_1) (ai (wu Ik.eq_1) (ai (wu Il.eq_1) (ai (wu Im.eq_1) (ai (wu Io.eq_1) (ai (wu Ip.eq_1) (ai (wu Iq.eq_1) (ai (wu Ir.eq_1) (ai (wu Is.eq_1) (ai (wu It.eq_1) (ai (wu Iu.eq_1) (ai (wu Iv.eq_1) (ai (wu Iw.eq_1) (ai (wu Ix.eq_1) (ai (wu Iy.eq_1) (ai (wu Iz.eq_1) (ai (wu IA.eq_1) (ai (wu IB.eq_1) (ai (wu IC.eq_1) (ai (wu ID.eq_1) (ai (wu IE.eq_1) (ai (wu IF.eq_1) (ai (wu IG.eq_1) (ai (wu IH.eq_1) (ai (wu II.eq_1) (ai (wu IJ.eq_1) (ai (wu IK.eq_1) (ai (wu IL.eq_1) (ai (wu IM.eq_1) (ai (wu IP.eq_1) (ai (wu IQ.eq_1) (ai (wu IR.eq_1) (ai (wu IU.eq_1) (ai (wu IV.eq_1) (ai (wu IW.eq_1) (ai (wu IX.eq_1) (ai (wu IY.eq_1) (ai (wu IZ.eq_1) (ai (wu J0.eq_1) (ai (wu J1.eq_1) (ai (wu J2.eq_1) (wu J3.eq_1)))))))))))))))))))))))))))))))))))))))))))))))))))))))))))))))))))))))))))))))))))))
theorem fh{F:RO}(ty:Nat)(x:X)(M:Mem)(t:T):(cS (.mki ty x) F M t).val=some (.a ty (x.ev t)):=Eq.trans rfl (Eq.refl _)
theorem LA(t:Nat)(v:V):cY (.a t v)=true:=Eq.trans rfl (Eq.refl _)
theorem yI(t:Nat)(v:V):flatten (.a t v)=[.a t v]:=Eq.trans rfl (Eq.refl _)
theorem qp{F:RO}(M:Mem):xB F M .iface true .a0 .a0=some true:=Eq.trans rfl (Eq.refl _)
theorem kz{F:RO}(M:Mem)(lit:Bool)(t:Nat)(v:V):xB F M .iface lit (.a t v) .a0=some false:=Eq.trans rfl (Eq.refl _)
theorem kA{F:RO}(M:Mem)(lit:Bool)(t:Nat)(L:List Nat)(k:IntKind)(x y:Int)(h:rT t L=true):xB F M (.ifs L) lit (.a t (.i k x)) (.a t (.i k y))=some (decide (x=y)):=by
 show A7 L (.a t (.i k x)) (.a t (.i k y))=_
 show(bif Nat.beq t t then(bif rT t L then PE (.i k x) (.i k y)else none)else some false)=_
 rw[Nat.beq_refl,h]
 show PE (.i k x) (.i k y)=_
 simp[PE,eX,cB]
def nA(ty:Nat)(l:List UInt8):bq:= .cells ty l.length false 0 true [] (iY (l.map bV))
def sbA(ty:Nat)(x:V)(b:Nat):Option (V×bq):=kl (.sb ty (.c x)) b .e
theorem DZ(ty:Nat)(x:X)(b:Nat)(t:T):kl (.sb ty x) b t=sbA ty (x.ev t) b:=Eq.trans rfl (Eq.refl _)
theorem Z7(ty:Nat)(l:List UInt8)(b:Nat):sbA ty (sV l) b=some (.u b 0 l.length 0 l.length,nA ty l):=by
 show some (V.u b 0 l.length 0 l.length,bq.cells ty l.length false 0 true [] (aW (bM l.length (bH l)) 0 .e))=_
 rw[kr];rfl
theorem FP{F:RO}{M:Mem}{b c ty:Nat}{l:List UInt8}(h:M.get b=some (nA ty l))(hb:b<c):ov F M c (.u b 0 l.length 0 l.length) l:=by
 have e1:(l.map fun x=>[bV x]).length=l.length:=List.length_map ..
 refine⟨fun e he=>by obtain⟨x,_,rfl⟩:=List.mem_map.1 he;rfl,.inr ⟨b,0,.inr ⟨0,l.length,by rw[e1];omega,by rw[e1]⟩,hb,?_⟩⟩
 rw[gp]
 refine(ny (ty:=ty) (fz:=0) (ex:=false) (str:=true) ?_).cells
 rw[List.length_map];exact h
theorem cK1(Φ:Nat→Option CF)(h:Φ 149=some af0)(b:UInt8)(ct:Nat):To Φ 149 [bV b] ct (bV (b|||32)):=by
 refine fg h ?_
 have:bD .or (bV b) (.i .u8 32)=some (bV (b|||32)):=by
  show bD .or (.i .u8 (b.toNat:Int)) (.i .u8 32)=some (.i .u8 ((b|||32).toNat:Int));have hb:=UInt8.toNat_lt b;have hlt:b.toNat|||32<256:=Nat.or_lt_two_pow (n:=8) hb (by decide);rw[bH9,show toU .u8 (b.toNat:Int)=b.toNat by show((b.toNat:Int)%256).toNat=_;omega,show toU .u8 32=32 from rfl,bS,UInt8.toNat_or]
  congr 2
  show((b.toNat|||32:Nat):Int)%256=_;rw[show(32:UInt8).toNat=32 from rfl];omega
 simp only[WX,cv3,this]
def h149:List V→Option V
 |[v]=>(Qq v).bind fun b=>some (bV (b|||32))
 |_=>none
theorem Li(b:UInt8):h149 [bV b]=some (bV (b|||32)):=by
 show(Qq (bV b)).bind (fun b=>some (bV (b|||32)))=_
 rw[Hf,Option.bind_some]
def xH(e:V):Prop:=e= .a0∨e= .a 177 (.i .i64 1)∨e= .a 177 (.i .i64 2)
theorem bh9(Φ:Nat→Option CF)(h:Φ 120=some xR)(h149:Φ 149=some (.orc (bg h149))){F:RO}{M:Mem}{c:Nat}(ok:d9 F M c)(l:List UInt8)(hl:l.length≤1000000):
 Calls Φ F 120 [sV l,.i .i64 10,.i .i64 0] M c fun r M' c'=>∃(n:Nat) (e:V),r= .t [.i .u64 (n:Int),e]∧n<18446744073709551616∧xH e∧Gr c M c' M':=by
 refine az h ?_
 by_cases h0:l=[]
 ·have e0:bD .eql (sV l) (.s 0 0)=some (.b true):=by
   have:=gk l [];rw[ae h0]at this;exact this
  simp only[WX,pX,e0,fh];exact⟨0,_,rfl,by decide,.inr (.inr rfl),Gr.refl ok⟩
 ·have e0:bD .eql (sV l) (.s 0 0)=some (.b false):=by
   have:=gk l [];rw[ag h0]at this;exact this
  have w1:IntKind.u64.wrap 64=64:=rfl;have w2:bD .shl (.i .u64 1) (.i .u64 64)=some (.i .u64 0):=by have:=Eo .u64 .u64 1 64;exact this.trans rfl
  have w1003:bD .sub (.i .u64 0) (.i .u64 1)=some (.i .u64 18446744073709551615):=by rw[eF];rfl
  simp only[WX,Int.reduceEq,Int.reduceLE,pX,e0,w1,w2,w1003,DZ,Z7];have gX:Gr c M (c+1) (M.set c (nA 5 l)):=(Gr.refl ok).set c _ (ah _) (aL _) (aP _);have hsl:ov F (M.set c (nA 5 l)) (c+1) (.u c 0 l.length 0 l.length) l:=FP (au _ _ _) (aL _);generalize M.set c (nA 5 l)=X at gX hsl⊢;obtain⟨I1,hI1⟩:∃I:Nat→St→Prop,∀n s',I n s'↔(∃(i n0:Nat) (u:List (Option V)),n=l.length-i∧i≤l.length∧n0<18446744073709551616∧s'= .mk ((b18 u (sV l) (.i .i64 10) (.b false) (sV l) (.i .u64 1844674407370955162) (.i .u64 18446744073709551615) (.b false) (.i .u64 (n0:Int)) (.u c 0 l.length 0 l.length) (.i .i64 (l.length:Int)) (.i .i64 (i:Int)))) [] X (c+1)):=⟨fun n s'=>_,fun _ _=>Iff.rfl⟩
  refine bG I1 ?_ l.length _ ((hI1 _ _).2 ⟨0,0,(G2 (X4 (X2 (G4 (G2 (aM (bE (X4 (X1 (G2 (G1 (aM (aM (bE (X8 (X1 [])))))))))))))))),rfl,aF _,by decide,rfl⟩);intro n s' hIs;obtain⟨i,n0,u,rfl,hi,hn0,rfl⟩:=(hI1 _ _).1 hIs;clear hIs;by_cases hlt:i<l.length
  ·have d1:decide ((i:Int)<(l.length:Int))=true:=ae (by omega);obtain⟨b1,o1,_,ia1,ld1⟩:=hsl.get i hlt;have hx:l[i].toNat<256:=UInt8.toNat_lt l[i];have hlow:Ev.h149 [.i .u8 (l[i].toNat:Int)]=some (.i .u8 ((l[i]|||32).toNat:Int)):=Li l[i];generalize(l[i]|||32).toNat=y at hlow;generalize l[i].toNat=x at ld1 hx hlow;have q8:bD .add (.i .i64 (i:Int)) (.i .i64 1)=some (.i .i64 ((i+1:Nat):Int)):=by rw[aO _ _ (by omega) (by omega)];simp
   by_cases hA:48≤x∧x≤57
   ·have e1:decide ((x:Int)=95)=false:=ag (by omega);have e2:decide ((48:Int)≤(x:Int))=true:=ae (by omega);have e1003:decide ((x:Int)≤57)=true:=ae (by omega);have s1:bD .sub (.i .u8 (x:Int)) (.i .u8 48)=some (.i .u8 ((x-48:Nat):Int)):=by rw[eF,bS];congr 2;omega
    have w1008:IntKind.u8.wrap 10=10:=rfl;have e1004:decide ((10:Int)≤((x-48:Nat):Int))=false:=ag (by omega);by_cases hc:1844674407370955162≤n0
    ·have e1005:decide ((1844674407370955162:Int)≤(n0:Int))=true:=ae (by omega);simp only[WX,pX,d1,ia1,ld1,e1,e2,e1003,s1,w1008,e1004,e1005,fh];exact⟨18446744073709551615,_,rfl,by decide,.inr (.inl rfl),gX⟩
    ·have e1005:decide ((1844674407370955162:Int)≤(n0:Int))=false:=ag (by omega);have wx:IntKind.u64.wrap 10=10:=rfl;have m1:bD .mul (.i .u64 (n0:Int)) (.i .u64 10)=some (.i .u64 ((n0*10:Nat):Int)):=by rw[rG,eS];congr 2;omega
     have wd:IntKind.u64.wrap ((x-48:Nat):Int)=((x-48:Nat):Int):=by rw[eS];omega
     by_cases hov:n0*10+(x-48)<18446744073709551616
     ·have a1:bD .add (.i .u64 ((n0*10:Nat):Int)) (.i .u64 ((x-48:Nat):Int))=some (.i .u64 ((n0*10+(x-48):Nat):Int)):=by rw[gL,eS];exact congrArg (fun z=>some (V.i .u64 z)) (by omega)
      have e1006:decide (((n0*10+(x-48):Nat):Int)<((n0*10:Nat):Int))=false:=ag (by omega);have e1007:decide ((18446744073709551615:Int)<((n0*10+(x-48):Nat):Int))=false:=ag (by omega);simp only[WX,pX,d1,ia1,ld1,e1,e2,e1003,s1,w1008,e1004,e1005,wx,m1,wd,a1,e1006,e1007,q8];exact⟨l.length-(i+1),by omega,(hI1 _ _).2 ⟨i+1,n0*10+(x-48),(G2 (X4 (X2 (G4 (G2 (aM (bE (X4 (X1 (G2 (G1 (aM (aM (bE (X8 (X1 [])))))))))))))))),rfl,by omega,hov,rfl⟩⟩
     ·have a1:bD .add (.i .u64 ((n0*10:Nat):Int)) (.i .u64 ((x-48:Nat):Int))=some (.i .u64 ((n0*10+(x-48)-18446744073709551616:Nat):Int)):=by rw[gL,eS];exact congrArg (fun z=>some (V.i .u64 z)) (by omega)
      have e1006:decide (((n0*10+(x-48)-18446744073709551616:Nat):Int)<((n0*10:Nat):Int))=true:=ae (by omega);simp only[WX,pX,d1,ia1,ld1,e1,e2,e1003,s1,w1008,e1004,e1005,wx,m1,wd,a1,e1006,fh];exact⟨18446744073709551615,_,rfl,by decide,.inr (.inl rfl),gX⟩
   ·have hfin:∃(n:Nat) (e:V),V.t [V.i IntKind.u64 0,V.a 177 (V.i IntKind.i64 2)]= .t [.i .u64 (n:Int),e]∧n<18446744073709551616∧xH e∧Gr c M (c+1) X:=⟨0,_,rfl,by decide,.inr (.inr rfl),gX⟩
    have w1008:IntKind.u8.wrap 10=10:=rfl;have key:∀(p q r1 s1:Bool),p=decide ((x:Int)=95)→q=decide ((48:Int)≤(x:Int))→r1=decide ((x:Int)≤57)→(q&&r1)=false:=by
     intro p q r1 s1 _ h2 h1003;subst h2 h1003;rw[Bool.and_eq_false_iff,decide_eq_false_iff_not,decide_eq_false_iff_not];omega
    cases hp:decide ((x:Int)=95)<;>cases hq:decide ((48:Int)≤(x:Int))<;>cases hr:decide ((x:Int)≤57)
    all_goals first
     |(exfalso;have:=key _ _ _ true rfl rfl rfl;rw[hq,hr]at this;cases this;done)
     |skip
    all_goals
     cases hy1:decide ((97:Int)≤(y:Int))<;>cases hy2:decide ((y:Int)≤122)
    all_goals first
     |(simp only[WX,pX,d1,ia1,ld1,hp,hq,hr,h149,hlow,hy1,hy2,fh];exact hfin)
     |skip
    all_goals
     rw[decide_eq_true_eq]at hy1 hy2;have s1:bD .sub (.i .u8 (y:Int)) (.i .u8 97)=some (.i .u8 ((y-97:Nat):Int)):=by rw[eF,bS];congr 2;omega
     have a1:bD .add (.i .u8 ((y-97:Nat):Int)) (.i .u8 10)=some (.i .u8 ((y-97+10:Nat):Int)):=by rw[gL,bS];congr 2;omega
     have e1004:decide ((10:Int)≤((y-97+10:Nat):Int))=true:=ae (by omega);have hy1':decide ((97:Int)≤(y:Int))=true:=ae hy1;have hy2':decide ((y:Int)≤122)=true:=ae hy2;simp only[WX,pX,d1,ia1,ld1,hp,hq,hr,h149,hlow,hy1',hy2',fh,w1008,s1,a1,e1004];exact hfin
  ·have d1:decide ((i:Int)<(l.length:Int))=false:=ag (by omega);simp only[WX,pX,d1];exact⟨n0,_,rfl,hn0,.inl rfl,gX⟩
end
end Go.Proofs.YtdnddpmjnlagfaaGreatDoor.Ev
