/- What is proved here: pieces of the evaluator's soundness: if the evaluator comes to a value, the model's run comes to it, for every world and tape; no conditions beyond the hypotheses of each theorem. -/
import Derived.Test.YtmjeiphepinphaaGreatDoorEv7
set_option linter.unusedSimpArgs false
set_option linter.unusedVariables false
set_option linter.defProp false
set_option maxRecDepth 10000
set_option maxHeartbeats 16000000
namespace Go.Proofs.YtmjeiphepinphaaGreatDoor.Ev
open Go
noncomputable section
abbrev Cz(u:List (Option V))(x0 x2 x3 x4 x5 x6 x7 x8:V):T:=(.n (.n (.n (.n (j7 u 31 15 47) (some x7) (j7 u 39 23 55)) (some x3) (aO u 35 19 51 11 43 27 59)) (uO u 1) (.n (aO u 33 17 49 9 41 25 57) (some x5) (aO u 37 21 53 13 45 29 61))) (some x0) (.n (.n (.n (j7 u 32 16 48) (some x8) (j7 u 40 24 56)) (some x4) (aO u 36 20 52 12 44 28 60)) (some x2) (.n (aO u 34 18 50 10 42 26 58) (some x6) (aO u 38 22 54 14 46 30 62))))
def b68:CC:=(.reg [(qq a4 (.ld1 z0)),(ee a5 (.call 44 [z4,(.c (.s 1 32))])),(qq a3 (.mv z5)),(qq a6 (.ex 0 z3)),(qq a7 (.ex 1 z3)),(qq a8 (.ex 2 z3)),(qq a2 (.mv z6)),(ez (.st 1 z0 z7))])
def b69:CC:=(.reg [(qq a9 (.mv z2)),(qq a1 (.mv z9))])
def b70:CC:=(.seq (.reg [(qq a2 (.mv (.c (.s 0 0))))]) (.seq b68 (.seq b69 .ret)))
def b71:CC:=(.seq (.reg [(qq a1 (.mv (.c (.s 0 0))))]) b70)
def Wj:CF:= .mk 4 [.t a1] b71
theorem e77(v0:V):aN 4 [v0]=(.n eX (some v0) eX):=rfl
def B77:=ai @e77 (ai (wu b68.eq_1) (ai (wu b69.eq_1) (ai (wu b70.eq_1) (wu b71.eq_1))))
def b72:CC:=(.reg [(qq a3 (.mv (x6 0)))])
def b73:CC:=(.reg [(qq a7 (.ld1 z1)),(ee a8 (.cv z7 [])),(qq a9 (.mv z0)),(ee cE (.call 80 [z8,z9])),(ee cW (.call 79 [cT])),(qq a6 (.mv cM)),(qq dh (.ex 0 z6)),(qq d8 (.ex 1 z6)),(qq a4 (.mv cH)),(qq a5 (.mv cI))])
def b74:CC:=(.reg [(qq dK (.mv z4)),(qq a3 (.mv dM))])
def ZY:CF:= .mk 4 [.t a3] (.seq b72 (.seq b73 (.seq b74 .ret)))
theorem e78(v0 v1:V):aN 4 [v0,v1]=(.n (.n jq (some v1) jq) (some v0) eX):=rfl
def B78:=ai @e78 (ai (wu b72.eq_1) (ai (wu b73.eq_1) (wu b74.eq_1)))
def aP9:CC:=(.reg [(aa a2 (.al 51 [(.i .i64 0),(.i .i64 0),(.i .i64 0),(.i .i64 0),(.i .i64 0)])),(qq a3 (.mv (x6 0)))])
def bm4:=wu aP9.eq_1
def aQ0:CC:=(.reg [(qq cW (.mv z0)),(aa a4 (.al 9 [(.s 0 0)])),(ez (.st 1 z4 cM))])
def bm5:=wu aQ0.eq_1
def aQ1:CC:=(.reg [(qq dh (.mkf 77 [] [z4])),(aa a5 (.al 59 [.f0])),(ez (.st 1 z5 cH))])
def bm6:=wu aQ1.eq_1
def aQ2:CC:=(.reg [(qq d8 (.mkf 78 [] [z5])),(qq a6 (.mv cI))])
def bm7:=wu aQ2.eq_1
def aQ3:CC:=(.reg [(aa a7 (.al 51 [(.i .i64 0),(.i .i64 0),(.i .i64 0),(.i .i64 0),(.i .i64 0)]))])
def bm8:=wu aQ3.eq_1
def aQ4:CC:=(.reg [(qq dL (.ld1 z5)),(ee dJ (.cv dA [])),(ee eD (.call 74 [dX])),(qq dK (.mv eJ)),(qq eZ (.ex 0 dM)),(qq eN (.ex 1 dM)),(qq fq (.fa 0 z7)),(ez (.st 1 fO fh))])
def bm9:=wu aQ4.eq_1
def aQ5:CC:=(.reg [(qq ej (.fa 0 z7)),(qq eE (.ld1 gD)),(ee eT (.call 35 [gw])),(ee ga (.call 34 [ia])),(aa a8 (.al 91 [(.b false),(.b false),(.b false),(.b false)])),(ez (.st 4 z8 ib))])
def bn0:=wu aQ5.eq_1
def aQ6:CC:=(.reg [(qq fP (.fa 0 z8)),(qq ft (.ld1 gV))])
def Zj:=wu aQ6.eq_1
def aQ7:CC:=(.reg [(qq ie (.mv z6)),(ee gz (.cv iU [(.c (.s 1 114))])),(qq fJ (.fa 1 z7)),(ez (.st 1 j8 iK))])
def bn1:=wu aQ7.eq_1
def DK:CC:=(.seq aQ6 (.cond gy aQ7 .skip))
def FK:=wu DK.eq_1
def Sl:CC:=(.reg [(qq gR (.fa 1 z8)),(qq gW (.ld1 iV))])
def FL:=wu Sl.eq_1
def Sm:CC:=(.reg [(qq ig (.mv z6)),(ee iE (.cv jR [(.c (.s 1 114))])),(qq fj (.fa 2 z7)),(ez (.st 1 kQ kC))])
def Ze:=wu Sm.eq_1
def zI:CC:=(.seq Sl (.cond iX Sm .skip))
def FM:=wu zI.eq_1
def Sn:CC:=(.reg [(qq fQ (.fa 2 z8)),(qq kc (.ld1 jY))])
def FN:=wu Sn.eq_1
def So:CC:=(.reg [(qq kd (.mv z6)),(ee kE (.cv lN [(.c (.s 1 114))])),(qq jS (.fa 3 z7)),(ez (.st 1 lF lO))])
def Zf:=wu So.eq_1
def vj:CC:=(.seq Sn (.cond lM So .skip))
def FO:=wu vj.eq_1
def Sp:CC:=(.reg [(qq gC (.fa 3 z8)),(qq kR (.ld1 lG))])
def FP:=wu Sp.eq_1
def Sq:CC:=(.reg [(qq lJ (.mv z6)),(ee kW (.cv n6 [(.c (.s 0 0))])),(qq kS (.fa 4 z7)),(ez (.st 1 oq og))])
def Zg:=wu Sq.eq_1
def sm:CC:=(.seq Sp (.cond lQ Sq .skip))
def FQ:=wu sm.eq_1
def Sr:CC:=(.reg [(qq kU (.ldn 5 z7)),(ee mG (.call 15 [oT])),(qq kT (.mv n7)),(qq jV (.ex 0 mU)),(qq ke (.ex 1 mU)),(qq a9 (.mv ot)),(qq cE (.mv n8))])
def bN6:=wu Sr.eq_1
def Ss:CC:=(.reg [(qq mH (.mv cT)),(qq kX (.bi .neq mV (x6 0))),(qq jW (.mv ng)),(bk gb (.mv z9) jW),(bk ow (.mv z0) jW),(bk oy (.bi .neq pG qB) jW),(qq kF (.pk oU xT pf))])
def bN7:=wu Ss.eq_1
def Su:CC:=(.reg [(qq kY (.bld [(.i .i64 0),(.i .i64 0),(.i .i64 0),(.i .i64 0),(.i .i64 0)] [])),(ez (.st 5 z2 qE)),(qq a3 (.mv (x6 4)))])
def bN8:=wu Su.eq_1
def Sv:CC:=(.cond qC (.seq Su .ret) .skip)
def bN9:=wu Sv.eq_1
def Sw:CC:=(.reg [(qq lK (.ldn 5 z7)),(ez (.st 5 z2 pg)),(qq a3 (.mv (x6 0)))])
def bO0:=wu Sw.eq_1
def pR:CC:=(.seq (.seq Sr (.seq Ss Sv)) (.seq Sw .ret))
def bO1:=wu pR.eq_1
def Sx:CC:=(.seq DK (.seq zI (.seq vj (.seq sm pR))))
def Zh:=wu Sx.eq_1
def Sy:CC:=(.seq aQ1 (.seq aQ2 (.seq aQ3 (.seq aQ4 (.seq aQ5 Sx)))))
def Zi:=wu Sy.eq_1
def c47:CF:= .mk 6 [.cn a2 5,.t a3] (.seq aP9 (.seq aQ0 Sy))
theorem e47(v0:V):aN 6 [v0]=(.n nW (some v0) nW):=rfl
def B47:=ai @e47 (ai @bm4 (ai @bm5 (ai @bm6 (ai @bm7 (ai @bm8 (ai @bm9 (ai @bn0 (ai @Zj (ai @bn1 (ai @FK (ai @FL (ai @Ze (ai @FM (ai @FN (ai @Zf (ai @FO (ai @FP (ai @Zg (ai @FQ (ai @bN6 (ai @bN7 (ai @bN8 (ai @bN9 (ai @bO0 (ai @bO1 (ai @Zh (@Zi)))))))))))))))))))))))))))
def so(l:List UInt8):List UInt8:=match nc 32 l 0 with|some k=>l.take k|none=>l
def mZ(l:List UInt8):List UInt8:=match nc 32 l 0 with|some k=>l.drop (k+1)|none=>[]
theorem ae3(l:List UInt8):∃z,sA 32 l= .t [sV (so l),sV (mZ l),.b z]:=by
 unfold sA so mZ
 cases nc 32 l 0 with
 |none=>exact⟨_,rfl⟩
 |some k=>exact⟨_,rfl⟩
theorem W7(l:List UInt8):(so l).length≤l.length:=by
 unfold so
 cases nc 32 l 0 with
 |none=>exact ak _
 |some k=>show(l.take k).length≤_;rw[List.length_take];omega
theorem Be(l:List UInt8):(mZ l).length≤l.length:=by
 unfold mZ
 cases nc 32 l 0 with
 |none=>exact aP _
 |some k=>show(l.drop (k+1)).length≤_;rw[dv];omega
theorem LD(l p:List UInt8):(kw l p).length≤l.length:=by
 unfold kw;split
 ·rw[dv];omega
 ·exact ak _
theorem vJ:∀(w r:List UInt8) (i:Nat),(∀x∈w,x≠32)→nc 32 (w++32::r) i=some (i+w.length)∧nc 32 w i=none
 |[],r,i,_=>⟨by simp[nc],rfl⟩
 |x::w,r,i,h=>by
  obtain⟨h1,h2⟩:=vJ w r (i+1) fun y hy=>h y (bK _ hy);have hx:=h x (cd ..);rw[List.cons_append,nc,ab hx,h1,nc,ab hx,h2,bq];exact⟨by congr 1;omega,rfl⟩
theorem gJ(w:List UInt8)(ws:List (List UInt8))(h:∀x∈w,x≠32):so (bN [32] (w::ws))=w∧mZ (bN [32] (w::ws))=bN [32] ws:=by
 cases ws with
 |nil=>
  have e:bN [32] [w]=w:=by simp[bN]
  obtain⟨_,h2⟩:=vJ w [] 0 h;unfold so mZ;rw[e,h2];exact⟨rfl,rfl⟩
 |cons x r=>
  have e:bN [32] (w::x::r)=w++32::bN [32] (x::r):=by simp[bN]
  obtain⟨h1,_⟩:=vJ w (bN [32] (x::r)) 0 h;unfold so mZ;rw[e,h1,Nat.zero_add];refine⟨?_,?_⟩
  ·show(w++32::bN [32] (x::r)).take w.length=w;exact List.take_left
  ·show(w++32::bN [32] (x::r)).drop (w.length+1)=_;rw[show w++32::bN [32] (x::r)=(w++[32])++bN [32] (x::r) by simp,List.drop_left' (by simp)]
theorem r77(Φ:Nat→Option CF)(h:Φ 77=some Wj)(h44:Φ 44=some (.orc (ah uy))){F:RO}{M:Mem}{c b:Nat}{l:List UInt8}(hM:M.get b=some (aw 9 [sV l]))(hl:l.length≤1000000):
 Calls Φ F 77 [.p b 0] M c fun r M' c'=>r=sV (so l)∧M'=M.set b (aw 9 [sV (mZ l)])∧c'=c:=by
 refine aq h ?_
 have l0:load1 F M b 0=some (sV l):=aX hM 0
 obtain⟨z,hz⟩:=ae3 l
 have h1:=EA l 32 (by omega)
 rw[hz]at h1
 have h1':uy [sV l,.s 1 32]=some (.t [sV (so l),sV (mZ l),.b z]):=h1
 have hst:=bG hM 0 [sV (mZ l)] (by simp) rfl
 simp only[WX,B77,l0,h44,h1',show∀l,flatten (sV l)=[sV l]from fun _=>rfl,hst]
theorem r78(Φ:Nat→Option CF)(h:Φ 78=some ZY)(h77:Φ 77=some Wj)(h44:Φ 44=some (.orc (ah uy)))(h80:Φ 80=some (.orc (ah kJ)))(h79:Φ 79=some Wk)(h109:Φ 109=some u2)(h58:Φ 58=some Md)(h96:Φ 96=some Kb)(h97:Φ 97=some Kc)(h126:Φ 126=some su)(h57:Φ 57=some Bm)(h116:Φ 116=some (.orc (ah h116)))(h94:Φ 94=some (.orc (ah h94)))
 {F:RO} {M:Mem} {c b b1005:Nat} {l:List UInt8} (ok:dH F M c) (hE1:cD F 2) (hE2:cD F 3) (hlow:∀g,g<1000→M.get g=none) (hM:M.get b=some (aw 9 [sV l])) (hb:b<c) (hM5:M.get b1005=some (aw 59 [.f 77 [] [.p b 0]])) (hl:l.length≤1000000) (p:List UInt8):
 Calls Φ F 78 [sV p,.p b1005 0] M c fun r M' c'=>∃z,r= .i .i64 z∧ZOf (kw (so l) p) z∧Gr c (M.set b (aw 9 [sV (mZ l)])) c' M':=by
 refine aq h ?_
 have l1005:load1 F M b1005 0=some (.f 77 [] [.p b 0]):=aX hM5 0
 simp only[WX,B78,l1005]
 refine aC ((r77 Φ h77 h44 hM hl).mono ?_)
 rintro r M1 c1 ⟨rfl,rfl,rfl⟩
 have ok1:=ok.put (y:=aw 9 [sV (mZ l)]) hb hM
 have hlow1:∀g,g<1000→(M.set b (aw 9 [sV (mZ l)])).get g=none:=fun g hg=>by
  have:g≠b:=by intro e;subst e;rw[hlow g hg]at hM;cases hM
  rw[am _ _ this];exact hlow g hg
 simp only[WX,h80,Io]
 have h1:=W7 l
 have h2:=LD (so l) p
 refine aC ((r79 Φ h79 h109 h58 h96 h97 h126 h57 h116 h94 ok1 hE1 hE2 hlow1 (kw (so l) p) (by omega)).mono ?_)
 rintro r M2 c2 ⟨z,e,rfl,hz,hg⟩
 simp only[WX,B78]
 exact⟨z,rfl,hz,hg⟩
def R4(op i:Int):List (List UInt8):=if iI (aL op)=true then[cz i]else[]
def R3(op b i:Int):List (List UInt8):=(if bI (aL op)=true then[114::cz b]else[])++R4 op i
def R2(op a b i:Int):List (List UInt8):=(if aI (aL op)=true then[114::cz a]else[])++R3 op b i
def R1(op d a b i:Int):List (List UInt8):=(if dI (aL op)=true then[114::cz d]else[])++R2 op a b i
theorem rO(op d a b i:Int):eM op d a b i=dT op::R1 op d a b i:=by
 show(([dT op]++(if yl op 0=true then[114::cz (gv d a b 0)]else[]))++(if yl op 1=true then[114::cz (gv d a b 1)]else[]))++(if yl op 2=true then[114::cz (gv d a b 2)]else[])++_=_
 show(([dT op]++(if dI (aL op)=true then[114::cz d]else[]))++(if aI (aL op)=true then[114::cz a]else[]))++(if bI (aL op)=true then[114::cz b]else[])++(if iI (aL op)=true then[cz i]else[])=_
 unfold R1 R2 R3 R4
 simp only[oD,List.cons_append,List.nil_append]
theorem Iu{m:Int}(h1: -10000000<m)(h2:m<10000000):∀x∈cz m,x≠32:=by
 intro x hx e
 subst e
 have nd:∀l:List UInt8,(∀x∈l,io x)→(32:UInt8)∉l:=fun l h hm=>by
  have:=h 32 hm;unfold io at this;rw[show(32:UInt8).toNat=32 from rfl]at this;omega
 obtain⟨_,⟨_,h1003,_⟩|⟨_,r,h1003,_,h1004,_⟩⟩:=jJ h1 h2
 ·exact nd _ h1003 hx
 ·rw[h1003]at hx;rcases bj.1 hx with e|hx
  ·exact absurd e (by decide)
  ·exact nd _ h1004 hx
theorem Ci{m:Int}(h1: -10000000<m)(h2:m<10000000):∀x∈(114::cz m),x≠32:=by
 intro x hx
 rcases bj.1 hx with e|hx
 ·subst e;decide
 ·exact Iu h1 h2 x hx
theorem Ad(op:Int):∀x∈dT op,x≠32:=by
 unfold dT
 split
 ·have:∀k,k<29→ ∀x∈(dx[k]?).getD [],x≠32:=by decide+kernel
  exact this _ (by omega)
 ·intro x hx;cases hx
theorem AF(l:List UInt8):kw (114::l) [114]=l:=by
 unfold kw
 rw[ac ⟨by simp,by simp⟩];rfl
theorem LE(l:List UInt8):kw l []=l:=by
 unfold kw
 rw[ac ⟨aP _,rfl⟩];rfl
theorem lq{op d a b i:Int}(h:cJ op d a b i=true):(dI (aL op)=false→d=0)∧(aI (aL op)=false→a=0)∧(bI (aL op)=false→b=0)∧(iI (aL op)=false→i=0):=by
 unfold cJ at h
 simp only[aJ,Bool.or_eq_true,decide_eq_true_eq]at h
 obtain⟨h1,h2,h1003,h1004,h1005,h1006⟩:=h
 have key:∀n,nT false n=true→n=0:=by
  intro n hh;unfold nT at hh;have:=b9 hh;rcases this with h|⟨h,_⟩
  ·exact h
  ·cases h
 refine⟨fun h=>key _ (by rw[h]at h1003;exact h1003),fun h=>key _ (by rw[h]at h1004;exact h1004),fun h=>key _ (by rw[h]at h1005;exact h1005),fun h=>?_⟩
 rcases h1006 with h1006|h1006
 ·exact h1006
 ·rw[h]at h1006;cases h1006.1
def h15:List V→Option V
 |[.g [.i .i64 op,.i .i64 d,.i .i64 a,.i .i64 b,.i .i64 i]]=>some (if cJ op d a b i=true then .t [sV (cV op d a b i),.i .i64 0]else .t [.s 0 0,.i .i64 2])
 |_=>none
theorem Et(op d a b i:Int):h15 [.g [.i .i64 op,.i .i64 d,.i .i64 a,.i .i64 b,.i .i64 i]]=some (if cJ op d a b i=true then .t [sV (cV op d a b i),.i .i64 0]else .t [.s 0 0,.i .i64 2]):=rfl
def ni(s:List UInt8)(r:V):Prop:=
 (∃op d a b i,cJ op d a b i=true∧cV op d a b i=s∧r= .t [.g [.i .i64 op,.i .i64 d,.i .i64 a,.i .i64 b,.i .i64 i],.i .i64 0])∨
 ((∀op d a b i,cJ op d a b i=true→cV op d a b i≠s)∧r= .t [.g [.i .i64 0,.i .i64 0,.i .i64 0,.i .i64 0,.i .i64 0],.i .i64 4])
def PI(F:RO)(M0 M:Mem)(c1 c cb:Nat)(rest:List UInt8)(op d a b i:Int):Prop:=
 dH F M c1∧c+4≤cb∧cb<c1∧1000≤c∧M.get c=some (aw 51 [.i .i64 0,.i .i64 0,.i .i64 0,.i .i64 0,.i .i64 0])∧M.get (c+1)=some (aw 9 [sV rest])∧M.get (c+2)=some (aw 59 [.f 77 [] [.p (c+1) 0]])∧
 M.get (c+3)=some (aw 51 [.i .i64 op,.i .i64 d,.i .i64 a,.i .i64 b,.i .i64 i])∧M.get cb=some (aw 91 [.b (dI (aL op)),.b (aI (aL op)),.b (bI (aL op)),.b (iI (aL op))])∧(∀g,g<1000→M.get g=none)∧rest.length≤1000000∧Gr c M0 c1 M
theorem PI.step{F:RO}{M0 M M':Mem}{c1 c2 c cb:Nat}{rest:List UInt8}{op d a b i d' a' b' i':Int}(h:PI F M0 M c1 c cb rest op d a b i)(hg:Gr c1 (M.set (c+1) (aw 9 [sV (mZ rest)])) c2 M'):
 PI F M0 (M'.set (c+3) (aw 51 [.i .i64 op,.i .i64 d',.i .i64 a',.i .i64 b',.i .i64 i'])) c2 c cb (mZ rest) op d' a' b' i':=by
 obtain⟨ok,k1,k2,k3,g0,g1,g2,g3,g4,g5,g6,g7⟩:=h
 have ok1:=hg.ok (ok.put (y:=aw 9 [sV (mZ rest)]) (show c+1<c1 by omega) g1)
 have o:∀x,x<c1→x≠c+1→M'.get x=M.get x:=fun x hx hn=>by rw[hg.old x hx,am _ _ hn]
 have e1003:M'.get (c+3)=some (aw 51 [.i .i64 op,.i .i64 d,.i .i64 a,.i .i64 b,.i .i64 i]):=by rw[o (c+3) (by omega) (by omega)];exact g3
 have hle:=hg.le
 refine⟨ok1.put (by omega) e1003,k1,by omega,k3,?_,?_,?_,av _ _ _,?_,fun g hg'=>?_,bp (Be rest) g6,((g7.set (c2:=c1) (c+1) _ (by omega) (by omega) (ak _)).trans hg).set (c2:=c2) (c+3) _ (by omega) (by omega) (ak _)⟩
 ·rw[am _ _ (by omega),o c (by omega) (by omega)];exact g0
 ·rw[am _ _ (by omega),hg.old (c+1) (by omega),av]
 ·rw[am _ _ (by omega),o (c+2) (by omega) (by omega)];exact g2
 ·rw[am _ _ (by omega),o cb (by omega) (by omega)];exact g4
 ·rw[am _ _ (by omega),o g (by omega) (by omega)];exact g5 g hg'
theorem cy6(Φ:Nat→Option CF){L:List gk}(h15:Φ 15=some (.orc (bT L h15)))(h77:Φ 77=some Wj)(h44:Φ 44=some (.orc (ah uy)))(h78:Φ 78=some ZY)(h80:Φ 80=some (.orc (ah kJ)))(h79:Φ 79=some Wk)(h109:Φ 109=some u2)(h58:Φ 58=some Md)(h96:Φ 96=some Kb)(h97:Φ 97=some Kc)(h126:Φ 126=some su)(h57:Φ 57=some Bm)(h116:Φ 116=some (.orc (ah h116)))(h94:Φ 94=some (.orc (ah h94))){F:RO}{M0 M:Mem}{c c1 cb:Nat}(ht:bE F L=true)(hE1:cD F 2)(hE2:cD F 3){s rest:List UInt8}{op d a b i:Int}(h:PI F M0 M c1 c cb rest op d a b i)
 (HC:∀op' d' a' b' i',cJ op' d' a' b' i'=true→cV op' d' a' b' i'=s→op'=op∧d'=d∧a'=a∧b'=b∧i'=i) (u:List (Option V)):
 Wp pR (K Φ none 47 F) (.mk ((Cz u (sV s) (.p c 0) (.i .i64 0) (.p (c+1) 0) (.p (c+2) 0) (.f 78 [] [.p (c+2) 0]) (.p (c+3) 0) (.p cb 0))) [] M c1) (nB F [.cn (.r .h) 5,.t (.l (.l .h))] fun r M' c'=>ni s r∧Gr c M0 c' M'):=by
 obtain⟨ok,k1,k2,k3,g0,g1,g2,g3,g4,g5,g6,g7⟩:=h
 have hT:=fun h args M c=>dC ht h args M c
 have li:loadN F M (c+3) 0 5=some [.i .i64 op,.i .i64 d,.i .i64 a,.i .i64 b,.i .i64 i]:=jt g3 5 rfl
 cases hm:cJ op d a b i with
 |true=>
  have h1:Ev.h15 [.g [.i .i64 op,.i .i64 d,.i .i64 a,.i .i64 b,.i .i64 i]]=some (.t [sV (cV op d a b i),.i .i64 0]):=by rw[Et,ac hm]
  by_cases hs:cV op d a b i=s
  ·have e1:aK .neq (sV (cV op d a b i)) (sV s)=some (.b false):=by rw[ss,af hs];rfl
   have hst:=bG g0 0 [.i .i64 op,.i .i64 d,.i .i64 a,.i .i64 b,.i .i64 i] (by simp) rfl;simp only[WX,Nat.reduceAdd,Nat.reduceLeDiff,B47,li,h15,hT,h1,e1,hst,eq_self,ne_eq,not_true_eq_false];exact⟨.inl ⟨op,d,a,b,i,hm,hs,rfl⟩,g7.set (c2:=c1) c _ (ak _) (by omega) (ak _)⟩
  ·have e1:aK .neq (sV (cV op d a b i)) (sV s)=some (.b true):=by rw[ss,ag hs];rfl
   have hst:=bG g0 0 [.i .i64 0,.i .i64 0,.i .i64 0,.i .i64 0,.i .i64 0] (by simp) rfl;simp only[WX,Nat.reduceAdd,Nat.reduceLeDiff,B47,li,h15,hT,h1,e1,hst,eq_self,ne_eq,not_true_eq_false];refine⟨.inr ⟨fun op' d' a' b' i' hm' hs'=>?_,rfl⟩,g7.set (c2:=c1) c _ (ak _) (by omega) (ak _)⟩;obtain⟨rfl,rfl,rfl,rfl,rfl⟩:=HC _ _ _ _ _ hm' hs';exact hs hs'
 |false=>
  have h1:Ev.h15 [.g [.i .i64 op,.i .i64 d,.i .i64 a,.i .i64 b,.i .i64 i]]=some (.t [.s 0 0,.i .i64 2]):=by rw[Et,ab (by rw[hm];decide)]
  have hst:=bG g0 0 [.i .i64 0,.i .i64 0,.i .i64 0,.i .i64 0,.i .i64 0] (by simp) rfl;simp only[WX,Int.reduceEq,Nat.reduceAdd,Nat.reduceLeDiff,B47,li,h15,hT,h1,hst,eq_self,ne_eq,not_false_eq_true];refine⟨.inr ⟨fun op' d' a' b' i' hm' hs'=>?_,rfl⟩,g7.set (c2:=c1) c _ (ak _) (by omega) (ak _)⟩;obtain⟨rfl,rfl,rfl,rfl,rfl⟩:=HC _ _ _ _ _ hm' hs';rw[hm]at hm';cases hm'
theorem cy7(Φ:Nat→Option CF){L:List gk}(h15:Φ 15=some (.orc (bT L h15)))(h77:Φ 77=some Wj)(h44:Φ 44=some (.orc (ah uy)))(h78:Φ 78=some ZY)(h80:Φ 80=some (.orc (ah kJ)))(h79:Φ 79=some Wk)(h109:Φ 109=some u2)(h58:Φ 58=some Md)(h96:Φ 96=some Kb)(h97:Φ 97=some Kc)(h126:Φ 126=some su)(h57:Φ 57=some Bm)(h116:Φ 116=some (.orc (ah h116)))(h94:Φ 94=some (.orc (ah h94))){F:RO}{M0 M:Mem}{c c1 cb:Nat}(ht:bE F L=true)(hE1:cD F 2)(hE2:cD F 3){s rest:List UInt8}{op d a b:Int}(h:PI F M0 M c1 c cb rest op d a b 0)
 (HC:∀op' d' a' b' i',cJ op' d' a' b' i'=true→cV op' d' a' b' i'=s→op'=op∧d'=d∧a'=a∧b'=b∧rest=bN [32] (R4 op i')) (u:List (Option V)):
 Wp sm (K Φ none 47 F) (.mk ((Cz u (sV s) (.p c 0) (.i .i64 0) (.p (c+1) 0) (.p (c+2) 0) (.f 78 [] [.p (c+2) 0]) (.p (c+3) 0) (.p cb 0))) [] M c1) (uk pR (K Φ none 47 F) (nB F [.cn (.r .h) 5,.t (.l (.l .h))] fun r M' c'=>ni s r∧Gr c M0 c' M')):=by
 have hPI:=h
 obtain⟨ok,k1,k2,k3,g0,g1,g2,g3,g4,g5,g6,g7⟩:=h
 have lb:load1 F M cb 3=some (.b (iI (aL op))):=aX g4 3
 cases hfl:iI (aL op)with
 |true=>
  rw[hfl]at lb;simp only[WX,FP,Zg,FQ,lb];refine aC ((r78 Φ h78 h77 h44 h80 h79 h109 h58 h96 h97 h126 h57 h116 h94 ok hE1 hE2 g5 g1 (by omega) g2 g6 []).mono ?_);rintro r M2 c2 ⟨z,rfl,hz,hg⟩;have hP:=PI.step (d':=d) (a':=a) (b':=b) (i':=z) hPI hg;have e1003:M2.get (c+3)=some (aw 51 [.i .i64 op,.i .i64 d,.i .i64 a,.i .i64 b,.i .i64 0]):=by rw[hg.old (c+3) (by omega),am _ _ (by omega)];exact g3
  have hst:=bG e1003 4 [.i .i64 z] (by simp) rfl;simp only[WX,Nat.reduceAdd,hst];refine cy6 Φ h15 h77 h44 h78 h80 h79 h109 h58 h96 h97 h126 h57 h116 h94 ht hE1 hE2 hP ?_ (G1 (X1 (G4 (G2 (G1 (gu (eG (X4 (X2 [])))))))));intro op' d' a' b' i' hm' hs';obtain⟨rfl,rfl,rfl,rfl,e⟩:=HC op' d' a' b' i' hm' hs';obtain⟨m1,m2,m3,m4,m5⟩:=fy hm';have hw:rest=bN [32] ((cz i')::[]):=by rw[e,R4,hfl,ac rfl]<;>rfl
  have hr: -10000000<i'∧i'<10000000:=by omega
  obtain⟨w1,w2⟩:=gJ (cz i') ([]) (Iu hr.1 hr.2);rw[←hw]at w1 w2;rw[w1,LE]at hz;have hzz:=hz i' hr.1 hr.2 rfl;exact⟨rfl,rfl,rfl,rfl,hzz.symm⟩
 |false=>
  rw[hfl]at lb;simp only[WX,FP,FQ,lb];refine cy6 Φ h15 h77 h44 h78 h80 h79 h109 h58 h96 h97 h126 h57 h116 h94 ht hE1 hE2 (rest:=rest) hPI ?_ (G1 (X1 (G4 (G2 (G1 (gu (eG (X4 (X2 [])))))))));intro op' d' a' b' i' hm' hs';obtain⟨rfl,rfl,rfl,rfl,e⟩:=HC op' d' a' b' i' hm' hs';have hz:=(lq hm').2.2.2 hfl;exact⟨rfl,rfl,rfl,rfl,hz⟩
theorem cy5(Φ:Nat→Option CF){L:List gk}(h15:Φ 15=some (.orc (bT L h15)))(h77:Φ 77=some Wj)(h44:Φ 44=some (.orc (ah uy)))(h78:Φ 78=some ZY)(h80:Φ 80=some (.orc (ah kJ)))(h79:Φ 79=some Wk)(h109:Φ 109=some u2)(h58:Φ 58=some Md)(h96:Φ 96=some Kb)(h97:Φ 97=some Kc)(h126:Φ 126=some su)(h57:Φ 57=some Bm)(h116:Φ 116=some (.orc (ah h116)))(h94:Φ 94=some (.orc (ah h94))){F:RO}{M0 M:Mem}{c c1 cb:Nat}(ht:bE F L=true)(hE1:cD F 2)(hE2:cD F 3){s rest:List UInt8}{op d a:Int}(h:PI F M0 M c1 c cb rest op d a 0 0)
 (HC:∀op' d' a' b' i',cJ op' d' a' b' i'=true→cV op' d' a' b' i'=s→op'=op∧d'=d∧a'=a∧rest=bN [32] (R3 op b' i')) (u:List (Option V)):
 Wp vj (K Φ none 47 F) (.mk ((Cz u (sV s) (.p c 0) (.i .i64 0) (.p (c+1) 0) (.p (c+2) 0) (.f 78 [] [.p (c+2) 0]) (.p (c+3) 0) (.p cb 0))) [] M c1) (uk (.seq sm pR) (K Φ none 47 F) (nB F [.cn (.r .h) 5,.t (.l (.l .h))] fun r M' c'=>ni s r∧Gr c M0 c' M')):=by
 have hPI:=h
 obtain⟨ok,k1,k2,k3,g0,g1,g2,g3,g4,g5,g6,g7⟩:=h
 have lb:load1 F M cb 2=some (.b (bI (aL op))):=aX g4 2
 cases hfl:bI (aL op)with
 |true=>
  rw[hfl]at lb;simp only[WX,FN,Zf,FO,lb];refine aC ((r78 Φ h78 h77 h44 h80 h79 h109 h58 h96 h97 h126 h57 h116 h94 ok hE1 hE2 g5 g1 (by omega) g2 g6 [114]).mono ?_);rintro r M2 c2 ⟨z,rfl,hz,hg⟩;have hP:=PI.step (d':=d) (a':=a) (b':=z) (i':=0) hPI hg;have e1003:M2.get (c+3)=some (aw 51 [.i .i64 op,.i .i64 d,.i .i64 a,.i .i64 0,.i .i64 0]):=by rw[hg.old (c+3) (by omega),am _ _ (by omega)];exact g3
  have hst:=bG e1003 3 [.i .i64 z] (by simp) rfl;simp only[WX,Nat.reduceAdd,hst];refine cy7 Φ h15 h77 h44 h78 h80 h79 h109 h58 h96 h97 h126 h57 h116 h94 ht hE1 hE2 hP ?_ (G1 (X1 (G4 (G2 (G1 (gu (eG (X4 (X2 [])))))))));intro op' d' a' b' i' hm' hs';obtain⟨rfl,rfl,rfl,e⟩:=HC op' d' a' b' i' hm' hs';obtain⟨m1,m2,m3,m4,m5⟩:=fy hm';have hw:rest=bN [32] ((114::cz b')::R4 op' i'):=by rw[e,R3,hfl,ac rfl]<;>rfl
  have hr: -10000000<b'∧b'<10000000:=by have:=m3 2;rw[show gv d' a' b' 2=b' from rfl]at this;omega
  obtain⟨w1,w2⟩:=gJ (114::cz b') (R4 op' i') (Ci hr.1 hr.2);rw[←hw]at w1 w2;rw[w1,AF]at hz;have hzz:=hz b' hr.1 hr.2 rfl;exact⟨rfl,rfl,rfl,hzz.symm,w2⟩
 |false=>
  rw[hfl]at lb;simp only[WX,FN,FO,lb];refine cy7 Φ h15 h77 h44 h78 h80 h79 h109 h58 h96 h97 h126 h57 h116 h94 ht hE1 hE2 (rest:=rest) hPI ?_ (G1 (X1 (G4 (G2 (G1 (gu (eG (X4 (X2 [])))))))));intro op' d' a' b' i' hm' hs';obtain⟨rfl,rfl,rfl,e⟩:=HC op' d' a' b' i' hm' hs';have hz:=(lq hm').2.2.1 hfl;exact⟨rfl,rfl,rfl,hz,by rw[e,R3,hfl,ab (by decide)]<;>rfl⟩
theorem cy4(Φ:Nat→Option CF){L:List gk}(h15:Φ 15=some (.orc (bT L h15)))(h77:Φ 77=some Wj)(h44:Φ 44=some (.orc (ah uy)))(h78:Φ 78=some ZY)(h80:Φ 80=some (.orc (ah kJ)))(h79:Φ 79=some Wk)(h109:Φ 109=some u2)(h58:Φ 58=some Md)(h96:Φ 96=some Kb)(h97:Φ 97=some Kc)(h126:Φ 126=some su)(h57:Φ 57=some Bm)(h116:Φ 116=some (.orc (ah h116)))(h94:Φ 94=some (.orc (ah h94))){F:RO}{M0 M:Mem}{c c1 cb:Nat}(ht:bE F L=true)(hE1:cD F 2)(hE2:cD F 3){s rest:List UInt8}{op d:Int}(h:PI F M0 M c1 c cb rest op d 0 0 0)
 (HC:∀op' d' a' b' i',cJ op' d' a' b' i'=true→cV op' d' a' b' i'=s→op'=op∧d'=d∧rest=bN [32] (R2 op a' b' i')) (u:List (Option V)):
 Wp zI (K Φ none 47 F) (.mk ((Cz u (sV s) (.p c 0) (.i .i64 0) (.p (c+1) 0) (.p (c+2) 0) (.f 78 [] [.p (c+2) 0]) (.p (c+3) 0) (.p cb 0))) [] M c1) (uk (.seq vj (.seq sm pR)) (K Φ none 47 F) (nB F [.cn (.r .h) 5,.t (.l (.l .h))] fun r M' c'=>ni s r∧Gr c M0 c' M')):=by
 have hPI:=h
 obtain⟨ok,k1,k2,k3,g0,g1,g2,g3,g4,g5,g6,g7⟩:=h
 have lb:load1 F M cb 1=some (.b (aI (aL op))):=aX g4 1
 cases hfl:aI (aL op)with
 |true=>
  rw[hfl]at lb;simp only[WX,FL,Ze,FM,lb];refine aC ((r78 Φ h78 h77 h44 h80 h79 h109 h58 h96 h97 h126 h57 h116 h94 ok hE1 hE2 g5 g1 (by omega) g2 g6 [114]).mono ?_);rintro r M2 c2 ⟨z,rfl,hz,hg⟩;have hP:=PI.step (d':=d) (a':=z) (b':=0) (i':=0) hPI hg;have e1003:M2.get (c+3)=some (aw 51 [.i .i64 op,.i .i64 d,.i .i64 0,.i .i64 0,.i .i64 0]):=by rw[hg.old (c+3) (by omega),am _ _ (by omega)];exact g3
  have hst:=bG e1003 2 [.i .i64 z] (by simp) rfl;simp only[WX,Nat.reduceAdd,hst];refine cy5 Φ h15 h77 h44 h78 h80 h79 h109 h58 h96 h97 h126 h57 h116 h94 ht hE1 hE2 hP ?_ (G1 (X1 (G4 (G2 (G1 (gu (eG (X4 (X2 [])))))))));intro op' d' a' b' i' hm' hs';obtain⟨rfl,rfl,e⟩:=HC op' d' a' b' i' hm' hs';obtain⟨m1,m2,m3,m4,m5⟩:=fy hm';have hw:rest=bN [32] ((114::cz a')::R3 op' b' i'):=by rw[e,R2,hfl,ac rfl]<;>rfl
  have hr: -10000000<a'∧a'<10000000:=by have:=m3 1;rw[show gv d' a' b' 1=a' from rfl]at this;omega
  obtain⟨w1,w2⟩:=gJ (114::cz a') (R3 op' b' i') (Ci hr.1 hr.2);rw[←hw]at w1 w2;rw[w1,AF]at hz;have hzz:=hz a' hr.1 hr.2 rfl;exact⟨rfl,rfl,hzz.symm,w2⟩
 |false=>
  rw[hfl]at lb;simp only[WX,FL,FM,lb];refine cy5 Φ h15 h77 h44 h78 h80 h79 h109 h58 h96 h97 h126 h57 h116 h94 ht hE1 hE2 (rest:=rest) hPI ?_ (G1 (X1 (G4 (G2 (G1 (gu (eG (X4 (X2 [])))))))));intro op' d' a' b' i' hm' hs';obtain⟨rfl,rfl,e⟩:=HC op' d' a' b' i' hm' hs';have hz:=(lq hm').2.1 hfl;exact⟨rfl,rfl,hz,by rw[e,R2,hfl,ab (by decide)]<;>rfl⟩
theorem dc0(Φ:Nat→Option CF){L:List gk}(h15:Φ 15=some (.orc (bT L h15)))(h77:Φ 77=some Wj)(h44:Φ 44=some (.orc (ah uy)))(h78:Φ 78=some ZY)(h80:Φ 80=some (.orc (ah kJ)))(h79:Φ 79=some Wk)(h109:Φ 109=some u2)(h58:Φ 58=some Md)(h96:Φ 96=some Kb)(h97:Φ 97=some Kc)(h126:Φ 126=some su)(h57:Φ 57=some Bm)(h116:Φ 116=some (.orc (ah h116)))(h94:Φ 94=some (.orc (ah h94))){F:RO}{M0 M:Mem}{c c1 cb:Nat}(ht:bE F L=true)(hE1:cD F 2)(hE2:cD F 3){s rest:List UInt8}{op:Int}(h:PI F M0 M c1 c cb rest op 0 0 0 0)
 (HC:∀op' d' a' b' i',cJ op' d' a' b' i'=true→cV op' d' a' b' i'=s→op'=op∧rest=bN [32] (R1 op d' a' b' i')) (u:List (Option V)):
 Wp DK (K Φ none 47 F) (.mk ((Cz u (sV s) (.p c 0) (.i .i64 0) (.p (c+1) 0) (.p (c+2) 0) (.f 78 [] [.p (c+2) 0]) (.p (c+3) 0) (.p cb 0))) [] M c1) (uk (.seq zI (.seq vj (.seq sm pR))) (K Φ none 47 F) (nB F [.cn (.r .h) 5,.t (.l (.l .h))] fun r M' c'=>ni s r∧Gr c M0 c' M')):=by
 have hPI:=h
 obtain⟨ok,k1,k2,k3,g0,g1,g2,g3,g4,g5,g6,g7⟩:=h
 have lb:load1 F M cb 0=some (.b (dI (aL op))):=aX g4 0
 cases hfl:dI (aL op)with
 |true=>
  rw[hfl]at lb;simp only[WX,Zj,bn1,FK,lb];refine aC ((r78 Φ h78 h77 h44 h80 h79 h109 h58 h96 h97 h126 h57 h116 h94 ok hE1 hE2 g5 g1 (by omega) g2 g6 [114]).mono ?_);rintro r M2 c2 ⟨z,rfl,hz,hg⟩;have hP:=PI.step (d':=z) (a':=0) (b':=0) (i':=0) hPI hg;have e1003:M2.get (c+3)=some (aw 51 [.i .i64 op,.i .i64 0,.i .i64 0,.i .i64 0,.i .i64 0]):=by rw[hg.old (c+3) (by omega),am _ _ (by omega)];exact g3
  have hst:=bG e1003 1 [.i .i64 z] (by simp) rfl;simp only[WX,Nat.reduceAdd,hst];refine cy4 Φ h15 h77 h44 h78 h80 h79 h109 h58 h96 h97 h126 h57 h116 h94 ht hE1 hE2 hP ?_ (G1 (X1 (G4 (G2 (G1 (gu (eG (X4 (X2 [])))))))));intro op' d' a' b' i' hm' hs';obtain⟨rfl,e⟩:=HC op' d' a' b' i' hm' hs';obtain⟨m1,m2,m3,m4,m5⟩:=fy hm';have hw:rest=bN [32] ((114::cz d')::R2 op' a' b' i'):=by rw[e,R1,hfl,ac rfl]<;>rfl
  have hr: -10000000<d'∧d'<10000000:=by have:=m3 0;rw[show gv d' a' b' 0=d' from rfl]at this;omega
  obtain⟨w1,w2⟩:=gJ (114::cz d') (R2 op' a' b' i') (Ci hr.1 hr.2);rw[←hw]at w1 w2;rw[w1,AF]at hz;have hzz:=hz d' hr.1 hr.2 rfl;exact⟨rfl,hzz.symm,w2⟩
 |false=>
  rw[hfl]at lb;simp only[WX,Zj,FK,lb];refine cy4 Φ h15 h77 h44 h78 h80 h79 h109 h58 h96 h97 h126 h57 h116 h94 ht hE1 hE2 (rest:=rest) hPI ?_ (G1 (X1 (G4 (G2 (G1 (gu (eG (X4 (X2 [])))))))));intro op' d' a' b' i' hm' hs';obtain⟨rfl,e⟩:=HC op' d' a' b' i' hm' hs';have hz:=(lq hm').1 hfl;exact⟨rfl,hz,by rw[e,R1,hfl,ab (by decide)]<;>rfl⟩
theorem r47(Φ:Nat→Option CF){L:List gk}(h15:Φ 15=some (.orc (bT L h15)))(h77:Φ 77=some Wj)(h44:Φ 44=some (.orc (ah uy)))(h78:Φ 78=some ZY)(h80:Φ 80=some (.orc (ah kJ)))(h79:Φ 79=some Wk)(h109:Φ 109=some u2)(h58:Φ 58=some Md)(h96:Φ 96=some Kb)(h97:Φ 97=some Kc)(h126:Φ 126=some su)(h57:Φ 57=some Bm)(h116:Φ 116=some (.orc (ah h116)))(h94:Φ 94=some (.orc (ah h94)))(h:Φ 47=some c47)(h74:Φ 74=some c74)(h107:Φ 107=some (.orc (ah h107)))(h64:Φ 64=some (.orc (ah h64)))(h124:Φ 124=some Bl)(h35:Φ 35=some (.orc (ah h35)))(h34:Φ 34=some (.orc (ah h34)))
 {F:RO} {M:Mem} {c:Nat} (ok:dH F M c) (ht:bE F L=true) (hE1:cD F 2) (hE2:cD F 3) (hlow:∀g,g<1000→M.get g=none) (s:List UInt8) (hs:s.length≤1000000):
 Calls Φ F 47 [sV s] M c fun r M' c'=>ni s r∧Gr c M c' M':=by
 refine aq h ?_
 have hge:=ok.ge
 have hS:∀l,cU (sV l)=true:=fun _=>rfl
 have hF:∀l,flatten (sV l)=[sV l]:=fun _=>rfl
 have hF2:∀f a b,flatten (V.f f a b)=[V.f f a b]:=fun _ _ _=>rfl
 simp only[WX,Nat.reduceBEq,Nat.reduceAdd,Nat.reduceLeDiff,e47,bm4,bm5,bm6,bm7,bm8,bm9,Zi,hS,hF,hF2]
 obtain⟨X,hX⟩:∃X:Mem,X=(((M.set c (aw 51 [V.i .i64 0,V.i .i64 0,V.i .i64 0,V.i .i64 0,V.i .i64 0])).set (c+1) (aw 9 [sV s])).set (c+2) (aw 59 [V.f 77 [] [V.p (c+1) 0]])).set (c+3) (aw 51 [V.i .i64 0,V.i .i64 0,V.i .i64 0,V.i .i64 0,V.i .i64 0]):=⟨_,rfl⟩
 rw[←hX]
 have grX:Gr c M (c+4) X:=by
  rw[hX];exact((((Gr.refl ok).set c _ (ak _) (bf _) (bD _)).set (c+1) _ (by omega) (show c+1<c+2 by omega) (by omega)).set (c+2) _ (by omega) (show c+2<c+3 by omega) (by omega)).set (c+3) _ (by omega) (by omega) (by omega)
 have okX:=grX.ok ok
 have x0:X.get c=some (aw 51 [.i .i64 0,.i .i64 0,.i .i64 0,.i .i64 0,.i .i64 0]):=by rw[hX,am _ _ (by omega),am _ _ (by omega),am _ _ (by omega),av]
 have x1:X.get (c+1)=some (aw 9 [sV s]):=by rw[hX,am _ _ (by omega),am _ _ (by omega),av]
 have x2:X.get (c+2)=some (aw 59 [.f 77 [] [.p (c+1) 0]]):=by rw[hX,am _ _ (by omega),av]
 have x3:X.get (c+3)=some (aw 51 [.i .i64 0,.i .i64 0,.i .i64 0,.i .i64 0,.i .i64 0]):=by rw[hX,av]
 have xl:∀g,g<1000→X.get g=none:=fun g hg=>by rw[grX.old g (by omega)];exact hlow g hg
 clear hX
 refine aC ((r77 Φ h77 h44 x1 hs).mono ?_)
 rintro r M1 c1 ⟨rfl,rfl,rfl⟩
 have ok1:=okX.put (y:=aw 9 [sV (mZ s)]) (show c+1<c+4 by omega) x1
 simp only[WX]
 refine aC ((r74 Φ h74 h107 h64 h124 (so s) ok1).mono ?_)
 rintro r M2 c2 ⟨⟨op,b,rfl,hfd⟩,hg⟩
 have ok2:=hg.ok ok1
 have o:∀x,x<c+4→x≠c+1→M2.get x=X.get x:=fun x hx hn=>by rw[hg.old x hx,am _ _ hn]
 have hle:=hg.le
 have e1003:M2.get (c+3)=some (aw 51 [.i .i64 0,.i .i64 0,.i .i64 0,.i .i64 0,.i .i64 0]):=by rw[o _ (by omega) (by omega)];exact x3
 have hst:=bG e1003 0 [.i .i64 op] (by simp) rfl
 have ld3:load1 F (M2.set (c+3) (aw 51 (over [.i .i64 0,.i .i64 0,.i .i64 0,.i .i64 0,.i .i64 0] 0 [.i .i64 op]))) (c+3) 0=some (.i .i64 op):=aX (av _ _ _) 0
 rw[show over [V.i .i64 0,V.i .i64 0,V.i .i64 0,V.i .i64 0,V.i .i64 0] 0 [V.i .i64 op]=[.i .i64 op,.i .i64 0,.i .i64 0,.i .i64 0,.i .i64 0]from rfl]at ld3
 simp only[WX,Nat.reduceAdd,Nat.reduceLeDiff,bn0,hst,ld3,h35,nH,h34,A0]
 have gY:Gr c2 (M2.set (c+3) (aw 51 [.i .i64 op,.i .i64 0,.i .i64 0,.i .i64 0,.i .i64 0])) (c2+1) ((M2.set (c+3) (aw 51 [.i .i64 op,.i .i64 0,.i .i64 0,.i .i64 0,.i .i64 0])).set c2 (aw 91 [.b (dI (aL op)),.b (aI (aL op)),.b (bI (aL op)),.b (iI (aL op))])):=
  (Gr.refl (ok2.put (by omega) e1003)).set c2 _ (ak _) (bf _) (bD _)
 have okY:=gY.ok (ok2.put (by omega) e1003)
 have hPI:PI F M ((M2.set (c+3) (aw 51 [.i .i64 op,.i .i64 0,.i .i64 0,.i .i64 0,.i .i64 0])).set c2 (aw 91 [.b (dI (aL op)),.b (aI (aL op)),.b (bI (aL op)),.b (iI (aL op))])) (c2+1) c c2 (mZ s) op 0 0 0 0:=by
  refine⟨okY,by omega,by omega,hge,?_,?_,?_,?_,av _ _ _,fun g hg'=>?_,bp (Be s) hs,((((grX.set (c2:=c+4) (c+1) _ (by omega) (by omega) (ak _)).trans hg).set (c2:=c2) (c+3) _ (by omega) (by omega) (ak _))).set (c2:=c2+1) c2 _ (by omega) (by omega) (by omega)⟩
  ·rw[am _ _ (by omega),am _ _ (by omega),o c (by omega) (by omega)];exact x0
  ·rw[am _ _ (by omega),am _ _ (by omega),hg.old (c+1) (by omega),av]
  ·rw[am _ _ (by omega),am _ _ (by omega),o (c+2) (by omega) (by omega)];exact x2
  ·rw[am _ _ (by omega),av]
  ·rw[am _ _ (by omega),am _ _ (by omega),o g (by omega) (by omega)];exact xl g hg'
 simp only[WX,Zh]
 refine dc0 Φ h15 h77 h44 h78 h80 h79 h109 h58 h96 h97 h126 h57 h116 h94 ht hE1 hE2 hPI ?_ (G1 (X1 (G4 (G2 (G1 (gu (eG (X4 (X2 [])))))))))
 intro op' d' a' b' i' hm' hs'
 have hw:s=bN [32] (dT op'::R1 op' d' a' b' i'):=by rw[←rO];exact hs'.symm
 obtain⟨w1,w2⟩:=gJ (dT op') (R1 op' d' a' b' i') (Ad op')
 rw[←hw]at w1 w2
 obtain⟨n1,n2,_⟩:=fy hm'
 have hN:Mb (dT op') op'.toNat:=by
  unfold Mb dT;rw[ac ⟨n1,n2⟩,List.getElem?_eq_getElem (show op'.toNat<dx.length by rw[iz];omega)];exact⟨by omega,rfl⟩
 rw[w1]at hfd
 rcases hfd with⟨k,hk,rfl,_⟩|⟨hk,_⟩
 ·have:=BN hN hk;have he:op'=(k:Int):=by omega
  subst he;exact⟨rfl,w2⟩
 ·exact absurd hN (hk _)
abbrev Jo(u:List (Option V))(x1 x3 x4 x5 x6 x7:V):T:=(.n (.n (.n (.n (j7 u 31 15 47) (some x7) (j7 u 39 23 55)) (some x3) (aO u 35 19 51 11 43 27 59)) (some x1) (.n (aO u 33 17 49 9 41 25 57) (some x5) (aO u 37 21 53 13 45 29 61))) (uO u 0) (.n (.n (aO u 32 16 48 8 40 24 56) (some x4) (aO u 36 20 52 12 44 28 60)) (uO u 2) (.n (aO u 34 18 50 10 42 26 58) (some x6) (aO u 38 22 54 14 46 30 62))))
def az8:CC:=(.reg [(aa a1 (.bx 51 5 z0)),(qq a2 (.mv (.c (.s 0 0))))])
def bl9:=wu az8.eq_1
def az9:CC:=(.reg [(qq a9 (.fa 0 z1)),(qq cE (.ld1 z9)),(ee cW (.call 41 [cT])),(ee dh (.call 40 [cM])),(qq a8 (.mv cH)),(qq d8 (.ex 0 z8)),(qq dK (.ex 1 z8)),(qq dL (.ex 2 z8)),(qq dJ (.ex 3 z8)),(qq a3 (.mv cI)),(qq a4 (.mv dM)),(qq a5 (.mv dA)),(qq a6 (.mv dX))])
def bm0:=wu az9.eq_1
def aA0:CC:=(.dreg 6 [(1,0,(qq eZ (.fa 0 z1))),(2,2,(qq eN (.ld1 fh))),(0,0,(ee eD (.call 42 []))),(3,7,(qq fq (.iaS 1 eJ fL))),(4,15,(qq ej (.ld1 fO))),(5,31,(qq a7 (.mv gD)))])
def bm1:=wu aA0.eq_1
def aA1:CC:=(.reg [(qq eE (.mv z3))])
def YO:=wu aA1.eq_1
def aA2:CC:=(.reg [(qq eT (.mv z7)),(qq ga (.bi .add ia (.c (.s 2 29216)))),(qq fP (.fa 1 z1)),(qq ft (.ld1 gV)),(ee ie (.call 17 [gy])),(qq gz (.bi .add ib iU)),(qq a7 (.mv iK))])
def bm2:=wu aA2.eq_1
def OH:CC:=(.seq aA1 (.cond gw aA2 .skip))
def YP:=wu OH.eq_1
def aA3:CC:=(.reg [(qq fJ (.mv z4))])
def YR:=wu aA3.eq_1
def aA4:CC:=(.reg [(qq gR (.mv z7)),(qq gW (.bi .add iV (.c (.s 2 29216)))),(qq ig (.fa 2 z1)),(qq iE (.ld1 jR)),(ee fj (.call 17 [kC])),(qq fQ (.bi .add iX kQ)),(qq a7 (.mv jY))])
def bm3:=wu aA4.eq_1
def HV:CC:=(.seq aA3 (.cond j8 aA4 .skip))
def YS:=wu HV.eq_1
def OB:CC:=(.reg [(qq kc (.mv z5))])
def Fy:=wu OB.eq_1
def OC:CC:=(.reg [(qq kd (.mv z7)),(qq kE (.bi .add lN (.c (.s 2 29216)))),(qq jS (.fa 3 z1)),(qq gC (.ld1 lF)),(ee kR (.call 17 [lG])),(qq lJ (.bi .add lO lQ)),(qq a7 (.mv n6))])
def YM:=wu OC.eq_1
def vh:CC:=(.seq OB (.cond lM OC .skip))
def Fz:=wu vh.eq_1
def OD:CC:=(.reg [(qq kW (.mv z6))])
def bH7:=wu OD.eq_1
def OE:CC:=(.reg [(qq kS (.mv z7)),(qq kT (.bi .add oq (.c (.s 1 32)))),(qq kU (.fa 4 z1)),(qq mG (.ld1 oT)),(ee jV (.call 17 [n7])),(qq ke (.bi .add mU ot)),(qq a7 (.mv n8))])
def bH8:=wu OE.eq_1
def sj:CC:=(.seq OD (.cond og OE .skip))
def bH9:=wu sj.eq_1
def sk:CC:=(.reg [(qq mH (.mv z7)),(qq a2 (.mv mV))])
def bI0:=wu sk.eq_1
def OG:CC:=(.seq OH (.seq HV (.seq vh (.seq sj (.seq sk .ret)))))
def YN:=wu OG.eq_1
def c20:CF:= .mk 6 [.t a2] (.seq az8 (.seq az9 (.seq aA0 OG)))
theorem e20(v0:V):aN 6 [v0]=(.n nW (some v0) nW):=rfl
def B20:=ai @e20 (ai @bl9 (ai @bm0 (ai @bm1 (ai @YO (ai @bm2 (ai @YP (ai @YR (ai @bm3 (ai @YS (ai @Fy (ai @YM (ai @Fz (ai @bH7 (ai @bH8 (ai @bH9 (ai @bI0 (@YN)))))))))))))))))
def rj:bw:=fV [.s 0 0] 9 (dx.map sV)
theorem d98(Φ:Nat→Option CF)(h:Φ 42=some c42){F:RO}{M:Mem}{c:Nat}:fc (mK Φ) F 42 [] M c (Φ 42)= .k (.l c 0 29 29) (M.set c rj) (c+1):=by
 have hk:Calls Φ F 42 [] M c fun r M' c'=>r= .l c 0 29 29∧M'=M.set c rj∧c'=c+1:=by
  refine aq h ?_;simp only[WX,Nat.reduceAdd,B42];rfl
 obtain⟨v,M',c',e,rfl,rfl,rfl⟩:=hk
 exact e
theorem XJ{F:RO}{M:Mem}{b c:Nat}(h:M.get b=some rj)(hb:b<c):dp F M c 1 (.l b 0 29 29) (fX dx):=by
 refine Ys (d:=[.s 0 0]) (ty:=9) ?_ hb (fun e he=>by obtain⟨x,_,rfl⟩:=List.mem_map.1 he;rfl) rfl
 rw[h];rfl
def jr(l:List (List UInt8)):List UInt8:=(l.map fun x=>[32]++x).flatten
theorem o5(a b:List (List UInt8)):jr (a++b)=jr a++jr b:=by simp[jr]
theorem YA:jr []=[]:=rfl
theorem rJ(x:List UInt8):jr [x]=32::x:=by simp[jr]
theorem cy3(Φ:Nat→Option CF){L:List gk}(h17:Φ 17=some (.orc (bT L h38))){F:RO}{M:Mem}{c1 cb:Nat}(ht:bE F L=true){op d a b i:Int}(hM:M.get cb=some (aw 51 [.i .i64 op,.i .i64 d,.i .i64 a,.i .i64 b,.i .i64 i]))(hm:cJ op d a b i=true){fd fa fb fi:Bool}(hfd:fd=dI (aL op))(hfa:fa=aI (aL op))(hfb:fb=bI (aL op))(hfi:fi=iI (aL op))(w:List UInt8)(hw:w.length≤100)(u:List (Option V)):
 Wp sj (K Φ none 20 F) (.mk ((Jo u (.p cb 0) (.b fd) (.b fa) (.b fb) (.b fi) (sV w))) [] M c1) (uk (.seq sk .ret) (K Φ none 20 F) (nB F [.t (.r .h)] fun r _ _=>r=sV (w++jr (R4 op i)))):=by
 have hT:=fun h args M c=>dC ht h args M c
 obtain⟨n1,n2,n3,n4,n5⟩:=fy hm
 have lf:load1 F M cb 4=some (.i .i64 i):=aX hM 4
 have hr: -10000000<i∧i<10000000:=by omega
 have hc1:aK .add (sV w) (.s 1 32)=some (sV (w++[32])):=dy w [32] (by simp;omega)
 have hc2:aK .add (sV (w++[32])) (sV (cz i))=some (sV (w++[32]++cz i)):=dy _ _ (by have:=eS i;simp;omega)
 cases fi with
 |true=>
  simp only[WX,B20,lf,hc1,h17,hT,mh hr.1 hr.2,hc2];rw[R4,←hfi,ac rfl,rJ,oD];rfl
 |false=>
  simp only[WX,B20];rw[R4,←hfi,ab (by decide),YA,dw]
theorem cy2(Φ:Nat→Option CF){L:List gk}(h17:Φ 17=some (.orc (bT L h38))){F:RO}{M:Mem}{c1 cb:Nat}(ht:bE F L=true){op d a b i:Int}(hM:M.get cb=some (aw 51 [.i .i64 op,.i .i64 d,.i .i64 a,.i .i64 b,.i .i64 i]))(hm:cJ op d a b i=true){fd fa fb fi:Bool}(hfd:fd=dI (aL op))(hfa:fa=aI (aL op))(hfb:fb=bI (aL op))(hfi:fi=iI (aL op))(w:List UInt8)(hw:w.length≤80)(u:List (Option V)):
 Wp vh (K Φ none 20 F) (.mk ((Jo u (.p cb 0) (.b fd) (.b fa) (.b fb) (.b fi) (sV w))) [] M c1) (uk (.seq sj (.seq sk .ret)) (K Φ none 20 F) (nB F [.t (.r .h)] fun r _ _=>r=sV (w++jr (R3 op b i)))):=by
 have hT:=fun h args M c=>dC ht h args M c
 obtain⟨n1,n2,n3,n4,n5⟩:=fy hm
 have lf:load1 F M cb 3=some (.i .i64 b):=aX hM 3
 have hr: -10000000<b∧b<10000000:=by have:=n3 2;rw[show gv d a b 2=b from rfl]at this;omega
 have hc1:aK .add (sV w) (.s 2 29216)=some (sV (w++[32,114])):=dy w [32,114] (by simp;omega)
 have hc2:aK .add (sV (w++[32,114])) (sV (cz b))=some (sV (w++[32,114]++cz b)):=dy _ _ (by have:=eS b;simp;omega)
 cases fb with
 |true=>
  simp only[WX,Fy,YM,Fz,lf,hc1,h17,hT,mh hr.1 hr.2,hc2];rw[show w++jr (R3 op b i)=(w++[32,114]++cz b)++jr (R4 op i) by rw[R3,←hfb,ac rfl,o5,rJ];simp];exact cy3 (c1:=c1) Φ h17 ht hM hm hfd hfa hfb hfi (w++[32,114]++cz b) (by have:=eS b;simp;omega) (X1 (G1 (X1 (G4 (G1 (gu (eG (X4 (X2 (X1 []))))))))))
 |false=>
  simp only[WX,Fy,Fz];rw[show w++jr (R3 op b i)=w++jr (R4 op i) by rw[R3,←hfb,ab (by decide),List.nil_append]];exact cy3 (c1:=c1) Φ h17 ht hM hm hfd hfa hfb hfi w (by omega) (X1 (G1 (X1 (G4 (G1 (gu (eG (X4 (X2 (X1 []))))))))))
theorem cy1(Φ:Nat→Option CF){L:List gk}(h17:Φ 17=some (.orc (bT L h38))){F:RO}{M:Mem}{c1 cb:Nat}(ht:bE F L=true){op d a b i:Int}(hM:M.get cb=some (aw 51 [.i .i64 op,.i .i64 d,.i .i64 a,.i .i64 b,.i .i64 i]))(hm:cJ op d a b i=true){fd fa fb fi:Bool}(hfd:fd=dI (aL op))(hfa:fa=aI (aL op))(hfb:fb=bI (aL op))(hfi:fi=iI (aL op))(w:List UInt8)(hw:w.length≤60)(u:List (Option V)):
 Wp HV (K Φ none 20 F) (.mk ((Jo u (.p cb 0) (.b fd) (.b fa) (.b fb) (.b fi) (sV w))) [] M c1) (uk (.seq vh (.seq sj (.seq sk .ret))) (K Φ none 20 F) (nB F [.t (.r .h)] fun r _ _=>r=sV (w++jr (R2 op a b i)))):=by
 have hT:=fun h args M c=>dC ht h args M c
 obtain⟨n1,n2,n3,n4,n5⟩:=fy hm
 have lf:load1 F M cb 2=some (.i .i64 a):=aX hM 2
 have hr: -10000000<a∧a<10000000:=by have:=n3 1;rw[show gv d a b 1=a from rfl]at this;omega
 have hc1:aK .add (sV w) (.s 2 29216)=some (sV (w++[32,114])):=dy w [32,114] (by simp;omega)
 have hc2:aK .add (sV (w++[32,114])) (sV (cz a))=some (sV (w++[32,114]++cz a)):=dy _ _ (by have:=eS a;simp;omega)
 cases fa with
 |true=>
  simp only[WX,YR,bm3,YS,lf,hc1,h17,hT,mh hr.1 hr.2,hc2];rw[show w++jr (R2 op a b i)=(w++[32,114]++cz a)++jr (R3 op b i) by rw[R2,←hfa,ac rfl,o5,rJ];simp];exact cy2 (c1:=c1) Φ h17 ht hM hm hfd hfa hfb hfi (w++[32,114]++cz a) (by have:=eS a;simp;omega) (X1 (G1 (X1 (G4 (G1 (gu (eG (X4 (X2 (X1 []))))))))))
 |false=>
  simp only[WX,YR,YS];rw[show w++jr (R2 op a b i)=w++jr (R3 op b i) by rw[R2,←hfa,ab (by decide),List.nil_append]];exact cy2 (c1:=c1) Φ h17 ht hM hm hfd hfa hfb hfi w (by omega) (X1 (G1 (X1 (G4 (G1 (gu (eG (X4 (X2 (X1 []))))))))))
theorem db9(Φ:Nat→Option CF){L:List gk}(h17:Φ 17=some (.orc (bT L h38))){F:RO}{M:Mem}{c1 cb:Nat}(ht:bE F L=true){op d a b i:Int}(hM:M.get cb=some (aw 51 [.i .i64 op,.i .i64 d,.i .i64 a,.i .i64 b,.i .i64 i]))(hm:cJ op d a b i=true){fd fa fb fi:Bool}(hfd:fd=dI (aL op))(hfa:fa=aI (aL op))(hfb:fb=bI (aL op))(hfi:fi=iI (aL op))(w:List UInt8)(hw:w.length≤40)(u:List (Option V)):
 Wp OH (K Φ none 20 F) (.mk ((Jo u (.p cb 0) (.b fd) (.b fa) (.b fb) (.b fi) (sV w))) [] M c1) (uk (.seq HV (.seq vh (.seq sj (.seq sk .ret)))) (K Φ none 20 F) (nB F [.t (.r .h)] fun r _ _=>r=sV (w++jr (R1 op d a b i)))):=by
 have hT:=fun h args M c=>dC ht h args M c
 obtain⟨n1,n2,n3,n4,n5⟩:=fy hm
 have lf:load1 F M cb 1=some (.i .i64 d):=aX hM 1
 have hr: -10000000<d∧d<10000000:=by have:=n3 0;rw[show gv d a b 0=d from rfl]at this;omega
 have hc1:aK .add (sV w) (.s 2 29216)=some (sV (w++[32,114])):=dy w [32,114] (by simp;omega)
 have hc2:aK .add (sV (w++[32,114])) (sV (cz d))=some (sV (w++[32,114]++cz d)):=dy _ _ (by have:=eS d;simp;omega)
 cases fd with
 |true=>
  simp only[WX,YO,bm2,YP,lf,hc1,h17,hT,mh hr.1 hr.2,hc2];rw[show w++jr (R1 op d a b i)=(w++[32,114]++cz d)++jr (R2 op a b i) by rw[R1,←hfd,ac rfl,o5,rJ];simp];exact cy1 (c1:=c1) Φ h17 ht hM hm hfd hfa hfb hfi (w++[32,114]++cz d) (by have:=eS d;simp;omega) (X1 (G1 (X1 (G4 (G1 (gu (eG (X4 (X2 (X1 []))))))))))
 |false=>
  simp only[WX,YO,YP];rw[show w++jr (R1 op d a b i)=w++jr (R2 op a b i) by rw[R1,←hfd,ab (by decide),List.nil_append]];exact cy1 (c1:=c1) Φ h17 ht hM hm hfd hfa hfb hfi w (by omega) (X1 (G1 (X1 (G4 (G1 (gu (eG (X4 (X2 (X1 []))))))))))
theorem r20(Φ:Nat→Option CF)(h:Φ 20=some c20){L:List gk}(h17:Φ 17=some (.orc (bT L h38)))(h41:Φ 41=some (.orc (ah h35)))(vP:Φ 40=some (.orc (ah vP)))(h42:Φ 42=some c42){F:RO}{M:Mem}{c:Nat}(ok:dH F M c)(ht:bE F L=true)(op d a b i:Int)(hm:cJ op d a b i=true):
 Calls Φ F 20 [.g [.i .i64 op,.i .i64 d,.i .i64 a,.i .i64 b,.i .i64 i]] M c fun r _ _=>r=sV (cV op d a b i):=by
 refine aq h ?_
 obtain⟨n1,n2,n3,n4,n5⟩:=fy hm
 have grX:Gr c M (c+1) (M.set c (aw 51 [.i .i64 op,.i .i64 d,.i .i64 a,.i .i64 b,.i .i64 i])):=(Gr.refl ok).set c _ (ak _) (bf _) (bD _)
 simp only[WX,Nat.reduceAdd,e20,bl9,bm0,bm1,h41,nH,vP,Eu]
 have okX:dH F (M.set c (aw 51 [.i .i64 op,.i .i64 d,.i .i64 a,.i .i64 b,.i .i64 i])) (c+1+6):=(grX.up (by omega)).ok ok
 refine Zn (v:= .l (c+1+6) 0 29 29) (blk:=rj) _ _ _ _ _ _ _ _ _ _ _ okX (fun F' M'=>d98 Φ h42) ?_
 intro N hN hNo
 obtain⟨bb,oo,_,hia,hld⟩:=wJ (XJ (F:=F) (c:=c+1+6+1) hN (by omega)) op.toNat (by rw[iz];omega)
 have hia:=hia .i64
 rw[show((op.toNat:Nat):Int)=op by omega]at hia
 have hnb:dx[op.toNat]'(by rw[iz];omega)=dT op:=by
  unfold dT;rw[ac ⟨n1,n2⟩,List.getElem?_eq_getElem (show op.toNat<dx.length by rw[iz];omega)];rfl
 rw[hnb]at hld
 simp only[WX,Nat.reduceAdd,YN,hia,hld]
 have hNc:N.get c=some (aw 51 [.i .i64 op,.i .i64 d,.i .i64 a,.i .i64 b,.i .i64 i]):=by rw[hNo c (by omega),av]
 rw[show cV op d a b i=dT op++jr (R1 op d a b i) by rw[cV,rO];rfl]
 exact db9 Φ h17 ht hNc hm rfl rfl rfl rfl (dT op) (by have:=yz op;omega) (X1 (G1 (X1 (G4 (G1 (gu (eG (X4 (X2 (X1 []))))))))))
def h20:List V→Option V
 |[.g [.i .i64 op,.i .i64 d,.i .i64 a,.i .i64 b,.i .i64 i]]=>if cJ op d a b i=true then some (sV (cV op d a b i))else none
 |_=>none
theorem bA8{op d a b i:Int}(h:cJ op d a b i=true):h20 [.g [.i .i64 op,.i .i64 d,.i .i64 a,.i .i64 b,.i .i64 i]]=some (sV (cV op d a b i)):=ac h
def iL(L:List gk):Prop:=∀ty,bE (pc L ty) L=true
theorem rk{L:List gk}{ty:Nat→Nat}{ct:Nat}(hs:iL L)(hc:1000≤ct):dH (pc L ty) .e ct:=am6 (fun t ht=>(mB (hs ty) t ht).1) hc
theorem ij{v w:V}{f:List UInt8→Option V}(h:(pl v).bind f=some w):∃l,v=sV l∧f l=some w:=by
 obtain⟨l,h1,h2⟩:=aU.1 h
 exact⟨l,bE8 h1,h2⟩
theorem bh1{v w:V}{f:UInt8→Option V}(h:(asB v).bind f=some w):∃b,v=bV b∧f b=some w:=by
 obtain⟨l,h1,h2⟩:=aU.1 h
 exact⟨l,bE7 h1,h2⟩
theorem I0(b:UInt8)(l:List UInt8):bd (fun _=>False) (sA b l):=by
 unfold sA
 cases nc b l 0<;>exact⟨trivial,trivial,trivial,trivial⟩
section
variable{P:Program}(hm:P.follows .mixedOrders=true){Φ:Nat→Option CF}(hΦ:eO P Φ)
include hm hΦ
theorem cY8(h:Φ 120=some ac1):b7 P 120 (ah vN):=bO hm hΦ (by
 intro args v ct hv hct;unfold vN at hv;split at hv
 ·obtain⟨l,rfl,hv1⟩:=ij hv;obtain⟨b,rfl,hv2⟩:=bh1 hv1;obtain rfl:=ae hv2;exact⟨trivial,db7 Φ h _ _ _⟩
 ·cases hv)
theorem cY4(h:Φ 106=some ab6)(vN:Φ 120=some (.orc (ah vN))):b7 P 106 (ah ua):=bO hm hΦ (by
 intro args v ct hv hct;unfold ua at hv;split at hv
 ·obtain⟨l,rfl,hv1⟩:=ij hv;obtain⟨s,rfl,hv2⟩:=ij hv1;split at hv2
  ·obtain rfl:=ae hv2;exact⟨trivial,db2 Φ h vN _ _ _⟩
  ·cases hv2
 ·cases hv)
theorem o72(h:Φ 72=some c72)(ua:Φ 106=some (.orc (ah ua))):b7 P 72 (ah uy):=bO hm hΦ (by
 intro args v ct hv hct;unfold uy at hv;split at hv
 ·obtain⟨l,rfl,hv1⟩:=ij hv;obtain⟨s,rfl,hv2⟩:=ij hv1;split at hv2
  ·split at hv2
   ·rename_i hl;obtain rfl:=ae hv2;exact⟨I0 _ _,t72 Φ h ua _ _ hl _⟩
   ·cases hv2
  ·cases hv2
 ·cases hv)
theorem o44(h:Φ 44=some c44)(h72':Φ 72=some (.orc (ah uy))):b7 P 44 (ah uy):=bO hm hΦ (by
 intro args v ct hv hct;unfold uy at hv;split at hv
 ·obtain⟨l,rfl,hv1⟩:=ij hv;obtain⟨s,rfl,hv2⟩:=ij hv1;split at hv2
  ·split at hv2
   ·rename_i hl;obtain rfl:=ae hv2;exact⟨I0 _ _,t44 Φ h h72' _ _ hl _⟩
   ·cases hv2
  ·cases hv2
 ·cases hv)
theorem cZ0(h:Φ 127=some ac3):b7 P 127 (ah ub):=bO hm hΦ (by
 intro args v ct hv hct;unfold ub at hv;split at hv
 ·obtain⟨l,rfl,hv1⟩:=ij hv;obtain⟨s,rfl,hv2⟩:=ij hv1;obtain rfl:=ae hv2;exact⟨trivial,db8 Φ h _ _ _⟩
 ·cases hv)
theorem cY6(h:Φ 110=some ab9)(ub:Φ 127=some (.orc (ah ub))):b7 P 110 (ah kJ):=bO hm hΦ (by
 intro args v ct hv hct;unfold kJ at hv;split at hv
 ·obtain⟨l,rfl,hv1⟩:=ij hv;obtain⟨s,rfl,hv2⟩:=ij hv1;obtain rfl:=ae hv2;exact⟨trivial,db5 Φ h ub _ _ _⟩
 ·cases hv)
theorem o80(h:Φ 80=some c80)(h110':Φ 110=some (.orc (ah kJ))):b7 P 80 (ah kJ):=bO hm hΦ (by
 intro args v ct hv hct;unfold kJ at hv;split at hv
 ·obtain⟨l,rfl,hv1⟩:=ij hv;obtain⟨s,rfl,hv2⟩:=ij hv1;obtain rfl:=ae hv2;exact⟨trivial,t80 Φ h h110' _ _ _⟩
 ·cases hv)
theorem cY1(h:Φ 101=some ab3):b7 P 101 (ah u7):=bO hm hΦ (by
 intro args v ct hv hct;unfold u7 at hv;split at hv
 ·split at hv
  ·rename_i hh;obtain rfl:=ae hv;exact⟨trivial,da9 Φ h _ hh _⟩
  ·cases hv
 ·cases hv)
theorem cY2(h:Φ 102=some ab4):b7 P 102 (ah u9):=bO hm hΦ (by
 intro args v ct hv hct;unfold u9 at hv;split at hv
 ·obtain rfl:=ae hv;exact⟨trivial,db0 Φ h _ _⟩
 ·cases hv)
theorem o65(h:Φ 65=some c65):b7 P 65 (ah h65):=bO hm hΦ (by
 intro args v ct hv hct;unfold h65 at hv;split at hv
 ·split at hv
  ·rename_i hh;obtain rfl:=ae hv;exact⟨trivial,t65 Φ h _ hh _⟩
  ·cases hv
 ·cases hv)
theorem o94(h:Φ 94=some c94):b7 P 94 (ah h94):=bO hm hΦ (by
 intro args v ct hv hct;unfold h94 at hv;split at hv
 ·obtain⟨b,rfl,hv1⟩:=bh1 hv;obtain rfl:=ae hv1;exact⟨trivial,t94 Φ h _ _⟩
 ·cases hv)
theorem cY7(h:Φ 116=some ac0):b7 P 116 (ah h116):=bO hm hΦ (by
 intro args v ct hv hct;unfold h116 at hv;split at hv
 ·obtain⟨l,rfl,hv1⟩:=ij hv;split at hv1
  ·rename_i hl;obtain rfl:=ae hv1;exact⟨trivial,db6 Φ h _ hl _⟩
  ·cases hv1
 ·cases hv)
theorem o66{L:List gk}(h:Φ 66=some c66)(h92:Φ 92=some (.orc (ah h92)))(u7:Φ 101=some (.orc (ah u7)))(u9:Φ 102=some (.orc (ah u9)))(hs:iL L)(hp:(1,IntKind.u64,F2)∈L):b7 P 66 (bT L h66):=ly hm hΦ (by
 intro args v ct ty hv hct;unfold h66 at hv;split at hv
 ·split at hv
  ·rename_i hh;obtain rfl:=ae hv;exact⟨trivial,r66 Φ h h92 u7 u9 (rk hs hct) (hs ty) hp _ hh.1 hh.2⟩
  ·cases hv
 ·cases hv)
theorem o69{L:List gk}(h:Φ 69=some c69)(h65:Φ 65=some (.orc (ah h65)))(h66:Φ 66=some (.orc (bT L h66)))(h67:Φ 67=some qN)(hs:iL L):b7 P 69 (bT L Xb):=ly hm hΦ (by
 intro args v ct ty hv hct;unfold Xb at hv;split at hv
 ·split at hv
  ·rename_i hh;obtain rfl:=ae hv;exact⟨trivial,r69 Φ h h65 h66 h67 (rk hs hct) (hs ty) _ hh.1 hh.2⟩
  ·cases hv
 ·cases hv)
theorem o38{L:List gk}(h:Φ 38=some c38)(Xb:Φ 69=some (.orc (bT L Xb)))(hs:iL L):b7 P 38 (bT L h38):=ly hm hΦ (by
 intro args v ct ty hv hct;unfold h38 at hv;split at hv
 ·split at hv
  ·rename_i hh;obtain rfl:=ae hv;exact⟨trivial,r38 Φ h Xb (hs ty) _ hh.1 hh.2⟩
  ·cases hv
 ·cases hv)
theorem o17{L:List gk}(h:Φ 17=some c17)(h38':Φ 38=some (.orc (bT L h38)))(hs:iL L):b7 P 17 (bT L h38):=ly hm hΦ (by
 intro args v ct ty hv hct;unfold h38 at hv;split at hv
 ·split at hv
  ·rename_i hh;obtain rfl:=ae hv;exact⟨trivial,r17 Φ h h38' (hs ty) _ hh.1 hh.2⟩
  ·cases hv
 ·cases hv)
theorem o15{L:List gk}(h:Φ 15=some c15)(uc:Φ 33=some (.orc (ah uc)))(h35:Φ 35=some (.orc (ah h35)))(h34:Φ 34=some (.orc (ah h34)))(BJ:Φ 36=some (.orc (ah BJ)))(h17:Φ 17=some (.orc (bT L h38)))
 (h13:Φ 13=some ZW) (h31:Φ 31=some Wi) (h12:Φ 12=some Wg) (h18:Φ 18=some Wh) (h30:Φ 30=some Ka) (h60:Φ 60=some Me) (hs:iL L):b7 P 15 (bT L h15):=ly hm hΦ (by
 intro args v ct ty hv hct;unfold h15 at hv;split at hv
 ·rename_i op d a b i;obtain rfl:=ae hv;by_cases hmy:cJ op d a b i=true
  ·rw[ac hmy];exact⟨⟨trivial,trivial,trivial⟩,r15 Φ h uc h35 h34 BJ h17 h13 h31 h12 h18 h30 h60 (rk hs hct) (hs ty) op d a b i hmy⟩
  ·rw[ab hmy];exact⟨⟨trivial,trivial,trivial⟩,d92 Φ h uc op d a b i (by simpa using hmy)⟩
 ·cases hv)
theorem o20{L:List gk}(h:Φ 20=some c20)(h17:Φ 17=some (.orc (bT L h38)))(h41:Φ 41=some (.orc (ah h35)))(vP:Φ 40=some (.orc (ah vP)))(h42:Φ 42=some c42)(hs:iL L):b7 P 20 (bT L h20):=ly hm hΦ (by
 intro args v ct ty hv hct;unfold h20 at hv;split at hv
 ·split at hv
  ·rename_i hh;obtain rfl:=ae hv;exact⟨trivial,r20 Φ h h17 h41 vP h42 (rk hs hct) (hs ty) _ _ _ _ _ hh⟩
  ·cases hv
 ·cases hv)
theorem cr8(h:Φ 107=some ab7):b7 P 107 (ah h107):=bO hm hΦ (by
 intro args v ct hv hct;unfold h107 at hv;split at hv
 ·obtain rfl:=ae hv;exact⟨⟨trivial,trivial⟩,db3 Φ h _⟩
 ·cases hv)
theorem cZ1(h:Φ 92=some c92):b7 P 92 (ah h92):=bO hm hΦ (by
 intro args v ct hv hct;unfold h92 at hv;split at hv
 ·split at hv
  ·obtain rfl:=ae hv;exact⟨trivial,t92 Φ h _ (by assumption) _⟩
  ·cases hv
 ·cases hv)
end
def Do(x:UInt8):Bool:=decide (97≤x.toNat∧x.toNat≤122)||(decide (48≤x.toNat∧x.toNat≤57)||(decide (x=45)||decide (x=32)))
theorem Ec:∀(k n:Nat),(dO k n).all Do=true
 |0,_=>rfl
 |k+1,n=>by
  rw[dO,List.all_append,Ec k,Bool.true_and];have:n%10<10:=Nat.mod_lt _ (by decide);generalize n%10=d at this;have:∀d,d<10→[UInt8.ofNat (48+d)].all Do=true:=by decide
  exact this d ‹_›
theorem Iw(n:Int):(cz n).all Do=true:=by
 cases n with
 |ofNat n=>exact Ec _ _
 |negSucc n=>show(45::bn (n+1)).all Do=true;rw[List.all_cons,show(bn (n+1)).all Do=true from Ec _ _];rfl
theorem al3{op:Int}(h1:1≤op)(h2:op≤28):(dT op).all Do=true∧ ∃c r,dT op=c::r∧97≤c.toNat∧c.toNat≤122:=by
 obtain⟨k,rfl⟩:=Int.eq_ofNat_of_zero_le (show 0≤op by omega)
 have key:∀k,k<29→1≤k→((dx[k]?).getD []).all Do=true∧(match (dx[k]?).getD []with|c::_=>decide (97≤c.toNat∧c.toNat≤122)|[]=>false)=true:=by decide+kernel
 obtain⟨a1,a2⟩:=key k (by omega) (by omega)
 unfold dT
 rw[ac ⟨h1,h2⟩]
 show((dx[k]?).getD []).all Do=true∧ ∃c r,(dx[k]?).getD []=c::r∧_
 refine⟨a1,?_⟩
 cases hq:(dx[k]?).getD []with
 |nil=>rw[hq]at a2;cases a2
 |cons c r=>rw[hq]at a2;exact⟨c,r,rfl,(b9 a2).1,(b9 a2).2⟩
theorem ai3:∀(ws:List (List UInt8)),(∀w∈ws,w.all Do=true)→(bN [32] ws).all Do=true
 |[],_=>rfl
 |w::r,h=>by
  unfold bN;rw[List.all_append,h w (cd ..),Bool.true_and]
  have:∀r:List (List UInt8),(∀w∈r,w.all Do=true)→((r.map fun x=>[32]++x).flatten).all Do=true:=by
   intro r
   induction r with
   |nil=>intro _;rfl
   |cons a r ih=>
    intro h;rw[List.map_cons,List.flatten_cons,List.all_append,ih fun w hw=>h w (bK _ hw),List.all_append,h a (cd ..)];rfl
  exact this r fun w hw=>h w (bK _ hw)
theorem br1{op d a b:Int}(h:(dT op).all Do=true):∀i,∀w∈wk op d a b i,w.all Do=true
 |0,w,hw=>by rw[wk,List.mem_singleton]at hw;subst hw;exact h
 |i+1,w,hw=>by
  rw[wk,List.mem_append]at hw;rcases hw with hw|hw
  ·exact br1 h i w hw
  ·split at hw
   ·rw[List.mem_singleton]at hw;subst hw;rw[List.all_cons,Iw];decide
   ·cases hw
theorem bD6{op d a b i:Int}(hm:cJ op d a b i=true):1≤op∧op≤28:=by
 unfold cJ at hm
 simp only[aJ,decide_eq_true_eq]at hm
 exact⟨hm.1,hm.2.1⟩
theorem AE{op d a b i:Int}(hm:cJ op d a b i=true):(cV op d a b i).all Do=true∧ ∃c r,cV op d a b i=c::r∧97≤c.toNat∧c.toNat≤122:=by
 obtain⟨h1,h2⟩:=bD6 hm
 obtain⟨a1,c,r,a2,a3,a4⟩:=al3 h1 h2
 refine⟨ai3 _ fun w hw=>?_,?_⟩
 ·unfold eM at hw;rw[List.mem_append]at hw;rcases hw with hw|hw
  ·exact br1 a1 3 w hw
  ·split at hw
   ·rw[List.mem_singleton]at hw;subst hw;exact Iw _
   ·cases hw
 ·have e:∃ws,eM op d a b i=dT op::ws:=by
   unfold eM wk wk wk wk;simp only[oD,List.cons_append,List.nil_append];exact⟨_,rfl⟩
  obtain⟨ws,e⟩:=e;unfold cV;rw[e];unfold bN;rw[a2];exact⟨c,_,rfl,a3,a4⟩
abbrev cz0(u:List (Option V))(x0 x1 x5:V):T:=(.n (.n (aO u 15 7 23 3 19 11 27) (some x1) (.n (j7 u 17 9 25) (some x5) (j7 u 21 13 29))) (some x0) (.n (aO u 16 8 24 4 20 12 28) (uO u 2) (aO u 18 10 26 6 22 14 30)))
def aD7:CC:=(.reg [(qq a6 (.mv (.c (.i .u64 0)))),(qq a7 (.mv (.c .a0)))])
def aD8:CC:=(.reg [(qq cW (.mv z0)),(qq dh (.mv z1)),(qq d8 (.mv z2)),(ee dK (.call 57 [cM,cH,cI])),(qq cE (.mv dM)),(qq dL (.ex 0 cT)),(qq dJ (.ex 1 cT)),(qq a8 (.mv dA)),(qq a9 (.mv dX))])
def aD9:CC:=(.reg [(qq eD (.mv z9)),(qq eZ (.eq true .iface true eJ (.c .a0)))])
def aE0:CC:=(.reg [(qq eN (.mv z8)),(qq fq (.mv z0)),(qq ej (.mv z1)),(qq eE (.mv z2)),(qq eT (.mv z9)),(ee ga (.call 58 [(.c (.s 9 2147778296661251613008)),fO,gD,gw,ia])),(qq a6 (.mv fL)),(qq a7 (.mv ib))])
def aE1:CC:=(.seq aD9 (.cond fh (.seq aE0 .ret) .skip))
def aE2:CC:=(.reg [(qq fP (.mv z8)),(qq a6 (.mv gV)),(qq a7 (.mv (.c .a0)))])
def c29:CF:= .mk 5 [.t a6,.t a7] (.seq aD7 (.seq aD8 (.seq aE1 (.seq aE2 .ret))))
theorem e29(v0 v1 v2:V):aN 5 [v0,v1,v2]=(.n (.n eX (some v1) eX) (some v0) (.n eX (some v2) eX)):=rfl
def B29:=ai @e29 (ai (wu aD7.eq_1) (ai (wu aD8.eq_1) (ai (wu aD9.eq_1) (ai (wu aE0.eq_1) (ai (wu aE1.eq_1) (wu aE2.eq_1))))))
def bd4:CC:=(.reg [(qq a4 (.mv (x6 0)))])
def bd5:CC:=(.reg [(qq a6 (.mv z0)),(qq a7 (.ln .str z6)),(qq a8 (.bi .sub z7 (x6 1))),(qq a5 (.mv z8))])
def bd6:CC:=(.reg [(qq a9 (.mv z5)),(qq cE (.bi .geq z9 (x6 0)))])
def bd7:CC:=(.reg [(qq d8 (.mv z0)),(qq dK (.mv z5)),(qq dL (.ixS cI dM)),(qq dJ (.mv z1)),(qq eD (.bi .eql dA dX))])
def bd8:CC:=(.reg [(qq eZ (.mv z5)),(qq a4 (.mv fh))])
def bd9:CC:=(.seq bd7 (.cond eJ (.seq bd8 .ret) .skip))
def be0:CC:=(.reg [(qq cW (.mv z5)),(qq dh (.bi .sub cM (x6 1))),(qq a5 (.mv cH))])
def be1:CC:=(.seq (.seq bd6 (.cond cT .skip (.exit 0))) (.seq (.block 1 bd9) be0))
def be2:CC:=(.reg [(qq a4 (.mv (x6 (-1))))])
def VW:CC:=(.seq (.seq bd5 (.block 0 (.loop be1))) (.seq be2 .ret))
def c81:CF:= .mk 5 [.t a4] (.seq bd4 VW)
theorem e81(v0 v1:V):aN 5 [v0,v1]=(.n (.n eX (some v1) eX) (some v0) kV):=rfl
def B81:=ai @e81 (ai (wu bd4.eq_1) (ai (wu bd5.eq_1) (ai (wu bd6.eq_1) (ai (wu bd7.eq_1) (ai (wu bd8.eq_1) (ai (wu bd9.eq_1) (ai (wu be0.eq_1) (ai (wu be1.eq_1) (ai (wu be2.eq_1) (wu VW.eq_1))))))))))
def aQ8:CC:=(.reg [(qq a4 (.mv (x6 0)))])
def aQ9:CC:=(.reg [(qq a5 (.mv z0)),(qq a6 (.mv z1)),(ee a7 (.call 81 [z5,z6])),(qq a4 (.mv z7))])
def c48:CF:= .mk 4 [.t a4] (.seq aQ8 (.seq aQ9 .ret))
theorem e48(v0 v1:V):aN 4 [v0,v1]=(.n (.n jq (some v1) jq) (some v0) eX):=rfl
def B48:=ai @e48 (ai (wu aQ8.eq_1) (wu aQ9.eq_1))
def aT0:CC:=(.reg [(qq a4 (.mv xF))])
def aT1:CC:=(.reg [(qq a5 (.mv z0)),(qq a6 (.ln .str z5)),(qq a7 (.mv z1)),(qq a8 (.ln .str z7)),(qq a9 (.bi .geq z6 z8)),(qq cE (.mv z9)),(aj cW (.mv z0) cE),(aj dh (.mv z0) cE),(aj d8 (.ln .str cH) cE),(aj dK (.mv z1) cE),(aj dL (.ln .str dM) cE),(aj dJ (.bi .sub cI dA) cE),(aj eD (.slS cM (some dX) none) cE),(aj eZ (.mv z1) cE),(aj eN (.bi .eql eJ fh) cE),(qq fq (.pk cT fL xF)),(qq a4 (.mv fO))])
def c53:CF:= .mk 5 [.t a4] (.seq aT0 (.seq aT1 .ret))
theorem e53(v0 v1:V):aN 5 [v0,v1]=(.n (.n eX (some v1) eX) (some v0) kV):=rfl
def B53:=ai @e53 (ai (wu aT0.eq_1) (wu aT1.eq_1))
def b50:CC:=(.reg [(qq a4 (.mv (.c (.s 0 0)))),(qq a5 (.mv xF))])
def b52:CC:=(.reg [(qq a6 (.mv z0)),(qq a7 (.mv z1)),(ee a8 (.call 53 [z6,z7])),(qq a9 (.un .not z8))])
def b53:CC:=(.reg [(qq cE (.mv z0)),(qq a4 (.mv cT)),(qq a5 (.mv xF))])
def b54:CC:=(.seq b52 (.cond z9 (.seq b53 .ret) .skip))
def b56:CC:=(.reg [(qq cW (.mv z0)),(qq dh (.mv z0)),(qq d8 (.ln .str cH)),(qq dK (.mv z1)),(qq dL (.ln .str dM)),(qq dJ (.bi .sub cI dA)),(qq eD (.slS cM none (some dX))),(qq a4 (.mv eJ)),(qq a5 (.mv xT))])
def c73:CF:= .mk 5 [.t a4,.t a5] (.seq b50 (.seq b54 (.seq b56 .ret)))
theorem e73(v0 v1:V):aN 5 [v0,v1]=(.n (.n eX (some v1) eX) (some v0) kV):=rfl
def B73:=ai @e73 (ai (wu b50.eq_1) (ai (wu b52.eq_1) (ai (wu b53.eq_1) (ai (wu b54.eq_1) (wu b56.eq_1)))))
def aP1:CC:=(.reg [(qq a4 (.mv (.c (.s 0 0)))),(qq a5 (.mv xF))])
def aP2:CC:=(.reg [(qq a6 (.mv z0)),(qq a7 (.mv z1)),(ee a8 (.call 73 [z6,z7])),(qq a9 (.ex 0 z8)),(qq cE (.ex 1 z8)),(qq a4 (.mv z9)),(qq a5 (.mv cT))])
def c45:CF:= .mk 4 [.t a4,.t a5] (.seq aP1 (.seq aP2 .ret))
theorem e45(v0 v1:V):aN 4 [v0,v1]=(.n (.n jq (some v1) jq) (some v0) eX):=rfl
def B45:=ai @e45 (ai (wu aP1.eq_1) (wu aP2.eq_1))
def aD3:CC:=(.reg [(qq a4 (.mv xF))])
def aD4:CC:=(.reg [(qq a5 (.mv z0)),(qq a6 (.mv z1)),(ee a7 (.call 53 [z5,z6])),(qq a4 (.mv z7))])
def c25:CF:= .mk 4 [.t a4] (.seq aD3 (.seq aD4 .ret))
theorem e25(v0 v1:V):aN 4 [v0,v1]=(.n (.n jq (some v1) jq) (some v0) eX):=rfl
def B25:=ai @e25 (ai (wu aD3.eq_1) (wu aD4.eq_1))
def aS8:CC:=(.reg [(qq a3 (.mv z0)),(qq a4 (.ci .u8 z3)),(qq a5 (.mv z0)),(qq a6 (.bi .shr z5 (.c (.i .u64 8)))),(qq a7 (.ci .u8 z6)),(qq a8 (.mv z0)),(qq a9 (.bi .shr z8 (.c (.i .u64 16)))),(qq cE (.ci .u8 z9)),(qq cW (.mv z0)),(qq dh (.bi .shr cM (.c (.i .u64 24)))),(qq d8 (.ci .u8 cH)),(aa dK (.bsl 5 4 1 [(.i .u8 0)] [(0,z4),(1,z7),(2,cT),(3,cI)])),(qq a2 (.mv dM))])
def aS9:CC:=(.seq (.reg [(qq a2 (.mv (.c .l0)))]) (.seq aS8 .ret))
def c52:CF:= .mk 4 [.t a2] aS9
theorem e52(v0:V):aN 4 [v0]=(.n eX (some v0) eX):=rfl
def B52:=ai @e52 (ai (wu aS8.eq_1) (wu aS9.eq_1))
def be3:CC:=(.reg [(qq a6 (.mv (.c (.i .u64 0)))),(qq a7 (.mv xF))])
def be4:CC:=(.reg [(qq cW (.mv z0)),(ee dh (.call 29 [cM,(x6 10),(x6 64)])),(qq cE (.mv cH)),(qq d8 (.ex 0 cT)),(qq dK (.ex 1 cT)),(qq a8 (.mv cI)),(qq a9 (.mv dM))])
def be5:CC:=(.reg [(qq dL (.mv z8)),(qq dJ (.mv z8)),(ee eD (.call 16 [dX,(x6 10)])),(qq eZ (.mv z0)),(qq eN (.bi .eql eJ fh)),(qq fq (.mv fL)),(aj ej (.mv z8) fq),(aj eE (.mv z1) fq),(aj eT (.bi .geq gD gw) fq),(qq ga (.pk fO ia xF)),(qq fP (.mv ib)),(aj ft (.mv z8) fP),(aj ie (.mv z2) fP),(aj gz (.bi .leq gy iU) fP),(qq fJ (.pk gV iK xF)),(qq a6 (.mv dA)),(qq a7 (.mv j8))])
def c82:CF:= .mk 5 [.t a6,.t a7] (.seq be3 (.seq be4 (.seq be5 .ret)))
theorem e82(v0 v1 v2:V):aN 5 [v0,v1,v2]=(.n (.n eX (some v1) eX) (some v0) (.n eX (some v2) eX)):=rfl
def B82:=ai @e82 (ai (wu be3.eq_1) (ai (wu be4.eq_1) (wu be5.eq_1)))
theorem r81(Φ:Nat→Option CF)(h:Φ 81=some c81){F:RO}{M:Mem}{c:Nat}(a w:List UInt8)(hw:∀x∈w,x≠32)(hl:(a++32::w).length≤1000000):
 Calls Φ F 81 [sV (a++32::w),.i .u8 32] M c fun r M' c'=>r= .i .i64 (a.length:Int)∧M'=M∧c'=c:=by
 refine aq h ?_
 have hlen:(a++32::w).length=a.length+w.length+1:=by simp;omega
 have q0:aK .sub (.i .i64 ((a++32::w).length:Int)) (.i .i64 1)=some (.i .i64 ((a.length+w.length:Nat):Int)):=by
  rw[kp _ _ (by omega) (by omega)];congr 2;omega
 simp only[WX,B81,q0]
 obtain⟨I,hI⟩:∃I:Nat→St→Prop,∀n s',I n s'↔(∃(j:Nat) (u:List (Option V)),n=j∧j≤w.length∧s'= .mk ((cz0 u (sV (a++32::w)) (.i .u8 32) (.i .i64 ((a.length+j:Nat):Int)))) [] M c):=⟨fun n s'=>_,fun _ _=>Iff.rfl⟩
 refine de I ?_ w.length _ ((hI _ _).2 ⟨w.length,(G2 (X2 (X1 (G1 (eG (X8 (X1 []))))))),rfl,ak _,rfl⟩)
 intro n s' hIs
 obtain⟨j,u,rfl,hj,rfl⟩:=(hI _ _).1 hIs
 clear hIs
 have d1:decide ((0:Int)≤((a.length+n:Nat):Int))=true:=af (by omega)
 have hix:=BR (a++32::w) .i64 (a.length+n) (by omega)
 cases n with
 |zero=>
  have e:(a++32::w)[a.length+0]'(by omega)=32:=by simp
  rw[e]at hix;have hb:bV 32= .i .u8 32:=rfl;rw[hb]at hix;simp only[WX,B81,d1,hix];rfl
 |succ n=>
  have e:(a++32::w)[a.length+(n+1)]'(by omega)=w[n]'(by omega):=by
   rw[l7 (by omega)];have:a.length+(n+1)-a.length=n+1:=by omega
   simp[this]
  rw[e]at hix;have hx:=hw _ (List.getElem_mem (show n<w.length by omega));generalize w[n]=x at hix hx;have d2:decide ((x.toNat:Int)=32)=false:=ag fun h=>hx (UInt8.toNat_inj.1 (by show x.toNat=32;omega));have hb:bV x= .i .u8 (x.toNat:Int):=rfl;rw[hb]at hix;have q1:aK .sub (.i .i64 ((a.length+(n+1):Nat):Int)) (.i .i64 1)=some (.i .i64 ((a.length+n:Nat):Int)):=by rw[kp _ _ (by omega) (by omega)];congr 2;omega
  simp only[WX,B81,d1,hix,d2,q1];exact⟨n,by omega,(hI _ _).2 ⟨n,(G2 (X2 (X1 (G1 (eG (X8 (X1 []))))))),rfl,by omega,rfl⟩⟩
theorem r48(Φ:Nat→Option CF)(h:Φ 48=some c48)(h81:Φ 81=some c81){F:RO}{M:Mem}{c:Nat}(a w:List UInt8)(hw:∀x∈w,x≠32)(hl:(a++32::w).length≤1000000):
 Calls Φ F 48 [sV (a++32::w),.i .u8 32] M c fun r M' c'=>r= .i .i64 (a.length:Int)∧M'=M∧c'=c:=by
 refine aq h ?_
 simp only[WX,B48]
 refine aC ((r81 Φ h81 a w hw hl).mono ?_)
 rintro r M1 c1 ⟨rfl,rfl,rfl⟩
 simp only[WX]
def sC(s t:List UInt8):Bool:=decide (t.length≤s.length)&&decide (s.drop (s.length-t.length)=t)
theorem r53(Φ:Nat→Option CF)(h:Φ 53=some c53){F:RO}{M:Mem}{c:Nat}(s t:List UInt8)(hs:s.length≤1000000)(ht:t.length≤1000000):
 Calls Φ F 53 [sV s,sV t] M c fun r M' c'=>r= .b (sC s t)∧M'=M∧c'=c:=by
 refine aq h ?_
 unfold sC
 by_cases hl:t.length≤s.length
 ·have d1:decide ((t.length:Int)≤(s.length:Int))=true:=af (by omega);have q0:aK .sub (.i .i64 (s.length:Int)) (.i .i64 (t.length:Int))=some (.i .i64 ((s.length-t.length:Nat):Int)):=by
   rw[kp _ _ (by omega) (by omega)];congr 2;omega
  have q1:=yM s .i64 (s.length-t.length) (by omega);have q2:=iY (s.drop (s.length-t.length)) t;simp only[WX,B53,d1,q0,q1,q2];rw[af hl,Bool.true_and]
 ·have d1:decide ((t.length:Int)≤(s.length:Int))=false:=ag (by omega);simp only[WX,B53,d1];rw[ag hl,Bool.false_and]
theorem r25(Φ:Nat→Option CF)(h:Φ 25=some c25)(h53:Φ 53=some c53){F:RO}{M:Mem}{c:Nat}(s t:List UInt8)(hs:s.length≤1000000)(ht:t.length≤1000000):
 Calls Φ F 25 [sV s,sV t] M c fun r M' c'=>r= .b (sC s t)∧M'=M∧c'=c:=by
 refine aq h ?_
 simp only[WX,B25]
 refine aC ((r53 Φ h53 s t hs ht).mono ?_)
 rintro r M1 c1 ⟨rfl,rfl,rfl⟩
 simp only[WX]
theorem cw6(Φ:Nat→Option CF)(h:Φ 45=some c45)(h73:Φ 73=some c73)(h53:Φ 53=some c53){F:RO}{M:Mem}{c:Nat}(s t:List UInt8)(hs:s.length≤1000000)(ht:t.length≤1000000)(hn:sC s t=false):
 Calls Φ F 45 [sV s,sV t] M c fun r M' c'=>r= .t [sV s,.b false]∧M'=M∧c'=c:=by
 refine aq h ?_
 have r73:Calls Φ F 73 [sV s,sV t] M c fun r M' c'=>r= .t [sV s,.b false]∧M'=M∧c'=c:=by
  refine aq h73 ?_;simp only[WX,B73];refine aC ((r53 Φ h53 s t hs ht).mono ?_);rintro r M1 c1 ⟨rfl,rfl,rfl⟩;rw[hn];simp only[WX,B73]
 simp only[WX,B45]
 refine aC (r73.mono ?_)
 rintro r M1 c1 ⟨rfl,rfl,rfl⟩
 simp only[WX]
def Dn(n:Nat):List UInt8:=[UInt8.ofNat (n%256),UInt8.ofNat (n/256%256),UInt8.ofNat (n/65536%256),UInt8.ofNat (n/16777216%256)]
theorem r52(Φ:Nat→Option CF)(h:Φ 52=some c52){F:RO}{M:Mem}{c:Nat}(ok:dH F M c)(n:Nat)(hn:n<4294967296):
 Calls Φ F 52 [.i .u64 (n:Int)] M c fun r M' c'=>r= .l c 0 4 4∧M'=M.set c (fV [.i .u8 0] 5 ((Dn n).map bV))∧c'=c+1:=by
 refine aq h ?_
 have s1:=mE n 8 (by omega)
 have s2:=mE n 16 (by omega)
 have s3:=mE n 24 (by omega)
 rw[show((8:Nat):Int)=8 from rfl,show(2:Nat)^8=256 from rfl]at s1
 rw[show((16:Nat):Int)=16 from rfl,show(2:Nat)^16=65536 from rfl]at s2
 rw[show((24:Nat):Int)=24 from rfl,show(2:Nat)^24=16777216 from rfl]at s3
 have wr:∀m:Nat,V.i .u8 (IntKind.u8.wrap (m:Int))=bV (UInt8.ofNat (m%256)):=fun m=>by
  rw[eQ _ (Nat.mod_lt _ (by decide)),g9];rfl
 simp only[WX,Nat.reduceAdd,B52,s1,s2,s3,wr,di,cw]
 rfl
theorem d97(Φ:Nat→Option CF)(h:Φ 29=some c29)(h57:Φ 57=some Bm){F:RO}{M:Mem}{c:Nat}(ok:dH F M c)(n:Nat)(hn:n<4294967296):
 Calls Φ F 29 [sV (bn n),.i .i64 10,.i .i64 64] M c fun r M' c'=>r= .t [.i .u64 (n:Int),.a0]∧Gr c M c' M':=by
 refine aq h ?_
 have hb:1≤nd n∧nd n≤10∧n<10^nd n:=by
  unfold nd;repeat' split
  all_goals exact⟨by omega,by omega,by simp only[Nat.reducePow]<;>omega⟩
 simp only[WX,B29]
 refine aC ((da2 Φ h57 ok (nd n) n hb.1 hb.2.1 hb.2.2).mono ?_)
 rintro r M1 c1 ⟨rfl,hg⟩
 simp only[WX,B29,qV]
 exact hg
theorem r82(Φ:Nat→Option CF)(h:Φ 82=some c82)(h29:Φ 29=some c29)(h57:Φ 57=some Bm)(h16:Φ 16=some c16)(h37:Φ 37=some ZX){L:List gk}(h65:Φ 65=some (.orc (ah h65)))(h66:Φ 66=some (.orc (bT L h66)))(h67:Φ 67=some qN)
 {F:RO} {M:Mem} {c:Nat} (ok:dH F M c) (ht:bE F L=true) (n lo hi:Nat) (hn:n<4294967296) (h1:lo≤n) (h2:n≤hi):
 Calls Φ F 82 [sV (bn n),.i .u64 (lo:Int),.i .u64 (hi:Int)] M c fun r M' c'=>r= .t [.i .u64 (n:Int),.b true]∧Gr c M c' M':=by
 refine aq h ?_
 simp only[WX,B82]
 refine aC ((d97 Φ h29 h57 ok n hn).mono ?_)
 rintro r M1 c1 ⟨rfl,g1⟩
 have ok1:=g1.ok ok
 simp only[WX,B82]
 refine aC ((r16 Φ h16 h37 h65 h66 h67 ok1 ht n hn).mono ?_)
 rintro r M2 c2 ⟨rfl,g2⟩
 have q:=iY (bn n) (bn n)
 rw[af rfl]at q
 have d1:decide ((lo:Int)≤(n:Int))=true:=af (by omega)
 have d2:decide ((n:Int)≤(hi:Int))=true:=af (by omega)
 simp only[WX,q,d1,d2]
 exact g1.trans g2
abbrev cy8(u:List (Option V))(x0 x1 x2 x6 x10:V):T:=(.n (.n (aO u 15 7 23 3 19 11 27) (some x1) (aO u 17 9 25 5 21 13 29)) (some x0) (.n (aO u 16 8 24 4 20 12 28) (some x2) (.n (.n (pd u 18) (some x10) (pd u 26)) (some x6) (j7 u 22 14 30))))
def b66:CC:=(.reg [(qq a3 (.mv z0)),(qq a4 (.bi .lss z3 (.c (.i .i32 97)))),(qq a5 (.mv z4)),(bk a6 (.mv z0) a5),(bk a7 (.bi .gtr z6 (.c (.i .i32 122))) a5),(qq a8 (.pk z5 xT z7)),(qq a9 (.mv z8)),(aj cE (.mv z0) a9),(aj cW (.bi .lss cT (.c (.i .i32 48))) a9),(aj dh (.mv cM) a9),(bk d8 (.mv z0) dh),(bk dK (.bi .gtr cI (.c (.i .i32 57))) dh),(aj dL (.pk cH xT dM) a9),(qq dJ (.pk z9 dA xF)),(qq eD (.mv dX)),(aj eZ (.mv z0) eD),(aj eN (.bi .neq fh (.c (.i .i32 95))) eD),(qq fq (.pk eJ fL xF)),(qq a2 (.mv fO))])
def b67:CC:=(.seq (.reg [(qq a2 (.mv xF))]) (.seq b66 .ret))
def c76:CF:= .mk 5 [.t a2] b67
theorem e76(v0:V):aN 5 [v0]=(.n kV (some v0) kV):=rfl
def B76:=ai @e76 (ai (wu b66.eq_1) (wu b67.eq_1))
def Ny:CC:=(.reg [(qq a6 (.mv (x6 0)))])
def Nz:CC:=(.reg [(qq a9 (.mv z0)),(aa cE (.rgs z9))])
def NA:CC:=(.reg [(ee cW (.nxs cT)),(qq dh (.ex 0 cM))])
def NB:CC:=(.reg [(qq d8 (.ex 1 cM)),(qq dK (.ex 2 cM)),(qq a7 (.mv cI)),(qq a8 (.mv dM))])
def NC:CC:=(.reg [(qq dL (.mv z1)),(qq dJ (.mv z8)),(ee eD (.cv dA [dX])),(qq eZ (.mv z2)),(qq eN (.eq false .bool false eJ fh))])
def NE:CC:=(.reg [(qq fq (.mv z7)),(qq a6 (.mv fO))])
def NF:CC:=(.cond fL (.seq NE .ret) .skip)
def NG:CC:=(.seq (.cond cH .skip (.exit 0)) (.block 1 (.seq NB (.seq NC NF))))
def NH:CC:=(.reg [(qq a6 (.mv (x6 (-1))))])
def Hs:CC:=(.seq (.seq Nz (.block 0 (.loop (.seq NA NG)))) (.seq NH .ret))
def ac2:CF:= .mk 5 [.t a6] (.seq Ny Hs)
theorem cW0(v0 v1 v2:V):aN 5 [v0,v1,v2]=(.n (.n eX (some v1) eX) (some v0) (.n eX (some v2) eX)):=rfl
def Mp:=ai @cW0 (ai (wu Ny.eq_1) (ai (wu Nz.eq_1) (ai (wu NA.eq_1) (ai (wu NB.eq_1) (ai (wu NC.eq_1) (ai (wu NE.eq_1) (ai (wu NF.eq_1) (ai (wu NG.eq_1) (ai (wu NH.eq_1) (wu Hs.eq_1))))))))))
def MZ:CC:=(.reg [(qq a4 (.mv (x6 0)))])
def N0:CC:=(.reg [(qq a5 (.mv z0)),(qq a6 (.mv z1)),(ee a7 (.call 125 [z5,z6,xT])),(qq a4 (.mv z7))])
def ab8:CF:= .mk 4 [.t a4] (.seq MZ (.seq N0 .ret))
theorem cV5(v0 v1:V):aN 4 [v0,v1]=(.n (.n jq (some v1) jq) (some v0) eX):=rfl
def cS5:=ai @cV5 (ai (wu MZ.eq_1) (wu N0.eq_1))
def b64:CC:=(.reg [(qq a4 (.mv xF))])
def b65:CC:=(.reg [(qq a5 (.mv z0)),(qq a6 (.mv z1)),(ee a7 (.call 108 [z5,z6])),(qq a8 (.bi .geq z7 (x6 0))),(qq a4 (.mv z8))])
def c75:CF:= .mk 4 [.t a4] (.seq b64 (.seq b65 .ret))
theorem e75(v0 v1:V):aN 4 [v0,v1]=(.n (.n jq (some v1) jq) (some v0) eX):=rfl
def B75:=ai @e75 (ai (wu b64.eq_1) (wu b65.eq_1))
def aP3:CC:=(.reg [(qq a6 (.mv z0)),(ee a7 (.call 74 [z6])),(qq a5 (.mv z7)),(qq a8 (.ex 0 z5)),(qq a9 (.ex 1 z5)),(qq a3 (.mv z8)),(qq a4 (.mv z9))])
def aP4:CC:=(.reg [(qq cE (.mv z4)),(qq cW (.mv cT)),(bk dh (.mv z0) cW),(bk d8 (.ln .str cH) cW),(bk dK (.bi .lss cI (x6 1)) cW),(qq dL (.pk cM xT dM)),(qq dJ (.mv dA)),(bk eD (.mv z0) dJ),(bk eZ (.ln .str eJ) dJ),(bk eN (.bi .gtr fh (x6 12)) dJ),(qq fq (.pk dX xT fL)),(qq ej (.mv fO)),(bk eE (.mv z0) ej),(bk eT (.ixS gw (x6 0)) ej),(bk ga (.bi .lss ia (.c (.i .u8 97))) ej),(qq fP (.pk gD xT ib)),(qq ft (.mv gV)),(bk ie (.mv z0) ft),(bk gz (.ixS iU (x6 0)) ft),(bk fJ (.bi .gtr iK (.c (.i .u8 122))) ft),(qq gR (.pk gy xT j8))])
def aP5:CC:=(.seq (.reg [(qq a2 (.mv xF))]) .ret)
def aP6:CC:=(.seq aP4 (.cond iV aP5 .skip))
def aP7:CC:=(.reg [(qq gW (.mv z0)),(ee ig (.call 75 [iX,(.c (.f 76 [] []))])),(qq iE (.un .not jR)),(qq a2 (.mv kC))])
def aP8:CC:=(.seq (.reg [(qq a2 (.mv xF))]) (.seq (.seq aP3 aP6) (.seq aP7 .ret)))
def c46:CF:= .mk 6 [.t a2] aP8
theorem e46(v0:V):aN 6 [v0]=(.n nW (some v0) nW):=rfl
def B46:=ai @e46 (ai (wu aP3.eq_1) (ai (wu aP4.eq_1) (ai (wu aP5.eq_1) (ai (wu aP6.eq_1) (ai (wu aP7.eq_1) (wu aP8.eq_1))))))
def BM(n:Int):Bool:=decide (97≤n)&&decide (n≤122)
def bB8(n:Int):Bool:=decide (48≤n)&&decide (n≤57)
def At(r:Int):Bool:= !BM r&&(!bB8 r&& !decide (r=95))
def ET(c:UInt8):Bool:= !At (c.toNat:Int)
def lT:List UInt8→Nat→Option Nat
 |[],_=>none
 |c::r,i=>if ET c=true then lT r (i+1)else some i
theorem Bh:∀(l:List UInt8) (i:Nat),(lT l i=none↔l.all ET=true)
 |[],i=>by simp[lT]
 |c::r,i=>by
  unfold lT;cases h:ET c with
  |true=>simp[h,Bh r (i+1)]
  |false=>simp[h]
theorem t76(Φ:Nat→Option CF)(h:Φ 76=some c76)(r:Int)(ct:Nat):To Φ 76 [.i .i32 r] ct (.b (At r)):=by
 refine bX h ?_
 unfold At BM bB8
 have e1:decide (r<97)= !decide (97≤r):=by by_cases h:97≤r<;>simp[h]<;>omega
 have e2:decide (122<r)= !decide (r≤122):=by by_cases h:r≤122<;>simp[h]<;>omega
 have e1003:decide (r<48)= !decide (48≤r):=by by_cases h:48≤r<;>simp[h]<;>omega
 have e4:decide (57<r)= !decide (r≤57):=by by_cases h:r≤57<;>simp[h]<;>omega
 cases x1:decide (97≤r)<;>rw[x1]at e1<;>cases x2:decide (r≤122)<;>rw[x2]at e2<;>cases x3:decide (48≤r)<;>rw[x3]at e1003<;>cases x4:decide (r≤57)<;>rw[x4]at e4<;>simp only[WX,B76,e1,e2,e1003,e4]<;>first|rfl|simp
def KF:List V→Option V
 |[.i .i32 r]=>some (.b (At r))
 |_=>none
theorem EB(r:Int):KF [.i .i32 r]=some (.b (At r)):=rfl
theorem d90(Φ:Nat→Option CF)(h:Φ 125=some ac2)(KF:Φ 76=some (.orc (ah KF))){F:RO}{M:Mem}{c:Nat}(ok:dH F M c)(l:List UInt8)(hl:l.length≤1000000):
 Calls Φ F 125 [sV l,.f 76 [] [],.b true] M c fun r _ _=>r= .i .i64 (ll (lT l 0)):=by
 refine aq h ?_
 simp only[WX,Mp,aa4,bG2]
 obtain⟨I1,hI1⟩:∃I:Nat→St→Prop,∀n s',I n s'↔(∃(i:Nat) (M1:Mem) (u:List (Option V)),n=l.length-i∧i≤l.length∧s'= .mk ((cy8 u (sV l) (.f 76 [] []) (.b true) (.i .i64 0) (.p c 0))) [] M1 (c+1)∧M1.get c=some (siB l i)∧lT l 0=lT (l.drop i) i):=⟨fun n s'=>_,fun _ _=>Iff.rfl⟩
 refine de I1 ?_ l.length _ ((hI1 _ _).2 ⟨0,M.set c (siB l 0),(G2 (G1 (X2 (X1 (G1 (X2 (X1 (G1 (eG (X4 [])))))))))),rfl,aP _,rfl,av _ _ _,by rw[List.drop_zero]⟩)
 intro n s' hIs
 obtain⟨i,M1,u,rfl,hi,rfl,hg,hb⟩:=(hI1 _ _).1 hIs
 clear hIs
 by_cases hlt:i<l.length
 ·have hd:l.drop i=l[i]::l.drop (i+1):=l6 hlt;by_cases hc:l[i].toNat<128
  ·have hn:=bE6 (c+1) hg hlt hc;have hr:At (l[i].toNat:Int)= !ET l[i]:=by unfold ET;rw[Bool.not_not]
   cases ho:ET l[i]with
   |true=>
    rw[ho]at hr;simp only[WX,Mp,uN,hn,KF,EB,hr];refine⟨l.length-(i+1),by omega,(hI1 _ _).2 ⟨i+1,_,(G2 (G1 (X2 (X1 (G1 (X2 (X1 (G1 (eG (X4 [])))))))))),rfl,by omega,rfl,av _ _ _,?_⟩⟩;rw[hb,hd,lT,ac ho]
   |false=>
    rw[ho]at hr;simp only[WX,Mp,uN,hn,KF,EB,hr];rw[hb,hd,lT,ab (by rw[ho];decide)];rfl
  ·obtain⟨r,p,h1,hn⟩:=bE5 (c+1) hg hlt (by omega)
   have key:∀n:Int,128≤n→At n=true:=fun n h=>by
    unfold At BM bB8;rw[ag (show¬n≤122 by omega),ag (show¬n≤57 by omega),ag (show¬n=95 by omega)];simp
   have hr:At (r:Int)=true:=key _ (by omega);have ho:ET l[i]=false:=by unfold ET;rw[key _ (by omega)];rfl
   simp only[WX,Mp,uN,hn,KF,EB,hr];rw[hb,hd,lT,ab (by rw[ho];decide)];rfl
 ·obtain rfl:i=l.length:=by omega
  have hn:=al9 (c+1) hg;simp only[WX,Mp,uN,hn];rw[hb,List.drop_length];rfl
def vO:List V→Option V
 |[v,.f 76 [] [],.b true]=>(pl v).bind fun l=>if l.length≤1000000 then some (.i .i64 (ll (lT l 0)))else none
 |_=>none
theorem ah2(l:List UInt8)(hl:l.length≤1000000):vO [sV l,.f 76 [] [],.b true]=some (.i .i64 (ll (lT l 0))):=by
 show(pl (sV l)).bind (fun l=>if l.length≤1000000 then some (V.i .i64 (ll (lT l 0)))else none)=_
 rw[kf,Option.bind_some];exact ac hl
theorem db4(Φ:Nat→Option CF)(h:Φ 108=some ab8)(vO:Φ 125=some (.orc (ah vO)))(l:List UInt8)(hl:l.length≤1000000)(ct:Nat):To Φ 108 [sV l,.f 76 [] []] ct (.i .i64 (ll (lT l 0))):=by
 refine bX h ?_
 simp only[WX,cS5,vO,ah2 l hl]
def vM:List V→Option V
 |[v,.f 76 [] []]=>(pl v).bind fun l=>if l.length≤1000000 then some (.i .i64 (ll (lT l 0)))else none
 |_=>none
theorem ah0(l:List UInt8)(hl:l.length≤1000000):vM [sV l,.f 76 [] []]=some (.i .i64 (ll (lT l 0))):=by
 show(pl (sV l)).bind (fun l=>if l.length≤1000000 then some (V.i .i64 (ll (lT l 0)))else none)=_
 rw[kf,Option.bind_some];exact ac hl
theorem bu1(l:List UInt8):decide ((0:Int)≤ll (lT l 0))= !l.all ET:=by
 have hb:=Bh l 0
 cases hx:lT l 0 with
 |none=>rw[hb.1 hx];rfl
 |some k=>
  have:¬l.all ET=true:=fun hh=>by rw[hb.2 hh]at hx;cases hx
  rw[Bool.not_eq_true]at this;rw[this];exact af (by show(0:Int)≤(k:Int);omega)
theorem t75(Φ:Nat→Option CF)(h:Φ 75=some c75)(vM:Φ 108=some (.orc (ah vM)))(l:List UInt8)(hl:l.length≤1000000)(ct:Nat):To Φ 75 [sV l,.f 76 [] []] ct (.b (!l.all ET)):=by
 refine bX h ?_
 have hb:=bu1 l
 simp only[WX,B75,vM,ah0 l hl,hb]
def Xd:List V→Option V
 |[v,.f 76 [] []]=>(pl v).bind fun l=>if l.length≤1000000 then some (.b (!l.all ET))else none
 |_=>none
theorem bB5(l:List UInt8)(hl:l.length≤1000000):Xd [sV l,.f 76 [] []]=some (.b (!l.all ET)):=by
 show(pl (sV l)).bind (fun l=>if l.length≤1000000 then some (V.b (!l.all ET))else none)=_
 rw[kf,Option.bind_some];exact ac hl
def sJ(s:List UInt8):Bool:=(dx.drop 1).contains s
theorem vU(s:List UInt8):sJ s=true↔ ∃k,Mb s k:=by
 unfold sJ Mb
 rw[List.contains_iff_mem,List.mem_iff_getElem?]
 constructor
 ·rintro⟨i,h⟩;rw[List.getElem?_drop]at h;exact⟨1+i,by omega,h⟩
 ·rintro⟨k,h1,h2⟩;exact⟨k-1,by rw[List.getElem?_drop,show 1+(k-1)=k by omega];exact h2⟩
theorem Er{s:List UInt8}{n:Int}{b:Bool}(h:Mu s n b):b=sJ s:=by
 rcases h with⟨k,h1,_,rfl⟩|⟨h1,_,rfl⟩
 ·exact((vU s).2 ⟨k,h1⟩).symm
 ·cases hx:sJ s with
  |false=>rfl
  |true=>obtain⟨k,hk⟩:=(vU s).1 hx;exact absurd hk (h1 k)
def azB(s:List UInt8):Bool:=match s with|[]=>false|c::_=>BM (c.toNat:Int)
def kq(s:List UInt8):Bool:= !sJ s&&(decide (1≤s.length)&&(decide (s.length≤12)&&(azB s&&s.all ET)))
theorem r46(Φ:Nat→Option CF)(h:Φ 46=some c46)(h74:Φ 74=some c74)(h107:Φ 107=some (.orc (ah h107)))(h64:Φ 64=some (.orc (ah h64)))(h124:Φ 124=some Bl)(Xd:Φ 75=some (.orc (ah Xd))){F:RO}{M:Mem}{c:Nat}(ok:dH F M c)(s:List UInt8)(hs:s.length≤1000000):
 Calls Φ F 46 [sV s] M c fun r _ _=>r= .b (kq s):=by
 refine aq h ?_
 simp only[WX,B46]
 refine aC ((r74 Φ h74 h107 h64 h124 s ok).mono ?_)
 rintro r M1 c1 ⟨⟨n,b,rfl,hf⟩,_⟩
 obtain rfl:=Er hf
 have e2:decide ((s.length:Int)<1)= !decide (1≤s.length):=by by_cases h:1≤s.length<;>simp[h]<;>omega
 have e1003:decide ((12:Int)<(s.length:Int))= !decide (s.length≤12):=by by_cases h:s.length≤12<;>simp[h]<;>omega
 unfold kq
 cases x1:sJ s with
 |true=>simp only[WX,B46,Bool.false_and]
 |false=>
  cases x2:decide (1≤s.length)with
  |false=>rw[x2]at e2;simp only[WX,B46,e2,Bool.false_and]
  |true=>
   rw[x2]at e2;cases x3:decide (s.length≤12)with
   |false=>rw[x3]at e1003;simp only[WX,B46,e2,e1003,Bool.false_and]
   |true=>
    rw[x3]at e1003;have hl:0<s.length:=by have:=b9 x2;omega
    have hix:uf (sV s) (.i .i64 0)=some (.i .u8 ((s[0]).toNat:Int)):=BR s .i64 0 hl;have ez:azB s=BM ((s[0]).toNat:Int):=by cases s with|nil=>cases hl|cons a r=>rfl
    rw[ez];generalize s[0]=b0 at hix;unfold BM;have e4:decide ((b0.toNat:Int)<97)= !decide ((97:Int)≤(b0.toNat:Int)):=by by_cases h:(97:Int)≤(b0.toNat:Int)<;>simp[h]<;>omega
    have e21:decide ((122:Int)<(b0.toNat:Int))= !decide ((b0.toNat:Int)≤122):=by by_cases h:(b0.toNat:Int)≤122<;>simp[h]<;>omega
    cases x4:decide ((97:Int)≤(b0.toNat:Int))with
    |false=>rw[x4]at e4;simp only[WX,B46,e2,e1003,hix,e4,Bool.false_and]
    |true=>
     rw[x4]at e4;cases x5:decide ((b0.toNat:Int)≤122)with
     |false=>rw[x5]at e21;simp only[WX,B46,e2,e1003,hix,e4,e21,Bool.false_and]
     |true=>
      rw[x5]at e21;have hh:=bB5 s hs;simp only[WX,B46,e2,e1003,hix,e4,e21,Xd,hh,Bool.not_not]
abbrev bH0(u:List (Option V))(x0 x4 x13 x14 x15:V):T:=(.n (.n (.n (.n (.n (pd u 31) (some x15) (pd u 47)) (uO u 7) (j7 u 39 23 55)) (uO u 3) (aO u 35 19 51 11 43 27 59)) (uO u 1) (.n (aO u 33 17 49 9 41 25 57) (uO u 5) (.n (j7 u 37 21 53) (some x13) (j7 u 45 29 61)))) (some x0) (.n (.n (aO u 32 16 48 8 40 24 56) (some x4) (aO u 36 20 52 12 44 28 60)) (uO u 2) (.n (aO u 34 18 50 10 42 26 58) (uO u 6) (.n (j7 u 38 22 54) (some x14) (j7 u 46 30 62)))))
def aR9:CC:=(.reg [(qq a2 (.mv (.c .l0))),(qq a3 (.mv (x6 0)))])
def aS0:CC:=(.reg [(qq a9 (.mv z0)),(qq cE (.ln .slice z9)),(qq cW (.bi .mul (x6 4) cT)),(aa dh (.mks 5 1 1 [(.i .u8 0)] (x6 0) cM)),(qq a4 (.mv cH))])
def aS1:CC:=(.reg [(qq d8 (.mv z0)),(qq dK (.ln .slice cI)),(qq dL (.mv (x6 0)))])
def aS2:CC:=(.reg [(qq dJ (.bi .lss dA dM))])
def aS3:CC:=(.reg [(qq eD (.iaS 5 cI dA)),(qq eZ (.ldn 5 eJ)),(aa a6 (.al 51 [(.i .i64 0),(.i .i64 0),(.i .i64 0),(.i .i64 0),(.i .i64 0)])),(ez (.st 5 z6 fh))])
def aS4:CC:=(.reg [(qq fq (.ldn 5 z6)),(ee ej (.call 62 [fO])),(qq eN (.mv gD)),(qq eE (.ex 0 fL)),(qq eT (.ex 1 fL)),(qq a7 (.mv gw)),(qq a8 (.mv ia))])
def aS5:CC:=(.reg [(qq ga (.mv z8)),(qq fP (.bi .neq ib (x6 0)))])
def aS6:CC:=(.reg [(qq ft (.mv z8)),(qq a2 (.mv (.c .l0))),(qq a3 (.mv gy))])
def aS7:CC:=(.seq aS5 (.cond gV (.seq aS6 .ret) .skip))
def T1:CC:=(.reg [(qq ie (.mv z4)),(qq gz (.mv z7)),(qq fJ (.ci .u8 iK)),(qq gR (.mv z7)),(qq gW (.bi .shr iV (.c (.i .u64 8)))),(qq ig (.ci .u8 iX)),(qq iE (.mv z7)),(qq fj (.bi .shr kC (.c (.i .u64 16)))),(qq fQ (.ci .u8 kQ)),(qq kc (.mv z7)),(qq kd (.bi .shr lM (.c (.i .u64 24)))),(qq kE (.ci .u8 lN)),(aa jS (.bsl 5 4 1 [(.i .u8 0)] [(0,j8),(1,jR),(2,jY),(3,lO)])),(ee gC (.app 5 1 1 iU lF)),(qq a4 (.mv lG))])
def T2:CC:=(.reg [(qq kR (.bi .add dA (x6 1))),(qq dL (.mv lQ))])
def T3:CC:=(.seq (.block 1 (.seq aS3 (.seq aS4 (.seq aS7 T1)))) T2)
def T4:CC:=(.seq (.cond dX .skip (.exit 0)) T3)
def T5:CC:=(.reg [(qq lJ (.mv z4)),(qq a2 (.mv n6)),(qq a3 (.mv (x6 0)))])
def T6:CC:=(.seq (.seq aS1 (.block 0 (.loop (.seq aS2 T4)))) (.seq T5 .ret))
def c51:CF:= .mk 6 [.t a2,.t a3] (.seq aR9 (.seq aS0 T6))
theorem e51(v0:V):aN 6 [v0]=(.n nW (some v0) nW):=rfl
def B51:=ai @e51 (ai (wu aR9.eq_1) (ai (wu aS0.eq_1) (ai (wu aS1.eq_1) (ai (wu aS2.eq_1) (ai (wu aS3.eq_1) (ai (wu aS4.eq_1) (ai (wu aS5.eq_1) (ai (wu aS6.eq_1) (ai (wu aS7.eq_1) (ai (wu T1.eq_1) (ai (wu T2.eq_1) (ai (wu T3.eq_1) (ai (wu T4.eq_1) (ai (wu T5.eq_1) (wu T6.eq_1)))))))))))))))
def EQ(x:Dw):Bool:=cJ x.op x.d x.a x.b x.i
def tQ(x:Dw):Nat:=ei x.op x.d x.a x.b x.i
def nG(w:Nat):List UInt8:=[UInt8.ofNat w,UInt8.ofNat (w/256),UInt8.ofNat (w/65536),UInt8.ofNat (w/16777216)]
def kI(l:List Dw):List UInt8:=l.flatMap fun x=>nG (tQ x)
theorem W3(n:Nat):bV (UInt8.ofNat n)= .i .u8 ((n%256:Nat):Int):=by
 unfold bV;rw[UInt8.toNat_ofNat']
theorem uK(n:Nat):IntKind.u8.wrap (n:Int)=((n%256:Nat):Int):=by rw[g9];omega
theorem LH(w:Nat):aK .shr (.i .u32 (w:Int)) (.i .u64 24)=some (.i .u32 ((w/16777216:Nat):Int)):=uJ w 24 (by decide)
theorem X0(w:Nat):((nG w).map fun x=>[bV x]).flatten=[.i .u8 ((w%256:Nat):Int),.i .u8 ((w/256%256:Nat):Int),.i .u8 ((w/65536%256:Nat):Int),.i .u8 ((w/16777216%256:Nat):Int)]:=by
 rw[gf]
 simp only[nG,List.map_cons,List.map_nil,W3]
theorem Xh(l:List Dw):∀e∈l.map ED,e.length=5:=by
 intro e he;obtain⟨x,_,rfl⟩:=List.mem_map.1 he;rfl
theorem Bk(l:List Dw)(x:Dw):kI (l++[x])=kI l++nG (tQ x):=by simp[kI]
theorem vm:∀l:List Dw,(kI l).length=4*l.length
 |[]=>rfl
 |x::l=>by
  have:=vm l;simp only[kI,List.flatMap_cons,aV,bq]at this⊢;rw[this];simp[nG];omega
theorem Zp(x:Dw)(h:EQ x=true):tQ x<4294967296:=by
 obtain⟨b1,b2,b1003,b1004,b1005,b1006,b1007,b1008,b51,b62,b1011⟩:=iS h
 unfold tQ ei
 omega
theorem bB7{F:RO}{M:Mem}{c:Nat}{v:V}{l:List Dw}(hs:dp F M c 5 v (l.map ED))(i:Nat)(hi:i<l.length):
 ∃b o,b<c∧(∀k,bL 5 v (.i k (i:Int))=some (.p b o))∧loadN F M b o 5=some [.i .i64 l[i].op,.i .i64 l[i].d,.i .i64 l[i].a,.i .i64 l[i].b,.i .i64 l[i].i]:=by
 obtain⟨b,o,h1,h2,h1003⟩:=hs.at i (by simpa using hi)
 refine⟨b,o,h1,h2,?_⟩
 rw[List.getElem_map]at h1003
 exact h1003.load (by unfold ED;simp)
theorem r51(Φ:Nat→Option CF)(h:Φ 51=some c51)(h62:Φ 62=some (.orc (ah h62))){F:RO}{M:Mem}{c:Nat}{v:V}{l:List Dw}(ok:dH F M c)(hs:dp F M c 5 v (l.map ED))(hl:l.length≤200):
 Calls Φ F 51 [v] M c fun r M' c'=>Gr c M c' M'∧((l.all EQ=true∧ ∃b,r= .t [b,.i .i64 0]∧nk F M' c' b (kI l))∨(l.all EQ=false∧r= .t [.l0,.i .i64 2])):=by
 refine aq h ?_
 have hln:BW v=some (.i .i64 (l.length:Int)):=by have:=hs.len;rwa [List.length_map]at this
 have q1:aK .mul (.i .i64 4) (.i .i64 (l.length:Int))=some (.i .i64 ((4*l.length:Nat):Int)):=by
  rw[mi _ _ (by omega) (by omega)];simp
 have q2:∀b,bD8 5 1 1 [V.i .u8 0] (.i .i64 0) (.i .i64 ((4*l.length:Nat):Int)) b=some (.l b 0 0 (4*l.length),.cells 5 (4*l.length*1) true 0 false [V.i .u8 0] .e):=fun b=>XG 5 1 1 _ .i64 .i64 0 (4*l.length) b (aP _) (by omega)
 simp only[WX,B51,hln,q1,q2]
 have hg0:=fun x=>(Gr.refl ok).set c x (ak _) (bf _) (bD _)
 obtain⟨I,hI⟩:∃I:Nat→St→Prop,∀n s,I n s↔(∃(i:Nat) (M1:Mem) (c1:Nat) (acc:V) (u:List (Option V)),n=l.length-i∧i≤l.length∧s= .mk ((bH0 u v acc v (.i .i64 (l.length:Int)) (.i .i64 (i:Int)))) [] M1 c1∧Gr c M c1 M1∧jZ M1 c c1 c 5 1 (4*l.length) acc ((kI (l.take i)).map fun x=>[bV x])∧ ∀j (hj:j<l.length),j<i→EQ l[j]=true):=⟨fun n s=>_,fun _ _=>Iff.rfl⟩
 refine de I ?_ l.length _ ((hI _ _).2 ⟨0,_,_,_,(G1 (X2 (X1 (G1 (X8 (G2 (G1 (gu (X8 (X4 (X2 (X1 [])))))))))))),rfl,aP _,rfl,hg0 _,bw3 (av _ _ _) (ak _) (bf _),fun j _ hj=>absurd hj (Nat.not_lt_zero _)⟩)
 intro n s hIs
 obtain⟨i,M1,c1,acc,u,rfl,hi,rfl,hg,hacc,hmay⟩:=(hI _ _).1 hIs
 clear hIs
 by_cases hlt:i<l.length
 ·have hd:decide ((i:Int)<(l.length:Int))=true:=af (by omega);obtain⟨pb,po,hpb,hia,hld⟩:=bB7 (hs.grow hg) i hlt;simp only[WX,Nat.reduceAdd,Nat.reduceLeDiff,B51,hd,hia,hld];refine aC (DZ h62 (Ew _ _ _ _ _) ?_);have hgx:=fun x=>hg.set c1 x hg.le (bf _) (bD _);by_cases hm:EQ l[i]=true
  ·have hw:=Zp l[i] hm;have e1:w62 l[i].op l[i].d l[i].a l[i].b l[i].i=(tQ l[i]:Int):=ac hm;have e2:vD l[i].op l[i].d l[i].a l[i].b l[i].i=0:=ac hm;have hsn:kI (l.take (i+1))=kI (l.take i)++nG (tQ l[i]):=by
    rw[List.take_succ_eq_append_getElem hlt,Bk]
   rw[e1,e2];generalize tQ l[i]=w at hw hsn⊢;have q1:=uK w;have q2:=wP w;have q3:=uK (w/256);have q4:=tg w;have q5:=uK (w/65536);have q6:=LH w;have q7:=uK (w/16777216);simp only[WX,Nat.reduceAdd,B51,q1,q2,q3,q4,q5,q6,q7,ne_eq,not_true_eq_false];rw[←X0];have hgy:=fun x y=>(hgx x).set (c1+1) y (by have:=hg.le;omega) (bf _) (bD _);have hacc':=fun x y=>hacc.up (M':=(M1.set c1 x).set (c1+1) y) (c':=c1+2) (by omega) (fun hb=>by rw[am _ _ (by omega),am _ _ (by omega)])
   refine aC ((Wr (hacc' _ _) (hgy _ _) Nat.one_pos (Ys (av _ _ _) (by omega) (by intro e he;obtain⟨x,_,rfl⟩:=List.mem_map.1 he;rfl) (by rfl)) (oE _) (by
    rw[List.length_map,List.length_map,vm,List.length_take,Nat.min_eq_left hi];simp[nG];omega) (by simp[nG])).mono ?_)
   rintro v2 M2 c2 ⟨rfl,hacc2,hg2,-⟩;rw[←List.map_append,←hsn]at hacc2;have q8:aK .add (.i .i64 (i:Int)) (.i .i64 1)=some (.i .i64 ((i+1:Nat):Int)):=by rw[bH _ _ (by omega) (by omega)];simp
   simp only[WX,B51,q8];refine⟨l.length-(i+1),by omega,(hI _ _).2 ⟨i+1,M2,_,v2,(G1 (X2 (X1 (G1 (X8 (G2 (G1 (gu (X8 (X4 (X2 (X1 [])))))))))))),rfl,by omega,rfl,hg2,hacc2,fun j hj hj2=>?_⟩⟩;by_cases hji:j=i
   ·subst hji;exact hm
   ·exact hmay j hj (by omega)
  ·have e2:vD l[i].op l[i].d l[i].a l[i].b l[i].i=2:=ab hm;rw[e2];simp only[WX,Int.reduceEq,B51,ne_eq,not_false_eq_true];refine⟨hgx _,.inr ?_⟩;rw[Bool.eq_false_iff];intro ha;exact hm (List.all_eq_true.1 ha _ (List.getElem_mem hlt))
 ·have hd:decide ((i:Int)<(l.length:Int))=false:=ag (by omega);simp only[WX,B51,hd];obtain rfl:i=l.length:=by omega
  rw[List.take_length]at hacc;refine⟨hg,.inl ⟨?_,acc,rfl,hacc.sl⟩⟩;rw[List.all_eq_true];intro x hx;obtain⟨j,hj,rfl⟩:=List.getElem_of_mem hx;exact hmay j hj hj
def h46:List V→Option V
 |[v]=>(pl v).bind fun l=>if l.length≤1000000 then some (V.b (kq l))else none
 |_=>none
theorem bB1(l:List UInt8)(hl:l.length≤1000000):h46 [sV l]=some (V.b (kq l)):=by
 show(pl (sV l)).bind (fun l=>if l.length≤1000000 then some (V.b (kq l))else none)=_
 rw[kf,Option.bind_some];exact ac hl
structure RdP(Φ:Nat→Option CF)(L:List gk):Prop where
 h15:Φ 15=some (.orc (bT L h15))
 h77:Φ 77=some Wj
 h44:Φ 44=some (.orc (ah uy))
 h78:Φ 78=some ZY
 h80:Φ 80=some (.orc (ah kJ))
 h79:Φ 79=some Wk
 h109:Φ 109=some u2
 h58:Φ 58=some Md
 h96:Φ 96=some Kb
 h97:Φ 97=some Kc
 h126:Φ 126=some su
 h57:Φ 57=some Bm
 h116:Φ 116=some (.orc (ah h116))
 h94:Φ 94=some (.orc (ah h94))
 h47:Φ 47=some c47
 h74:Φ 74=some c74
 h107:Φ 107=some (.orc (ah h107))
 h64:Φ 64=some (.orc (ah h64))
 h124:Φ 124=some Bl
 h35:Φ 35=some (.orc (ah h35))
 h34:Φ 34=some (.orc (ah h34))
 h46:Φ 46=some (.orc (ah h46))
 h29:Φ 29=some c29
 h16:Φ 16=some c16
 h37:Φ 37=some ZX
 h65:Φ 65=some (.orc (ah h65))
 h66:Φ 66=some (.orc (bT L h66))
 h67:Φ 67=some qN
 h52:Φ 52=some c52
 h82:Φ 82=some c82
 h48:Φ 48=some c48
 h81:Φ 81=some c81
 h45:Φ 45=some c45
 h73:Φ 73=some c73
 h53:Φ 53=some c53
theorem Wz:∀(k n:Nat),(dO k n).all (fun x=>decide (x.toNat≤57))=true
 |0,_=>rfl
 |k+1,n=>by
  rw[dO,List.all_append,Wz k,Bool.true_and];have:n%10<10:=Nat.mod_lt _ (by decide);generalize n%10=d at this;have:∀d,d<10→[UInt8.ofNat (48+d)].all (fun x=>decide (x.toNat≤57))=true:=by decide
  exact this d ‹_›
theorem ai5(k n:Nat):kq (dO k n)=false:=by
 have h:azB (dO k n)=false:=by
  have h1:=Wz k n;cases hd:dO k n with
  |nil=>rfl
  |cons c r=>
   rw[hd,List.all_cons,aJ]at h1;have h2:=b9 h1.1;show BM (c.toNat:Int)=false;unfold BM;rw[ag (show¬(97:Int)≤(c.toNat:Int) by omega),Bool.false_and]
 unfold kq
 rw[h,Bool.false_and,Bool.and_false,Bool.and_false,Bool.and_false]
def lnR(v:V):V:= .g [.b false,.b false,.b false,.b false,.i .i64 0,.i .i64 0,.i .i64 0,.i .i64 0,.i .i64 0,.s 0 0,.s 0 0,v]
def lnI(op d a b i:Int):V:= .g [.b false,.b false,.b true,.b false,.i .i64 op,.i .i64 d,.i .i64 a,.i .i64 b,.i .i64 i,.s 0 0,.s 0 0,.l0]
def JH(M:Mem)(c c':Nat)(v:V)(l:List UInt8):Prop:=∃b,v= .l b 0 l.length l.length∧c≤b∧b<c'∧M.get b=some (fV [.i .u8 0] 5 (l.map bV))
def aR0:CC:=(.reg [(aa a4 (.al 74 [(.b false),(.b false),(.b false),(.b false),(.i .i64 0),(.i .i64 0),(.i .i64 0),(.i .i64 0),(.i .i64 0),(.s 0 0),(.s 0 0),.l0]))])
def aR1:CC:=(.reg [(qq a5 (.mv (.c (.i .u64 0))))])
def aR2:CC:=(.reg [(qq a6 (.mv xT))])
def aR3:CC:=(.reg [(qq cW (.bi .eql z9 (.c (.s 5 431416637230)))),(qq cE (.mv cM))])
def aR4:CC:=(.reg [(qq dh (.mv z1)),(ee d8 (.call 46 [cH]))])
def aR5:CC:=(.reg [(qq dK (.mv z1)),(qq dL (.bld [(.b false),(.b false),(.b false),(.b false),(.i .i64 0),(.i .i64 0),(.i .i64 0),(.i .i64 0),(.i .i64 0),(.s 0 0),(.s 0 0),.l0] [(3,1,xT),(10,1,dM)])),(ez (.st 12 z4 dA))])
def aR6:CC:=(.seq aR4 (.cond cI (.seq aR5 .ret) .skip))
def aR7:CC:=(.reg [(qq eD (.mv z1)),(ee eZ (.call 82 [eJ,(.c (.i .u64 0)),(.c (.i .u64 4294967295))])),(qq dJ (.mv fh)),(qq eN (.ex 0 dX)),(qq fq (.ex 1 dX)),(qq a5 (.mv fL)),(qq a6 (.mv fO))])
def aR8:CC:=(.reg [(qq ej (.mv z6))])
def SA:CC:=(.reg [(qq eE (.mv z5)),(ee eT (.call 52 [gw])),(qq ga (.bld [(.b false),(.b false),(.b false),(.b false),(.i .i64 0),(.i .i64 0),(.i .i64 0),(.i .i64 0),(.i .i64 0),(.s 0 0),(.s 0 0),.l0] [(11,1,ia)])),(ez (.st 12 z4 ib))])
def SB:CC:=(.cond gD (.seq SA .ret) .skip)
def SC:CC:=(.reg [(qq ft (.bi .eql z9 (.c (.s 5 435745808942)))),(qq fP (.mv gy))])
def SD:CC:=(.reg [(qq gz (.mv z1)),(ee fJ (.call 82 [iK,(.c (.i .u64 0)),(.c (.i .u64 255))])),(qq ie (.mv j8)),(qq gR (.ex 0 iU)),(qq gW (.ex 1 iU)),(qq a5 (.mv iV)),(qq a6 (.mv iX))])
def SE:CC:=(.reg [(qq ig (.mv z6))])
def SF:CC:=(.reg [(qq iE (.mv z5)),(qq fj (.ci .u8 kC)),(aa fQ (.bsl 5 1 1 [(.i .u8 0)] [(0,kQ)])),(qq kc (.bld [(.b false),(.b false),(.b false),(.b false),(.i .i64 0),(.i .i64 0),(.i .i64 0),(.i .i64 0),(.i .i64 0),(.s 0 0),(.s 0 0),.l0] [(11,1,jY)])),(ez (.st 12 z4 lM))])
def SG:CC:=(.cond jR (.seq SF .ret) .skip)
def SH:CC:=(.reg [(qq kE (.bi .eql z9 (.c (.s 6 111477510927150)))),(qq kd (.mv lO))])
def SI:CC:=(.reg [(qq gC (.mv z1)),(ee kR (.call 82 [lG,(.c (.i .u64 1)),(.c (.i .u64 4096))])),(qq jS (.mv lQ)),(qq lJ (.ex 0 lF)),(qq kW (.ex 1 lF)),(qq a5 (.mv n6)),(qq a6 (.mv og))])
def SJ:CC:=(.reg [(qq kS (.mv z6))])
def SK:CC:=(.reg [(qq kT (.mv z5)),(aa kU (.mks 5 1 1 [(.i .u8 0)] mU mU)),(qq mG (.bld [(.b false),(.b false),(.b false),(.b false),(.i .i64 0),(.i .i64 0),(.i .i64 0),(.i .i64 0),(.i .i64 0),(.s 0 0),(.s 0 0),.l0] [(11,1,oT)])),(ez (.st 12 z4 n7))])
def SL:CC:=(.cond oq (.seq SK .ret) .skip)
def SN:CC:=(.reg [(qq ke (.bi .eql z9 (.c (.s 5 500236121134)))),(qq jV (.mv n8))])
def SO:CC:=(.reg [(qq kX (.mv z1)),(ee jW (.call 9 [ng])),(qq mH (.mv oU)),(qq gb (.ex 0 mV)),(qq ow (.ex 1 mV)),(qq a7 (.mv pG)),(qq a8 (.mv qB))])
def SP:CC:=(.reg [(qq oy (.mv z8)),(qq kF (.bi .eql pf (x6 0)))])
def SQ:CC:=(.reg [(qq kY (.mv z7)),(aa lK (.sb 5 qE)),(qq nn (.bld [(.b false),(.b false),(.b false),(.b false),(.i .i64 0),(.i .i64 0),(.i .i64 0),(.i .i64 0),(.i .i64 0),(.s 0 0),(.s 0 0),.l0] [(11,1,pg)])),(ez (.st 12 z4 pH))])
def ST:CC:=(.cond qC (.seq SQ .ret) .skip)
def SU:CC:=(.cond ot (.seq SO (.seq SP ST)) .skip)
def SV:CC:=(.cond lN (.seq SI (.seq SJ SL)) (.seq SN SU))
def SW:CC:=(.cond gV (.seq SD (.seq SE SG)) (.seq SH SV))
def SX:CC:=(.cond cT (.seq aR6 (.seq aR7 (.seq aR8 SB))) (.seq SC SW))
def SY:CC:=(.seq (.reg [(qq a9 (.mv z0))]) (.block 0 (.seq aR3 SX)))
def SZ:CC:=(.reg [(qq pM (.bld [(.b false),(.b false),(.b false),(.b false),(.i .i64 0),(.i .i64 0),(.i .i64 0),(.i .i64 0),(.i .i64 0),(.s 0 0),(.s 0 0),.l0] [(0,1,xT)])),(ez (.st 12 z4 rV))])
def T0:CC:=(.seq aR0 (.seq aR1 (.seq aR2 (.seq SY (.seq SZ .ret)))))
def c49:CF:= .mk 6 [.cn a4 12] T0
theorem e49(v0 v1:V):aN 6 [v0,v1]=(.n (.n kV (some v1) kV) (some v0) nW):=rfl
def B49:=ai @e49 (ai (wu aR0.eq_1) (ai (wu aR1.eq_1) (ai (wu aR2.eq_1) (ai (wu aR3.eq_1) (ai (wu aR4.eq_1) (ai (wu aR5.eq_1) (ai (wu aR6.eq_1) (ai (wu aR7.eq_1) (ai (wu aR8.eq_1) (ai (wu SA.eq_1) (ai (wu SB.eq_1) (ai (wu SC.eq_1) (ai (wu SD.eq_1) (ai (wu SE.eq_1) (ai (wu SF.eq_1) (ai (wu SG.eq_1) (ai (wu SH.eq_1) (ai (wu SI.eq_1) (ai (wu SJ.eq_1) (ai (wu SK.eq_1) (ai (wu SL.eq_1) (ai (wu SN.eq_1) (ai (wu SO.eq_1) (ai (wu SP.eq_1) (ai (wu SQ.eq_1) (ai (wu ST.eq_1) (ai (wu SU.eq_1) (ai (wu SV.eq_1) (ai (wu SW.eq_1) (ai (wu SX.eq_1) (ai (wu SY.eq_1) (ai (wu SZ.eq_1) (wu T0.eq_1)))))))))))))))))))))))))))))))))
theorem af9(a b:List UInt8)(h:a≠b):aK .eql (sV a) (sV b)=some (.b false):=by
 have:=iY a b;rwa [ag h]at this
theorem ag0(a:List UInt8):aK .eql (sV a) (sV a)=some (.b true):=by
 have:=iY a a;rwa [af rfl]at this
def eB:List UInt8:=[46,119,111,114,100]
def eu:List UInt8:=[46,98,121,116,101]
theorem da0(Φ:Nat→Option CF){L:List gk}(h:Φ 49=some c49)(e:RdP Φ L){F:RO}{M:Mem}{c:Nat}(ok:dH F M c)(ht:bE F L=true)(n:Nat)(hn:n<4294967296):
 Calls Φ F 49 [sV eB,sV (bn n)] M c fun r M' c'=>∃v,r=lnR v∧JH M' c c' v (Dn n)∧Gr c M c' M':=by
 refine aq h ?_
 have hl:(bn n).length≤1000000:=by have:=eV n;omega
 have q:=bB1 (bn n) hl
 rw[show kq (bn n)=false from ai5 _ _]at q
 have q1:aK .eql (sV eB) (.s 5 431416637230)=some (.b true):=ag0 eB
 simp only[WX,B49,q1,e.h46,q]
 have g0:=fun x=>(Gr.refl ok).set c x (ak _) (bf _) (bD _)
 have a1:(0:Nat)≤n:=aP _
 refine aC ((r82 Φ e.h82 e.h29 e.h57 e.h16 e.h37 e.h65 e.h66 e.h67 ((g0 _).ok ok) ht n 0 4294967295 hn a1 (by omega)).mono ?_)
 rintro r M1 c1 ⟨rfl,g1⟩
 have ok1:=g1.ok ((g0 _).ok ok)
 simp only[WX,B49]
 refine aC ((r52 Φ e.h52 ok1 n hn).mono ?_)
 rintro r M2 c2 ⟨rfl,rfl,rfl⟩
 have k1:=g1.le
 have hM:M1.get c=some (aw 74 [.b false,.b false,.b false,.b false,.i .i64 0,.i .i64 0,.i .i64 0,.i .i64 0,.i .i64 0,.s 0 0,.s 0 0,.l0]):=by rw[g1.old _ (by omega),av]
 have hM2:(M1.set c1 (fV [.i .u8 0] 5 ((Dn n).map bV))).get c=some (aw 74 [.b false,.b false,.b false,.b false,.i .i64 0,.i .i64 0,.i .i64 0,.i .i64 0,.i .i64 0,.s 0 0,.s 0 0,.l0]):=by rw[am _ _ (by omega),hM]
 have hst:=bG hM2 0 [.b false,.b false,.b false,.b false,.i .i64 0,.i .i64 0,.i .i64 0,.i .i64 0,.i .i64 0,.s 0 0,.s 0 0,.l c1 0 4 4] (by simp) rfl
 simp only[WX,Nat.reduceAdd,Nat.reduceLeDiff,hst]
 have gg:=((g0 (aw 74 [.b false,.b false,.b false,.b false,.i .i64 0,.i .i64 0,.i .i64 0,.i .i64 0,.i .i64 0,.s 0 0,.s 0 0,.l0])).trans g1).trans ((Gr.refl ok1).set c1 (fV [.i .u8 0] 5 ((Dn n).map bV)) (ak _) (bf _) (bD _))
 refine⟨_,rfl,⟨c1,rfl,by omega,bf _,by rw[am _ _ (by omega),av]⟩,gg.set _ _ (ak _) (by omega) (ak _)⟩
theorem d99(Φ:Nat→Option CF){L:List gk}(h:Φ 49=some c49)(e:RdP Φ L){F:RO}{M:Mem}{c:Nat}(ok:dH F M c)(ht:bE F L=true)(n:Nat)(hn:n<256):
 Calls Φ F 49 [sV eu,sV (bn n)] M c fun r M' c'=>∃v,r=lnR v∧JH M' c c' v [UInt8.ofNat n]∧Gr c M c' M':=by
 refine aq h ?_
 have q1:aK .eql (sV eu) (.s 5 431416637230)=some (.b false):=af9 eu eB (by decide)
 have q2:aK .eql (sV eu) (.s 5 435745808942)=some (.b true):=ag0 eu
 simp only[WX,B49,q1,q2]
 have g0:=fun x=>(Gr.refl ok).set c x (ak _) (bf _) (bD _)
 have a1:(0:Nat)≤n:=aP _
 refine aC ((r82 Φ e.h82 e.h29 e.h57 e.h16 e.h37 e.h65 e.h66 e.h67 ((g0 _).ok ok) ht n 0 255 (by omega) a1 (by omega)).mono ?_)
 rintro r M1 c1 ⟨rfl,g1⟩
 have ok1:=g1.ok ((g0 _).ok ok)
 have k1:=g1.le
 have wr:V.i .u8 (IntKind.u8.wrap (n:Int))=bV (UInt8.ofNat n):=by rw[eQ _ hn,g9,Int.emod_eq_of_lt (by omega) (by omega)]
 have hM:M1.get c=some (aw 74 [.b false,.b false,.b false,.b false,.i .i64 0,.i .i64 0,.i .i64 0,.i .i64 0,.i .i64 0,.s 0 0,.s 0 0,.l0]):=by rw[g1.old _ (by omega),av]
 have hM2:(M1.set c1 (fV [.i .u8 0] 5 [bV (UInt8.ofNat n)])).get c=some (aw 74 [.b false,.b false,.b false,.b false,.i .i64 0,.i .i64 0,.i .i64 0,.i .i64 0,.i .i64 0,.s 0 0,.s 0 0,.l0]):=by rw[am _ _ (by omega),hM]
 have hst:=bG hM2 0 [.b false,.b false,.b false,.b false,.i .i64 0,.i .i64 0,.i .i64 0,.i .i64 0,.i .i64 0,.s 0 0,.s 0 0,.l c1 0 1 1] (by simp) rfl
 simp only[WX,Nat.reduceAdd,Nat.reduceLeDiff,B49,wr,di,cw,hst]
 have gg:=((g0 (aw 74 [.b false,.b false,.b false,.b false,.i .i64 0,.i .i64 0,.i .i64 0,.i .i64 0,.i .i64 0,.s 0 0,.s 0 0,.l0])).trans g1).trans ((Gr.refl ok1).set c1 (fV [.i .u8 0] 5 [bV (UInt8.ofNat n)]) (ak _) (bf _) (bD _))
 refine⟨_,rfl,⟨c1,rfl,by omega,bf _,by rw[am _ _ (by omega),av];rfl⟩,gg.set _ _ (ak _) (by omega) (ak _)⟩
theorem BP{m n:Int}(h1: -10000000<m)(h2:m<10000000)(k1: -10000000<n)(k2:n<10000000)(h:cz m=cz n):m=n:=by
 obtain⟨⟨a1,a2⟩,ha⟩:=jJ h1 h2
 obtain⟨⟨b1,b2⟩,hb⟩:=jJ k1 k2
 have nd:∀r:List UInt8,(∀x∈(45:UInt8)::r,io x)→False:=fun r hh=>by
  have:=hh 45 (cd ..);unfold io at this;rw[show(45:UInt8).toNat=45 from rfl]at this;omega
 rcases ha with⟨_,d1,v1⟩|⟨_,r,e1,_,d1,v1⟩<;>rcases hb with⟨_,d2,v2⟩|⟨_,r2,e2,_,d2,v2⟩
 ·rw[h]at v1;omega
 ·rw[h,e2]at d1;exact(nd _ d1).elim
 ·rw[←h,e1]at d2;exact(nd _ d2).elim
 ·have:r=r2:=by rw[h,e2]at e1;injection e1 with _ e;exact e.symm
  subst this;omega
theorem Au{m n:Int}(h1: -10000000<m)(h2:m<10000000)(k1: -10000000<n)(k2:n<10000000){r r':List (List UInt8)}(h:bN [32] ((114::cz m)::r)=bN [32] ((114::cz n)::r')):m=n∧bN [32] r=bN [32] r':=by
 obtain⟨p1,p2⟩:=gJ (114::cz m) r (Ci h1 h2)
 obtain⟨q1,q2⟩:=gJ (114::cz n) r' (Ci k1 k2)
 rw[h]at p1 p2
 have e:=p1.symm.trans q1
 injection e with _ e
 exact⟨BP h1 h2 k1 k2 e,p2.symm.trans q2⟩
theorem vW(w:List UInt8):bN [32] [w]=w:=by simp[bN]
theorem YG{op d a b i op' d' a' b' i':Int}(hm:cJ op d a b i=true)(hm':cJ op' d' a' b' i'=true)(h:cV op d a b i=cV op' d' a' b' i'):op=op'∧d=d'∧a=a'∧b=b'∧i=i':=by
 unfold cV at h
 rw[rO,rO]at h
 obtain⟨n1,n2,n3,n4,n5⟩:=fy hm
 obtain⟨m1,m2,m3,m4,m5⟩:=fy hm'
 obtain⟨p1,p2⟩:=gJ (dT op) (R1 op d a b i) (Ad op)
 obtain⟨q1,q2⟩:=gJ (dT op') (R1 op' d' a' b' i') (Ad op')
 rw[h]at p1 p2
 have e1:=p1.symm.trans q1
 have e2:=p2.symm.trans q2
 have isn:∀o:Int,1≤o→o≤28→Mb (dT o) o.toNat:=fun o g1 g2=>by
  unfold Mb dT;rw[ac ⟨g1,g2⟩,List.getElem?_eq_getElem (show o.toNat<dx.length by rw[iz];omega)];exact⟨by omega,rfl⟩
 have k1:=isn op n1 n2
 rw[e1]at k1
 have hop:=BN k1 (isn op' m1 m2)
 obtain rfl:op=op':=by omega
 obtain⟨z1,z2,z3,z4⟩:=lq hm
 obtain⟨y1,y2,y3,y4⟩:=lq hm'
 have nd:=n3 0;have na:=n3 1;have nb:=n3 2
 rw[show gv d a b 0=d from rfl]at nd
 rw[show gv d a b 1=a from rfl]at na
 rw[show gv d a b 2=b from rfl]at nb
 have md:=m3 0;have ma:=m3 1;have mb:=m3 2
 rw[show gv d' a' b' 0=d' from rfl]at md
 rw[show gv d' a' b' 1=a' from rfl]at ma
 rw[show gv d' a' b' 2=b' from rfl]at mb
 have s1:d=d'∧bN [32] (R2 op a b i)=bN [32] (R2 op a' b' i'):=by
  unfold R1 at e2;cases hf:dI (aL op)with
  |true=>
   rw[hf,ac rfl,ac rfl]at e2;exact Au (by omega) (by omega) (by omega) (by omega) e2
  |false=>
   rw[hf,ab (by decide),ab (by decide)]at e2;exact⟨(z1 hf).trans (y1 hf).symm,e2⟩
 have s2:a=a'∧bN [32] (R3 op b i)=bN [32] (R3 op b' i'):=by
  have e2:=s1.2;unfold R2 at e2;cases hf:aI (aL op)with
  |true=>
   rw[hf,ac rfl,ac rfl]at e2;exact Au (by omega) (by omega) (by omega) (by omega) e2
  |false=>
   rw[hf,ab (by decide),ab (by decide)]at e2;exact⟨(z2 hf).trans (y2 hf).symm,e2⟩
 have s3:b=b'∧bN [32] (R4 op i)=bN [32] (R4 op i'):=by
  have e2:=s2.2;unfold R3 at e2;cases hf:bI (aL op)with
  |true=>
   rw[hf,ac rfl,ac rfl]at e2;exact Au (by omega) (by omega) (by omega) (by omega) e2
  |false=>
   rw[hf,ab (by decide),ab (by decide)]at e2;exact⟨(z3 hf).trans (y3 hf).symm,e2⟩
 have s4:i=i':=by
  have e2:=s3.2;unfold R4 at e2;cases hf:iI (aL op)with
  |true=>
   rw[hf,ac rfl,ac rfl,vW,vW]at e2;exact BP (by omega) (by omega) (by omega) (by omega) e2
  |false=>exact(z4 hf).trans (y4 hf).symm
 exact⟨rfl,s1.1,s2.1,s3.1,s4⟩
theorem wf{s:List UInt8}{r r':V}(h:ni s r)(h':ni s r'):r=r':=by
 rcases h with⟨op,d,a,b,i,hm,hs,rfl⟩|⟨hn,rfl⟩<;>rcases h' with⟨op',d',a',b',i',hm',hs',rfl⟩|⟨hn',rfl⟩
 ·obtain⟨rfl,rfl,rfl,rfl,rfl⟩:=YG hm hm' (hs.trans hs'.symm);rfl
 ·exact absurd hs (hn' _ _ _ _ _ hm)
 ·exact absurd hs' (hn _ _ _ _ _ hm')
 ·rfl
def aA7:CC:=(.reg [(aa a2 (.al 74 [(.b false),(.b false),(.b false),(.b false),(.i .i64 0),(.i .i64 0),(.i .i64 0),(.i .i64 0),(.i .i64 0),(.s 0 0),(.s 0 0),.l0]))])
def cD5:=wu aA7.eq_1
def aA8:CC:=(.reg [(qq dK (.mv z0)),(qq dL (.bi .eql dM (.c (.s 0 0)))),(qq dJ (.mv dA)),(bk eD (.mv z0) dJ),(bk eZ (.ixS eJ (x6 0)) dJ),(bk eN (.bi .eql fh (.c (.i .u8 35))) dJ),(qq fq (.pk dX xT fL))])
def cD6:=wu aA8.eq_1
def aA9:CC:=(.reg [(qq ej (.bld [(.b false),(.b false),(.b false),(.b false),(.i .i64 0),(.i .i64 0),(.i .i64 0),(.i .i64 0),(.i .i64 0),(.s 0 0),(.s 0 0),.l0] [])),(ez (.st 12 z2 gD))])
def cD7:=wu aA9.eq_1
def aB0:CC:=(.seq aA8 (.cond fO (.seq aA9 .ret) .skip))
def cD8:=wu aB0.eq_1
def aB1:CC:=(.reg [(qq eT (.mv z0)),(ee ga (.call 45 [ia,(.c (.s 1 58))])),(qq eE (.mv ib)),(qq fP (.ex 0 gw)),(qq ft (.ex 1 gw)),(qq a3 (.mv gV)),(qq a4 (.mv gy))])
def cD9:=wu aB1.eq_1
def aB2:CC:=(.reg [(qq ie (.mv z4)),(qq gz (.mv iU)),(aj fJ (.mv z3) gz),(dZ gR (.call 46 [j8]) gz),(qq gW (.pk iK iV xF))])
def YT:=wu aB2.eq_1
def aB3:CC:=(.reg [(qq ig (.mv z3)),(qq iE (.bld [(.b false),(.b false),(.b false),(.b false),(.i .i64 0),(.i .i64 0),(.i .i64 0),(.i .i64 0),(.i .i64 0),(.s 0 0),(.s 0 0),.l0] [(9,1,jR)])),(ez (.st 12 z2 kC))])
def cE0:=wu aB3.eq_1
def aB4:CC:=(.cond iX (.seq aB3 .ret) .skip)
def YU:=wu aB4.eq_1
def aB5:CC:=(.reg [(qq fQ (.mv z0)),(ee kc (.call 47 [jY])),(qq fj (.mv lM)),(qq kd (.ex 0 kQ)),(qq kE (.ex 1 kQ)),(aa a5 (.al 51 [(.i .i64 0),(.i .i64 0),(.i .i64 0),(.i .i64 0),(.i .i64 0)])),(ez (.st 5 z5 lN)),(qq a6 (.mv lO))])
def YV:=wu aB5.eq_1
def OI:CC:=(.reg [(qq jS (.mv z6)),(qq gC (.bi .eql lF (x6 0)))])
def bI1:=wu OI.eq_1
def OJ:CC:=(.reg [(qq kR (.ldn 5 z5)),(qq lJ (.bld [(.b false),(.b false),(.b false),(.b false),(.i .i64 0),(.i .i64 0),(.i .i64 0),(.i .i64 0),(.i .i64 0),(.s 0 0),(.s 0 0),.l0] [(2,1,xT),(4,5,lQ)])),(ez (.st 12 z2 n6))])
def bI2:=wu OJ.eq_1
def OL:CC:=(.cond lG (.seq OJ .ret) .skip)
def bI3:=wu OL.eq_1
def OM:CC:=(.reg [(qq kW (.mv z0)),(qq kS (.bi .eql og (.c (.s 5 474148660526))))])
def bI4:=wu OM.eq_1
def ON:CC:=(.reg [(qq kT (.bld [(.b false),(.b false),(.b false),(.b false),(.i .i64 0),(.i .i64 0),(.i .i64 0),(.i .i64 0),(.i .i64 0),(.s 0 0),(.s 0 0),.l0] [(1,1,xT)])),(ez (.st 12 z2 mU))])
def bI5:=wu ON.eq_1
def OO:CC:=(.cond oq (.seq ON .ret) .skip)
def bI6:=wu OO.eq_1
def OP:CC:=(.reg [(qq kU (.mv z0)),(ee mG (.call 48 [oT,(.c (.i .u8 32))])),(qq a7 (.mv n7))])
def bI7:=wu OP.eq_1
def OQ:CC:=(.reg [(qq jV (.mv z7)),(qq ke (.bi .lss ot (x6 0)))])
def bI8:=wu OQ.eq_1
def OR:CC:=(.reg [(qq mH (.bld [(.b false),(.b false),(.b false),(.b false),(.i .i64 0),(.i .i64 0),(.i .i64 0),(.i .i64 0),(.i .i64 0),(.s 0 0),(.s 0 0),.l0] [(0,1,xT)])),(ez (.st 12 z2 mV))])
def bI9:=wu OR.eq_1
def OS:CC:=(.cond n8 (.seq OR .ret) .skip)
def bJ0:=wu OS.eq_1
def OT:CC:=(.dreg 9 [(0,0,(qq kX (.mv z0))),(1,0,(qq jW (.mv z7))),(2,3,(qq gb (.slS ng none (some oU)))),(3,0,(qq ow (.mv z0))),(4,0,(qq oy (.mv z7))),(5,16,(qq kF (.bi .add pf (x6 1)))),(6,56,(qq kY (.slS qB (some qC) none))),(7,7,(qq a8 (.mv pG))),(8,255,(qq a9 (.mv qE)))])
def bJ1:=wu OT.eq_1
def OU:CC:=(.reg [(qq lK (.mv z8))])
def bJ2:=wu OU.eq_1
def OV:CC:=(.reg [(qq pM (.bi .eql pg (.c (.s 5 431416637230)))),(qq nn (.mv rV))])
def bJ3:=wu OV.eq_1
def OW:CC:=(.reg [(qq oz (.bi .eql pg (.c (.s 5 435745808942)))),(qq nn (.mv um))])
def bJ4:=wu OW.eq_1
def OX:CC:=(.reg [(qq n9 (.bi .eql pg (.c (.s 6 111477510927150)))),(qq nn (.mv tS))])
def bJ5:=wu OX.eq_1
def OY:CC:=(.reg [(qq kZ (.bi .eql pg (.c (.s 5 500236121134)))),(qq nn (.mv rW))])
def bJ6:=wu OY.eq_1
def OZ:CC:=(.seq OX (.cond pH .skip OY))
def bJ7:=wu OZ.eq_1
def P0:CC:=(.seq OW (.cond pH .skip OZ))
def bJ8:=wu P0.eq_1
def P1:CC:=(.seq OV (.cond pH .skip P0))
def bJ9:=wu P1.eq_1
def P2:CC:=(.reg [(qq oX (.mv z8)),(qq oA (.mv z9)),(ee pN (.call 49 [rX,rP])),(ez (.st 12 z2 pI))])
def bK0:=wu P2.eq_1
def P3:CC:=(.cond pH (.seq P2 .ret) .skip)
def bK1:=wu P3.eq_1
def P4:CC:=(.reg [(qq lL (.mv z8)),(qq oY (.bi .add uo (.c (.s 2 12320)))),(ee sf (.call 47 [uQ])),(qq oB (.mv uR)),(qq pO (.ex 0 rY)),(qq rR (.ex 1 rY)),(aa cE (.al 51 [(.i .i64 0),(.i .i64 0),(.i .i64 0),(.i .i64 0),(.i .i64 0)])),(ez (.st 5 cT uS)),(qq cW (.mv xn))])
def bK2:=wu P4.eq_1
def P5:CC:=(.reg [(qq ur (.ldn 5 cT)),(ee va (.call 50 [xR,(.c (.i .u32 0))])),(qq sg (.mv yW)),(qq rS (.ex 0 xp)),(qq rT (.ex 1 xp)),(qq dh (.mv AR)),(qq d8 (.mv AU))])
def bK3:=wu P5.eq_1
def P6:CC:=(.reg [(qq vc (.mv cM)),(qq xw (.bi .neq AV (x6 0))),(qq pP (.mv AY)),(bk zD (.mv cI) pP),(bk AW (.un .not Dq) pP),(bk oC (.mv FY) pP),(aj pi (.fa 0 cT) oC),(aj ut (.ld1 G0) oC),(aj AX (.bi .neq Dr (x6 5)) oC),(bk Ba (.pk FZ G3 xF) pP),(qq Bb (.pk AZ xT JD)),(qq xX (.mv JE)),(bk Dk (.mv z9) xX),(X3 Dl (.call 46 [LY]) xX),(bk Dm (.un .not LZ) xX),(qq xY (.pk JF xT M7))])
def bK4:=wu P6.eq_1
def P8:CC:=(.reg [(qq DC (.bld [(.b false),(.b false),(.b false),(.b false),(.i .i64 0),(.i .i64 0),(.i .i64 0),(.i .i64 0),(.i .i64 0),(.s 0 0),(.s 0 0),.l0] [(0,1,xT)])),(ez (.st 12 z2 Mh))])
def bK5:=wu P8.eq_1
def P9:CC:=(.cond M8 (.seq P8 .ret) .skip)
def bK6:=wu P9.eq_1
def Pa:CC:=(.reg [(qq DD (.ldn 5 cT)),(qq DE (.mv z9)),(qq Ga (.bld [(.b false),(.b false),(.b false),(.b false),(.i .i64 0),(.i .i64 0),(.i .i64 0),(.i .i64 0),(.i .i64 0),(.s 0 0),(.s 0 0),.l0] [(2,1,xT),(4,5,Mi),(10,1,Mj)])),(ez (.st 12 z2 Mk))])
def bK7:=wu Pa.eq_1
def Pb:CC:=(.seq (.seq P5 (.seq P6 P9)) (.seq Pa .ret))
def bK8:=wu Pb.eq_1
def Pc:CC:=(.seq (.seq OU (.block 0 (.seq P1 P3))) (.seq P4 Pb))
def bK9:=wu Pc.eq_1
def Pd:CC:=(.seq OP (.seq (.seq OQ OS) (.seq OT Pc)))
def bL0:=wu Pd.eq_1
def Pe:CC:=(.seq (.seq aB5 (.seq OI OL)) (.seq (.seq OM OO) Pd))
def FA:=wu Pe.eq_1
def Pf:CC:=(.seq aA7 (.seq aB0 (.seq (.seq aB1 (.seq aB2 aB4)) Pe)))
def bL1:=wu Pf.eq_1
def c22:CF:= .mk 7 [.cn a2 12] Pf
theorem e22(v0:V):aN 7 [v0]=(.n nX (some v0) nX):=rfl
def B22:=ai @e22 (ai @cD5 (ai @cD6 (ai @cD7 (ai @cD8 (ai @cD9 (ai @YT (ai @cE0 (ai @YU (ai @YV (ai @bI1 (ai @bI2 (ai @bI3 (ai @bI4 (ai @bI5 (ai @bI6 (ai @bI7 (ai @bI8 (ai @bI9 (ai @bJ0 (ai @bJ1 (ai @bJ2 (ai @bJ3 (ai @bJ4 (ai @bJ5 (ai @bJ6 (ai @bJ7 (ai @bJ8 (ai @bJ9 (ai @bK0 (ai @bK1 (ai @bK2 (ai @bK3 (ai @bK4 (ai @bK5 (ai @bK6 (ai @bK7 (ai @bK8 (ai @bK9 (ai @bL0 (ai @FA (@bL1)))))))))))))))))))))))))))))))))))))))))
theorem YH(op d a b i:Int):(cV op d a b i).length≤1000000:=by
 have h1:=oH [32] (eM op d a b i)
 have h2:jv (eM op d a b i)≤60:=by
  have:=Jv op d a b 3;have hil:=eS i;rw[eM,gj];split
  ·rw[jv,jv];omega
  ·rw[jv];omega
 have h3:=rK (eM op d a b i)
 unfold cV
 rw[show([32]:List UInt8).length=1 from rfl]at h1
 omega
theorem bh9(s:List UInt8)(h:(58:UInt8)∉s):sC s [58]=false:=by
 cases hh:sC s [58]with
 |false=>rfl
 |true=>
  unfold sC at hh;rw[aJ]at hh;have h2:s.drop (s.length-1)=[58]:=b9 hh.2;exact absurd (List.mem_of_mem_drop (i:=s.length-1) (by rw[h2];exact List.mem_singleton.2 rfl)) h
theorem cr1(s:List UInt8)(h:s.all Do=true):(58:UInt8)∉s:=fun h3=>by
 have:=List.all_eq_true.1 h _ h3
 revert this;decide
def fU:bw:=aw 74 [.b false,.b false,.b false,.b false,.i .i64 0,.i .i64 0,.i .i64 0,.i .i64 0,.i .i64 0,.s 0 0,.s 0 0,.l0]
theorem d94(Φ:Nat→Option CF){L:List gk}(h:Φ 22=some c22)(e:RdP Φ L){F:RO}{M:Mem}{c:Nat}(ok:dH F M c)(ht:bE F L=true)(hE1:cD F 2)(hE2:cD F 3)(hlow:∀g,g<1000→M.get g=none){op d a b i:Int}(hm:cJ op d a b i=true):
 Calls Φ F 22 [sV (cV op d a b i)] M c fun r M' c'=>r=lnI op d a b i∧Gr c M c' M':=by
 refine aq h ?_
 have hge:=ok.ge
 have hl:=YH op d a b i
 obtain⟨ha,x,w,hs,hx1,hx2⟩:=AE hm
 obtain⟨s,hsd⟩:∃s,s=cV op d a b i:=⟨_,rfl⟩
 rw[←hsd]at ha hs hl⊢
 have q1:aK .eql (sV s) (.s 0 0)=some (.b false):=af9 s [] (by rw[hs];intro e;cases e)
 have q2:=BR s .i64 0 (by rw[hs];exact Nat.zero_lt_succ _)
 rw[show s[0]'(by rw[hs];exact Nat.zero_lt_succ _)=x by simp[hs],show bV x= .i .u8 (x.toNat:Int)from rfl,show((0:Nat):Int)=0 from rfl]at q2
 have d1:decide ((x.toNat:Int)=35)=false:=ag (by omega)
 simp only[WX,B22,q1,q2,d1]
 have g0:=fun x=>(Gr.refl ok).set c x (ak _) (bf _) (bD _)
 refine aC ((cw6 Φ e.h45 e.h73 e.h53 s [58] hl (by decide) (bh9 s (cr1 s ha))).mono ?_)
 rintro r M1 c1 ⟨rfl,rfl,rfl⟩
 have ok1:=(g0 fU).ok ok
 have hlow1:∀g,g<1000→(M.set c fU).get g=none:=fun g hg=>by rw[(g0 _).old g (by omega)];exact hlow g hg
 simp only[WX,YT,YU,YV,FA]
 refine aC ((r47 Φ e.h15 e.h77 e.h44 e.h78 e.h80 e.h79 e.h109 e.h58 e.h96 e.h97 e.h126 e.h57 e.h116 e.h94 e.h47 e.h74 e.h107 e.h64 e.h124 e.h35 e.h34 ok1 ht hE1 hE2 hlow1 s hl).mono ?_)
 rintro r M2 c2 ⟨hp,hg⟩
 obtain rfl:=wf hp (.inl ⟨op,d,a,b,i,hm,hsd.symm,rfl⟩)
 have hle:=hg.le
 have ok2:=hg.ok ok1
 have g2:=((g0 fU).trans hg).trans ((Gr.refl ok2).set c2 (aw 51 [.i .i64 op,.i .i64 d,.i .i64 a,.i .i64 b,.i .i64 i]) (ak _) (bf _) (bD _))
 have hM:(M2.set c2 (aw 51 [.i .i64 op,.i .i64 d,.i .i64 a,.i .i64 b,.i .i64 i])).get c=some fU:=by rw[am _ _ (by omega),hg.old _ (by omega),av]
 have hst:=bG hM 0 [.b false,.b false,.b true,.b false,.i .i64 op,.i .i64 d,.i .i64 a,.i .i64 b,.i .i64 i,.s 0 0,.s 0 0,.l0] (by simp) rfl
 simp only[WX,Nat.reduceAdd,Nat.reduceLeDiff,B22,hst]
 exact⟨rfl,g2.set _ _ (ak _) (by omega) (ak _)⟩
theorem Kh(k n:Nat):(dO k n).all (fun x=>decide (48≤x.toNat∧x.toNat≤57))=true:=by
 induction k generalizing n with
 |zero=>rfl
 |succ k ih=>
  rw[dO,List.all_append,ih,Bool.true_and];have:n%10<10:=Nat.mod_lt _ (by decide);generalize n%10=d at this;have:∀d,d<10→[UInt8.ofNat (48+d)].all (fun x=>decide (48≤x.toNat∧x.toNat≤57))=true:=by decide
  exact this d ‹_›
theorem uv{k n:Nat}{x:UInt8}(h:x∈dO k n):48≤x.toNat∧x.toNat≤57:=b9 (List.all_eq_true.1 (Kh k n) x h)
theorem cw5(Φ:Nat→Option CF){L:List gk}(h:Φ 22=some c22)(e:RdP Φ L){F:RO}{M:Mem}{c:Nat}(ok:dH F M c)(ht:bE F L=true)(hE1:cD F 2)(hE2:cD F 3)(hlow:∀g,g<1000→M.get g=none){hd bs:List UInt8}(hh:hd=eB∨hd=eu)(n:Nat)
 (hD:∀M c,dH F M c→Calls Φ F 49 [sV hd,sV (bn n)] M c fun r M' c'=>∃v,r=lnR v∧JH M' c c' v bs∧Gr c M c' M'):
 Calls Φ F 22 [sV (hd++32::bn n)] M c fun r M' c'=>∃v,r=lnR v∧JH M' c c' v bs∧Gr c M c' M':=by
 refine aq h ?_
 have hge:=ok.ge
 have hln:=eV n
 have hdl:hd.length=5:=by rcases hh with rfl|rfl<;>rfl
 obtain⟨w0,hw0⟩:∃r,hd=46::r:=by rcases hh with rfl|rfl<;>exact⟨_,rfl⟩
 have hw32:∀x∈bn n,x≠32:=fun x hx e=>by have:=uv hx;rw[e]at this;exact absurd this (by decide)
 obtain⟨s,hsd⟩:∃s,s=hd++32::bn n:=⟨_,rfl⟩
 rw[←hsd]
 have hsl:s.length=6+(bn n).length:=by rw[hsd,aV,bq];omega
 have hs:∃r,s=46::r:=⟨w0++32::bn n,by rw[hsd,hw0];rfl⟩
 have h58:(58:UInt8)∉s:=fun hm=>by
  rw[hsd,List.mem_append,bj]at hm;rcases hm with hm|hm|hm
  ·rcases hh with rfl|rfl<;>revert hm<;>decide
  ·exact absurd hm (by decide)
  ·have:=uv hm;exact absurd this (by decide)
 obtain⟨r0,hr0⟩:=hs
 have hno:∀op d a b i,cJ op d a b i=true→cV op d a b i≠s:=fun op d a b i hm e=>by
  obtain⟨_,x,w,hs,hx1,hx2⟩:=AE hm;rw[e,hr0]at hs;injection hs with h1 _
  rw[←h1]at hx1;exact absurd hx1 (by decide)
 have hl:s.length≤1000000:=by omega
 have q1:aK .eql (sV s) (.s 0 0)=some (.b false):=af9 s [] (by rw[hr0];intro e;cases e)
 have q2:=BR s .i64 0 (by omega)
 rw[show s[0]'(by omega)=46 by simp[hr0],show bV 46= .i .u8 46 from rfl,show((0:Nat):Int)=0 from rfl]at q2
 have q3:aK .eql (sV s) (.s 5 474148660526)=some (.b false):=af9 s [46,101,118,101,110] (by intro e;have:=congrArg List.length e;simp at this;omega)
 have q4:=Yu s .i64 5 (by omega)
 have q5:=yM s .i64 6 (by omega)
 rw[show s.take 5=hd by rw[hsd,←hdl,List.take_left'];rfl,show((5:Nat):Int)=5 from rfl]at q4
 rw[show s.drop 6=bn n by rw[hsd,show hd++32::bn n=(hd++[32])++bn n by simp,List.drop_left' (by simp[hdl])],show((6:Nat):Int)=6 from rfl]at q5
 have q6:aK .eql (sV hd) (.s 5 431416637230)=some (.b (decide (hd=eB))):=iY hd eB
 have q7:aK .eql (sV hd) (.s 5 435745808942)=some (.b (decide (hd=eu))):=iY hd eu
 have q8:aK .add (.i .i64 5) (.i .i64 1)=some (.i .i64 6):=bH 5 1 (by omega) (by omega)
 simp only[WX,Int.reduceEq,B22,q1,q2]
 have g0:=fun x=>(Gr.refl ok).set c x (ak _) (bf _) (bD _)
 refine aC ((cw6 Φ e.h45 e.h73 e.h53 s [58] hl (by decide) (bh9 s h58)).mono ?_)
 rintro r M1 c1 ⟨rfl,rfl,rfl⟩
 have ok1:=(g0 fU).ok ok
 have hlow1:∀g,g<1000→(M.set c fU).get g=none:=fun g hg=>by rw[(g0 _).old g (by omega)];exact hlow g hg
 simp only[WX,YT,YU,YV,FA]
 refine aC ((r47 Φ e.h15 e.h77 e.h44 e.h78 e.h80 e.h79 e.h109 e.h58 e.h96 e.h97 e.h126 e.h57 e.h116 e.h94 e.h47 e.h74 e.h107 e.h64 e.h124 e.h35 e.h34 ok1 ht hE1 hE2 hlow1 s hl).mono ?_)
 rintro r M2 c2 ⟨hp,hg⟩
 obtain rfl:=wf hp (.inr ⟨hno,rfl⟩)
 have hle:=hg.le
 have ok2:=hg.ok ok1
 have g2:=((g0 fU).trans hg).trans ((Gr.refl ok2).set c2 (aw 51 [.i .i64 0,.i .i64 0,.i .i64 0,.i .i64 0,.i .i64 0]) (ak _) (bf _) (bD _))
 have hM:(M2.set c2 (aw 51 [.i .i64 0,.i .i64 0,.i .i64 0,.i .i64 0,.i .i64 0])).get c=some fU:=by rw[am _ _ (by omega),hg.old _ (by omega),av]
 simp only[WX,Int.reduceEq,Nat.reduceAdd,Nat.reduceLeDiff,B22,q3]
 have r48':=r48 Φ e.h48 e.h81 (F:=F) (M:=M2.set c2 (aw 51 [.i .i64 0,.i .i64 0,.i .i64 0,.i .i64 0,.i .i64 0])) (c:=c2+1) hd (bn n) hw32 (by rw[←hsd];exact hl)
 rw[←hsd,hdl,show((5:Nat):Int)=5 from rfl]at r48'
 refine aC (r48'.mono ?_)
 rintro r M3 c3 ⟨rfl,rfl,rfl⟩
 have g3:=g2.up (c2:=c2+1+9) (by omega)
 have fin:∀M4 c4 v b,Gr (c2+1+9) (M2.set c2 (aw 51 [.i .i64 0,.i .i64 0,.i .i64 0,.i .i64 0,.i .i64 0])) c4 M4→JH M4 (c2+1+9) c4 v bs→(b=aw 74 [.b false,.b false,.b false,.b false,.i .i64 0,.i .i64 0,.i .i64 0,.i .i64 0,.i .i64 0,.s 0 0,.s 0 0,v])→JH (M4.set c b) c c4 v bs∧Gr c M c4 (M4.set c b):=by
  rintro M4 c4 v b g4 ⟨x,rfl,h1,h2,h3⟩ rfl;refine⟨⟨x,rfl,by omega,h2,by rw[am _ _ (by omega)];exact h3⟩,(g3.trans g4).set _ _ (ak _) (by have:=g4.le;omega) (ak _)⟩
 have hok:=g3.ok ok
 have hst:=fun M4 c4 (g4:Gr (c2+1+9) (M2.set c2 (aw 51 [.i .i64 0,.i .i64 0,.i .i64 0,.i .i64 0,.i .i64 0])) c4 M4) v (hv:cU v=true)=>bG (show M4.get c=some fU by rw[g4.old c (by omega),hM]) 0 [.b false,.b false,.b false,.b false,.i .i64 0,.i .i64 0,.i .i64 0,.i .i64 0,.i .i64 0,.s 0 0,.s 0 0,v] (by simp) (by simp[bh,hv];rfl)
 have fl:∀v,cU v=true→flatten v=[v]:=fun v hv=>by cases v<;>first|rfl|cases hv
 rcases hh with hh|hh
 ·rw[af hh]at q6;simp only[WX,Int.reduceLT,Nat.reduceAdd,B22,q4,q5,q6,q8,Ee];refine aC ((hD _ _ hok).mono ?_);rintro r M4 c4 ⟨v,rfl,hv,g4⟩;obtain⟨x,rfl,_⟩:=id hv;have hst1:=hst M4 c4 g4 (.l x 0 bs.length bs.length) rfl;simp only[WX,Nat.reduceAdd,Nat.reduceLeDiff,lnR,hst1];obtain⟨a1,a2⟩:=fin M4 c4 _ _ g4 hv rfl;exact⟨_,rfl,a1,a2⟩
 ·rw[ag (by rw[hh];decide)]at q6;rw[af hh]at q7;simp only[WX,Int.reduceLT,Nat.reduceAdd,B22,q4,q5,q6,q7,q8,Ee];refine aC ((hD _ _ hok).mono ?_);rintro r M4 c4 ⟨v,rfl,hv,g4⟩;obtain⟨x,rfl,_⟩:=id hv;have hst1:=hst M4 c4 g4 (.l x 0 bs.length bs.length) rfl;simp only[WX,Nat.reduceAdd,Nat.reduceLeDiff,lnR,hst1];obtain⟨a1,a2⟩:=fin M4 c4 _ _ g4 hv rfl;exact⟨_,rfl,a1,a2⟩
def uq:=Dw⊕List UInt8
def j0:uq→List UInt8
 | .inl x=>Dn (ei x.op x.d x.a x.b x.i)
 | .inr bs=>bs
def TxL(t:List UInt8):uq→Prop
 | .inl x=>EQ x=true∧t=cV x.op x.d x.a x.b x.i
 | .inr bs=>(∃n,n<4294967296∧t=eB++32::bn n∧bs=Dn n)∨(∃n,n<256∧t=eu++32::bn n∧bs=[UInt8.ofNat n])
def xH(v:V):List V:=[.b false,.b false,.b false,.b false,.i .i64 0,.i .i64 0,.i .i64 0,.i .i64 0,.i .i64 0,.s 0 0,.s 0 0,v]
def vT(x:Dw):List V:=[.b false,.b false,.b true,.b false,.i .i64 x.op,.i .i64 x.d,.i .i64 x.a,.i .i64 x.b,.i .i64 x.i,.s 0 0,.s 0 0,.l0]
def yX(lo:Nat)(M:Mem)(hi:Nat)(e:List V):uq→Prop
 | .inl x=>EQ x=true∧e=vT x
 | .inr bs=>∃b,lo≤b∧b<hi∧e=xH (.l b 0 bs.length bs.length)∧M.get b=some (fV [.i .u8 0] 5 (bs.map bV))∧bs.length≤4
theorem r22(Φ:Nat→Option CF){L:List gk}(h:Φ 22=some c22)(h49:Φ 49=some c49)(e:RdP Φ L){F:RO}{M:Mem}{c:Nat}(ok:dH F M c)(ht:bE F L=true)(hE1:cD F 2)(hE2:cD F 3)(hlow:∀g,g<1000→M.get g=none){t:List UInt8}{x:uq}(hx:TxL t x):
 Calls Φ F 22 [sV t] M c fun r M' c'=>∃es,r= .g es∧yX c M' c' es x∧Gr c M c' M':=by
 cases x with
 |inl x=>
  obtain⟨hm,rfl⟩:=hx;refine(d94 Φ h e ok ht hE1 hE2 hlow hm).mono ?_;rintro r M' c' ⟨rfl,hg⟩;exact⟨_,rfl,⟨hm,rfl⟩,hg⟩
 |inr bs=>
  rcases hx with⟨n,hn,rfl,rfl⟩|⟨n,hn,rfl,rfl⟩
  ·refine(cw5 Φ h e ok ht hE1 hE2 hlow (.inl rfl) n fun M c ok=>da0 Φ h49 e ok ht n hn).mono ?_;rintro r M' c' ⟨v,rfl,⟨b,rfl,h1,h2,h3⟩,hg⟩;exact⟨_,rfl,⟨b,h1,h2,rfl,h3,ak _⟩,hg⟩
  ·refine(cw5 Φ h e ok ht hE1 hE2 hlow (.inr rfl) n fun M c ok=>d99 Φ h49 e ok ht n hn).mono ?_;rintro r M' c' ⟨v,rfl,⟨b,rfl,h1,h2,h3⟩,hg⟩;exact⟨_,rfl,⟨b,h1,h2,rfl,h3,by show 1≤4;decide⟩,hg⟩
def aB6:CC:=(.reg [(aa a2 (.bx 74 12 z0)),(qq a4 (.mv (x6 0)))])
def aB7:CC:=(.reg [(qq a6 (.fa 2 z2)),(qq a7 (.ld1 z6)),(qq a8 (.mv z7)),(bk a9 (.fa 3 z2) a8),(bk cE (.ld1 z9) a8),(qq cW (.pk z8 xT cT)),(qq a5 (.mv cM))])
def aB8:CC:=(.reg [(qq a4 (.mv (x6 4)))])
def aB9:CC:=(.reg [(qq d8 (.fa 1 z2)),(qq dK (.ld1 cI)),(qq dh (.mv dM))])
def aC0:CC:=(.reg [(qq dL (.mv z1)),(qq dJ (.un .neg dA)),(qq eD (.bi .and dX (x6 3))),(qq a4 (.mv eJ))])
def aC1:CC:=(.seq aB9 (.cond cH (.seq aC0 .ret) .skip))
def aC2:CC:=(.seq aB7 (.cond z5 (.seq aB8 .ret) aC1))
def aC3:CC:=(.reg [(qq eZ (.fa 11 z2)),(qq eN (.ld1 fh)),(qq fq (.ln .slice fL)),(qq a4 (.mv fO))])
def c23:CF:= .mk 5 [.t a4] (.seq aB6 (.seq (.block 0 aC2) (.seq aC3 .ret)))
theorem e23(v0 v1:V):aN 5 [v0,v1]=(.n (.n eX (some v1) eX) (some v0) kV):=rfl
def B23:=ai @e23 (ai (wu aB6.eq_1) (ai (wu aB7.eq_1) (ai (wu aB8.eq_1) (ai (wu aB9.eq_1) (ai (wu aC0.eq_1) (ai (wu aC1.eq_1) (ai (wu aC2.eq_1) (wu aC3.eq_1))))))))
theorem r23(Φ:Nat→Option CF)(h:Φ 23=some c23){F:RO}{M M0:Mem}{c lo hi:Nat}(ok:dH F M c){es:List V}{x:uq}(hx:yX lo M0 hi es x)(at_:V):
 Calls Φ F 23 [.g es,at_] M c fun r M' c'=>r= .i .i64 ((j0 x).length:Int)∧Gr c M c' M':=by
 refine aq h ?_
 have g0:=fun x=>(Gr.refl ok).set c x (ak _) (bf _) (bD _)
 cases x with
 |inl x=>
  obtain⟨hm,rfl⟩:=hx;have l2:∀k v,(vT x)[k]?=some v→load1 F (M.set c (aw 74 (vT x))) c k=some v:=fun k v hv=>by rw[aX (av _ _ _) k];exact hv
  have l:=l2 2 (.b true) rfl;unfold vT at l⊢;simp only[WX,Nat.reduceAdd,B23,l];exact⟨rfl,g0 _⟩
 |inr bs=>
  obtain⟨b,_,_,rfl,_,_⟩:=hx;have l2:∀k v,(xH (.l b 0 bs.length bs.length))[k]?=some v→load1 F (M.set c (aw 74 (xH (.l b 0 bs.length bs.length)))) c k=some v:=fun k v hv=>by rw[aX (av _ _ _) k];exact hv
  have l:=l2 2 (.b false) rfl;have l3:=l2 3 (.b false) rfl;have l1:=l2 1 (.b false) rfl;have l11:=l2 11 (.l b 0 bs.length bs.length) rfl;have q:BW (.l b 0 bs.length bs.length)=some (.i .i64 (bs.length:Int)):=rfl;unfold xH at l l3 l1 l11⊢;simp only[WX,Nat.reduceAdd,B23,l,l3,l1,l11,q];exact⟨rfl,g0 _⟩
def w4(a b c d:UInt8):Nat:=a.toNat+256*b.toNat+65536*c.toNat+16777216*d.toNat
theorem Zk(a b c d:UInt8):w4 a b c d<4294967296:=by
 have:=UInt8.toNat_lt a;have:=UInt8.toNat_lt b;have:=UInt8.toNat_lt c;have:=UInt8.toNat_lt d
 unfold w4;omega
def oZ(w:Nat):Prop:=cJ (lu w) (dW w) (aW w) (bW w) (iW w)=true∧ei (lu w) (dW w) (aW w) (bW w) (iW w)=w
open Classical in
def fT(w:Nat):List UInt8:=if oZ w then cV (lu w) (dW w) (aW w) (bW w) (iW w)else eB++32::bn w
def dN(x:UInt8):List UInt8:=eu++32::bn x.toNat
def jk:List UInt8→List UInt8
 |a::b::c::d::r=>fT (w4 a b c d)++10::jk r
 |l=>l.flatMap fun x=>dN x++[10]
theorem wa(a b c d:UInt8)(r:List UInt8):jk (a::b::c::d::r)=fT (w4 a b c d)++10::jk r:=by rw[jk]
theorem iQ{l:List UInt8}(h:l.length<4):jk l=l.flatMap fun x=>dN x++[10]:=by
 match l,h with
 |[],_=>rw[jk];intro a b c d r e;cases e
 |[_],_=>rw[jk];intro a b c d r e;cases e
 |[_,_],_=>rw[jk];intro a b c d r e;cases e
 |[_,_,_],_=>rw[jk];intro a b c d r e;cases e
theorem YI(a:Nat)(ha:a<256):aK .shl (.i .u64 (a:Int)) (.i .u64 8)=some (.i .u64 ((256*a:Nat):Int)):=by
 have:=kH .u64 .u64 (a:Int) 8
 rw[show((8:Nat):Int)=8 from rfl]at this
 rw[this,dm]
 congr 2
 show(a:Int)*256%18446744073709551616=_
 omega
theorem LI(a:Nat)(ha:a<256):aK .shl (.i .u64 (a:Int)) (.i .u64 16)=some (.i .u64 ((65536*a:Nat):Int)):=by
 have:=kH .u64 .u64 (a:Int) 16
 rw[show((16:Nat):Int)=16 from rfl]at this
 rw[this,dm]
 congr 2
 show(a:Int)*65536%18446744073709551616=_
 omega
theorem LJ(a:Nat)(ha:a<256):aK .shl (.i .u64 (a:Int)) (.i .u64 24)=some (.i .u64 ((16777216*a:Nat):Int)):=by
 have:=kH .u64 .u64 (a:Int) 24
 rw[show((24:Nat):Int)=24 from rfl]at this
 rw[this,dm]
 congr 2
 show(a:Int)*16777216%18446744073709551616=_
 omega
theorem Jq(n:Int):toU .u64 n=(n%18446744073709551616).toNat:=rfl
theorem Fw(a b:Nat)(ha:a<18446744073709551616)(hb:b<18446744073709551616):aK .or (.i .u64 (a:Int)) (.i .u64 (b:Int))=some (.i .u64 ((a|||b:Nat):Int)):=by
 rw[W8,Jq,Jq,dm]
 have e1:((a:Int)%18446744073709551616).toNat=a:=by omega
 have e2:((b:Int)%18446744073709551616).toNat=b:=by omega
 rw[e1,e2]
 have:a|||b<2^64:=Nat.or_lt_two_pow ha hb
 congr 2
 omega
def av9:CC:=(.reg [(qq a3 (.mv z0)),(ee a4 (.call 13 [z3,(.c (.s 1 32))])),(qq a5 (.bi .add z4 (.c (.s 1 10)))),(ee a6 (.call 12 [z1,z5]))])
def c11:CF:= .mk 3 [] av9
theorem e11(v0 v1:V):aN 3 [v0,v1]=(.n (.n sk1 (some v1) sk1) (some v0) jq):=rfl
def B11:=ai @e11 (wu av9.eq_1)
theorem r11(Φ:Nat→Option CF)(h:Φ 11=some c11)(h13:Φ 13=some ZW)(h31:Φ 31=some Wi)(h12:Φ 12=some Wg)(h18:Φ 18=some Wh)(h30:Φ 30=some Ka)(h60:Φ 60=some Me){F:RO}{M0 M:Mem}{c0 c b bb:Nat}{v:V}{l:List (List UInt8)}{t:List UInt8}(ok:dH F M c)(hg:Gr c0 M0 c M)(hb:ic M c0 c b bb t)(hs:dp F M c 1 v (fX l))(hl:jv l≤100000)(ht:t.length≤1000000):
 Calls Φ F 11 [v,.p b 0] M c fun _ M' c'=>∃bb',ic M' c0 c' b bb' (t++(bN [32] l++[10]))∧Gr c0 M0 c' M'∧c≤c':=by
 refine aq h ?_
 simp only[WX,B11]
 have e32:V.s 1 32=sV [32]:=rfl
 have hj:(bN [32] l).length≤200000:=by
  have h1:=oH [32] l;have h3:=rK l;rw[show([32]:List UInt8).length=1 from rfl]at h1;omega
 have q:aK .add (sV (bN [32] l)) (.s 1 10)=some (sV (bN [32] l++[10])):=dy _ [10] (by simp;omega)
 refine aC ((r13 Φ h13 h31 h12 h18 h30 h60 ok hs (by omega) (s:=[32]) (by decide) (by decide)).mono ?_)
 rintro r M1 c1 ⟨rfl,g1⟩
 simp only[WX,q]
 refine aC ((r12 Φ h12 h30 (g1.ok ok) (hg.trans g1) (hb.up g1.le fun x hx=>g1.old x hx) (bN [32] l++[10]) (jp (by rw[aV,List.length_singleton];omega) (by rw[aV,List.length_singleton];omega))).mono ?_)
 rintro r M2 c2 ⟨bb2,hb2,g2,hle,_,_⟩
 simp only[WX]
 exact⟨bb2,hb2,g2,by have:=g1.le;omega⟩
abbrev Cw(u:List (Option V))(x0 x3 x4 x5:V):T:=(.n (.n (.n (.n (aO u 63 31 95 15 79 47 111) (uO u 7) (aO u 71 39 103 23 87 55 119)) (some x3) (.n (aO u 67 35 99 19 83 51 115) (uO u 11) (aO u 75 43 107 27 91 59 123))) (uO u 1) (.n (.n (aO u 65 33 97 17 81 49 113) (uO u 9) (aO u 73 41 105 25 89 57 121)) (some x5) (.n (aO u 69 37 101 21 85 53 117) (uO u 13) (aO u 77 45 109 29 93 61 125)))) (some x0) (.n (.n (.n (aO u 64 32 96 16 80 48 112) (uO u 8) (aO u 72 40 104 24 88 56 120)) (some x4) (.n (aO u 68 36 100 20 84 52 116) (uO u 12) (aO u 76 44 108 28 92 60 124))) (uO u 2) (.n (.n (aO u 66 34 98 18 82 50 114) (uO u 10) (aO u 74 42 106 26 90 58 122)) (uO u 6) (.n (aO u 70 38 102 22 86 54 118) (uO u 14) (aO u 78 46 110 30 94 62 126)))))
abbrev cz6(u:List (Option V))(x0 x3 x4 x5 x6:V):T:=(.n (.n (.n (.n (aO u 63 31 95 15 79 47 111) (uO u 7) (aO u 71 39 103 23 87 55 119)) (some x3) (.n (aO u 67 35 99 19 83 51 115) (uO u 11) (aO u 75 43 107 27 91 59 123))) (uO u 1) (.n (.n (aO u 65 33 97 17 81 49 113) (uO u 9) (aO u 73 41 105 25 89 57 121)) (some x5) (.n (aO u 69 37 101 21 85 53 117) (uO u 13) (aO u 77 45 109 29 93 61 125)))) (some x0) (.n (.n (.n (aO u 64 32 96 16 80 48 112) (uO u 8) (aO u 72 40 104 24 88 56 120)) (some x4) (.n (aO u 68 36 100 20 84 52 116) (uO u 12) (aO u 76 44 108 28 92 60 124))) (uO u 2) (.n (.n (aO u 66 34 98 18 82 50 114) (uO u 10) (aO u 74 42 106 26 90 58 122)) (some x6) (.n (aO u 70 38 102 22 86 54 118) (uO u 14) (aO u 78 46 110 30 94 62 126)))))
abbrev cz7(u:List (Option V))(x0 x3 x4 x65 x66 x67:V):T:=(.n (.n (.n (.n (aO u 63 31 95 15 79 47 111) (uO u 7) (aO u 71 39 103 23 87 55 119)) (some x3) (.n (.n (.n (.n .e (some x67) .e) (uO u 35) (pd u 99)) (uO u 19) (j7 u 83 51 115)) (uO u 11) (aO u 75 43 107 27 91 59 123))) (uO u 1) (.n (.n (.n (.n (.n .e (some x65) .e) (uO u 33) (pd u 97)) (uO u 17) (j7 u 81 49 113)) (uO u 9) (aO u 73 41 105 25 89 57 121)) (uO u 5) (.n (aO u 69 37 101 21 85 53 117) (uO u 13) (aO u 77 45 109 29 93 61 125)))) (some x0) (.n (.n (.n (aO u 64 32 96 16 80 48 112) (uO u 8) (aO u 72 40 104 24 88 56 120)) (some x4) (.n (aO u 68 36 100 20 84 52 116) (uO u 12) (aO u 76 44 108 28 92 60 124))) (uO u 2) (.n (.n (.n (.n (.n .e (some x66) .e) (uO u 34) (pd u 98)) (uO u 18) (j7 u 82 50 114)) (uO u 10) (aO u 74 42 106 26 90 58 122)) (uO u 6) (.n (aO u 70 38 102 22 86 54 118) (uO u 14) (aO u 78 46 110 30 94 62 126)))))
theorem tc(op d a b i:Int):(cV op d a b i).length≤121:=by
 have h1:=oH [32] (eM op d a b i)
 have h2:jv (eM op d a b i)≤60:=by
  have:=Jv op d a b 3;have hil:=eS i;rw[eM,gj];split
  ·rw[jv,jv];omega
  ·rw[jv];omega
 have h3:=rK (eM op d a b i)
 unfold cV
 rw[show([32]:List UInt8).length=1 from rfl]at h1
 omega
theorem KO(w:Nat):(fT w).length≤121:=by
 unfold fT
 split
 ·exact tc _ _ _ _ _
 ·have:=eV w;rw[aV,bq,show eB.length=5 from rfl];omega
theorem DV(x:UInt8):(dN x).length≤20:=by
 have:=eV x.toNat
 unfold dN
 rw[aV,bq,show eu.length=5 from rfl];omega
theorem iR:∀l:List UInt8,(l.flatMap fun x=>dN x++[10]).length≤31*l.length
 |[]=>ak _
 |x::l=>by
  have h1:=DV x;have h2:=iR l;rw[List.flatMap_cons,aV,aV,List.length_singleton,bq];omega
theorem uA:∀l:List UInt8,(jk l).length≤31*l.length
 |a::b::c::d::r=>by
  have h1:=KO (w4 a b c d);have h2:=uA r;rw[wa,aV];simp only[bq];omega
 |[]=>by rw[iQ (by decide)];exact iR _
 |[x]=>by rw[iQ (by show 1<4;decide)];exact iR _
 |[x,y]=>by rw[iQ (by show 2<4;decide)];exact iR _
 |[x,y,z]=>by rw[iQ (by show 3<4;decide)];exact iR _
theorem Ih{l:List UInt8}(h:4≤l.length):∃a b c d r,l=a::b::c::d::r:=by
 match l,h with
 |a::b::c::d::r,_=>exact⟨a,b,c,d,r,rfl⟩
 |[],h=>exact absurd h (by decide)
 |[_],h=>exact absurd h (by show¬4≤1;decide)
 |[_,_],h=>exact absurd h (by show¬4≤2;decide)
 |[_,_,_],h=>exact absurd h (by show¬4≤3;decide)
theorem Y3(a b c d:UInt8):Jb [a,b,c,d]=IL (w4 a b c d):=rfl
theorem IM{w:Nat}(h:oZ w):IL w= .t [.g [.i .i64 (lu w),.i .i64 (dW w),.i .i64 (aW w),.i .i64 (bW w),.i .i64 (iW w)],.i .i64 0]:=ac h
theorem IP{w:Nat}(h:¬oZ w):IL w= .t [.g [.i .i64 0,.i .i64 0,.i .i64 0,.i .i64 0,.i .i64 0],.i .i64 4]:=ab h
theorem nk.drop{F:RO}{M:Mem}{c:Nat}{v:V}{l:List UInt8}(h:nk F M c v l)(k:Nat)(hk:k≤l.length):∃v',Fo 1 v (some (.i .i64 (k:Int))) none none=some v'∧nk F M c v' (l.drop k):=by
 obtain⟨v3,⟨_,_,hsl,_⟩,hs3⟩:=AA (lo:=k) (hi:=(l.map fun x=>[bV x]).length) h (by simp;exact hk) (ak _)
 refine⟨v3,congrArg QR.val (hsl rfl),?_⟩
 rw[List.take_length,←List.map_drop]at hs3;exact hs3
theorem nk.take{F:RO}{M:Mem}{c:Nat}{v:V}{l:List UInt8}(h:nk F M c v l)(k:Nat)(hk:k≤l.length):∃v',Fo 1 v none (some (.i .i64 (k:Int))) none=some v'∧nk F M c v' (l.take k):=by
 obtain⟨v3,⟨_,hsl,_,_⟩,hs3⟩:=AA (lo:=0) (hi:=k) h (aP _) (by simp;exact hk)
 refine⟨v3,congrArg QR.val (hsl rfl),?_⟩
 rw[List.drop_zero,←List.map_take]at hs3;exact hs3
def ce0:CC:=(.reg [(qq dh (.mv z0)),(qq d8 (.ln .slice cH)),(qq dK (.bi .gtr cI (x6 8192)))])
def cF7:=wu ce0.eq_1
def ce1:CC:=(.seq (.reg [(qq a2 (.mv (.c (.s 0 0))))]) .ret)
def dd6:=wu ce1.eq_1
def ce2:CC:=(.reg [(aa a3 (.al 41 [.p0,.l0]))])
def cG3:=wu ce2.eq_1
def ce3:CC:=(.reg [(qq dL (.mkf 11 [] [z3])),(qq a4 (.mv dA))])
def cG4:=wu ce3.eq_1
def ce4:CC:=(.reg [(qq dJ (.mv z0)),(qq a5 (.mv dX))])
def cG5:=wu ce4.eq_1
def ce5:CC:=(.reg [(qq eD (.mv z5)),(qq eZ (.ln .slice eJ)),(qq eN (.bi .geq fh (x6 4)))])
def bV7:=wu ce5.eq_1
def ce6:CC:=(.seq ce5 (.cond fL .skip (.exit 0)))
def bV8:=wu ce6.eq_1
def ce7:CC:=(.reg [(qq ej (.mv z5)),(qq eE (.slL 1 gD none (some (x6 4)) none)),(ee eT (.call 14 [gw])),(qq fq (.mv ia)),(qq ga (.ex 0 fO)),(qq fP (.ex 1 fO)),(aa a6 (.al 51 [(.i .i64 0),(.i .i64 0),(.i .i64 0),(.i .i64 0),(.i .i64 0)])),(ez (.st 5 z6 ib)),(qq a7 (.mv gV))])
def cG6:=wu ce7.eq_1
def ce8:CC:=(.reg [(qq ft (.mv z7)),(qq ie (.bi .eql gy (x6 0)))])
def bV9:=wu ce8.eq_1
def V3:CC:=(.reg [(qq fJ (.ldn 5 z6)),(ee gR (.call 15 [j8])),(qq gz (.mv iV)),(qq gW (.ex 0 iK)),(qq ig (.ex 1 iK)),(qq a8 (.mv iX)),(qq a9 (.mv jR))])
def cF8:=wu V3.eq_1
def V4:CC:=(.reg [(qq iE (.mv z4)),(qq fj (.mv z8)),(aa fQ (.bsl 9 1 1 [(.s 0 0)] [(0,kQ)])),(ee kc (.cv kC [jY]))])
def cF9:=wu V4.eq_1
def V5:CC:=(.dreg 26 [(0,0,(qq kd (.mv z4))),(1,0,(qq kE (.mv z5))),(2,2,(qq jS (.iaS 1 lO (x6 0)))),(3,6,(qq gC (.ld1 lF))),(4,14,(qq kR (.ci .u64 lG))),(5,0,(qq lJ (.mv z5))),(6,32,(qq kW (.iaS 1 n6 (x6 1)))),(7,96,(qq kS (.ld1 og))),(8,224,(qq kT (.ci .u64 oq))),(9,480,(qq kU (.bi .shl mU (.c (.i .u64 8))))),(10,1022,(qq mG (.bi .or lQ oT))),(11,0,(qq jV (.mv z5))),(12,2048,(qq ke (.iaS 1 ot (x6 2)))),(13,6144,(qq mH (.ld1 n8))),(14,14336,(qq kX (.ci .u64 mV))),(15,30720,(qq jW (.bi .shl ng (.c (.i .u64 16))))),(16,65534,(qq gb (.bi .or n7 oU))),(17,0,(qq ow (.mv z5))),(18,131072,(qq oy (.iaS 1 qB (x6 3)))),(19,393216,(qq kF (.ld1 pf))),(20,917504,(qq kY (.ci .u64 qC))),(21,1966080,(qq lK (.bi .shl qE (.c (.i .u64 24))))),(22,4194302,(qq nn (.bi .or pG pg))),(23,8388606,(ee pM (.call 16 [pH,(x6 10)]))),(24,16777214,(aa oz (.bsl 9 2 1 [(.s 0 0)] [(0,(.c (.s 5 431416637230))),(1,rV)]))),(25,33554431,(ee n9 (.cv lN [um])))])
def cG0:=wu V5.eq_1
def aW3:CC:=(.cond iU (.seq V3 V4) V5)
def Zl:=wu aW3.eq_1
def aW4:CC:=(.reg [(qq kZ (.mv z5)),(qq oX (.slL 1 rW (some (x6 4)) none none)),(qq a5 (.mv rX))])
def cG1:=wu aW4.eq_1
def aW5:CC:=(.seq ce6 (.block 1 (.seq (.seq ce7 (.seq ce8 aW3)) aW4)))
def Zm:=wu aW5.eq_1
def aW6:CC:=(.reg [(qq oA (.mv z5)),(qq pN (.ln .slice rP)),(qq oB (.mv (x6 0)))])
def bn2:=wu aW6.eq_1
def aW7:CC:=(.reg [(qq lL (.bi .lss rY pI))])
def bn3:=wu aW7.eq_1
def aW8:CC:=(.cond uo .skip (.exit 2))
def bn4:=wu aW8.eq_1
def aW9:CC:=(.reg [(qq oY (.iaS 1 rP rY)),(qq sf (.ld1 uQ)),(qq cW (.mv uR))])
def bn5:=wu aW9.eq_1
def aX0:CC:=(.reg [(qq pO (.mv z4)),(qq rR (.mv cM)),(qq sg (.ci .i64 xn)),(ee ur (.call 17 [xp])),(aa va (.bsl 9 2 1 [(.s 0 0)] [(0,(.c (.s 5 435745808942))),(1,xR)])),(ee rS (.cv uS [yW]))])
def bn6:=wu aX0.eq_1
def aX1:CC:=(.reg [(qq rT (.bi .add rY (x6 1))),(qq oB (.mv AU))])
def bn7:=wu aX1.eq_1
def aX2:CC:=(.seq aW7 (.seq aW8 (.seq (.block 3 (.seq aW9 aX0)) aX1)))
def bn8:=wu aX2.eq_1
def aX3:CC:=(.reg [(ee vc (.call 18 [z3])),(qq a2 (.mv AV))])
def cG2:=wu aX3.eq_1
def aX4:CC:=(.seq (.seq aW6 (.block 2 (.loop aX2))) (.seq aX3 .ret))
def bn9:=wu aX4.eq_1
def aX5:CC:=(.seq ce3 (.seq ce4 (.seq (.block 0 (.loop aW5)) aX4)))
def bo0:=wu aX5.eq_1
def aX6:CC:=(.seq (.seq ce0 (.cond dM ce1 .skip)) (.seq ce2 aX5))
def bo1:=wu aX6.eq_1
def aX7:CC:=(.seq (.reg [(qq a2 (.mv (.c (.s 0 0))))]) aX6)
def bo2:=wu aX7.eq_1
def c5:CF:= .mk 7 [.t a2] aX7
theorem e5(v0:V):aN 7 [v0]=(.n nX (some v0) nX):=rfl
def B5:=ai @e5 (ai @cF7 (ai @dd6 (ai @cG3 (ai @cG4 (ai @cG5 (ai @bV7 (ai @bV8 (ai @cG6 (ai @bV9 (ai @cF8 (ai @cF9 (ai @cG0 (ai @Zl (ai @cG1 (ai @Zm (ai @bn2 (ai @bn3 (ai @bn4 (ai @bn5 (ai @bn6 (ai @bn7 (ai @bn8 (ai @cG2 (ai @bn9 (ai @bo0 (ai @bo1 (@bo2)))))))))))))))))))))))))))
theorem cX0(Φ:Nat→Option CF){L:List gk}(h15:Φ 15=some (.orc (bT L h15)))(h11:Φ 11=some c11)(h13:Φ 13=some ZW)(h31:Φ 31=some Wi)(h12:Φ 12=some Wg)(h18:Φ 18=some Wh)(h30:Φ 30=some Ka)(h60:Φ 60=some Me){F:RO}{M0 M:Mem}{c c1 bb w:Nat}{t:List UInt8}{v v5:V}(ht:bE F L=true)(ok:dH F M c1)(hg:Gr c M0 c1 M)(hb:ic M c c1 c bb t)(htl:t.length≤1000000)(hw:oZ w){cb:Nat}(hcb1:c<cb)(hcb:cb<c1)(hM:M.get cb=some (aw 51 [.i .i64 (lu w),.i .i64 (dW w),.i .i64 (aW w),.i .i64 (bW w),.i .i64 (iW w)]))(u:List (Option V))(Q:Ex→St→Prop)
 (hQ:∀(u:List (Option V)) M' c' bb',Gr c M0 c' M'→ic M' c c' c bb' (t++(fT w++[10]))→Q .nrm (.mk ((Cw u v (.p c 0) (.f 11 [] [.p c 0]) v5)) [] M' c')):
 Wp (.seq V3 V4) (K Φ none 5 F) (.mk ((cz6 u v (.p c 0) (.f 11 [] [.p c 0]) v5 (.p cb 0))) [] M c1) Q:=by
 have hT:=fun h args M c=>dC ht h args M c
 have ln:=jt (F:=F) hM 5 rfl
 have h1:Ev.h15 [.g [.i .i64 (lu w),.i .i64 (dW w),.i .i64 (aW w),.i .i64 (bW w),.i .i64 (iW w)]]=some (.t [sV (cV (lu w) (dW w) (aW w) (bW w) (iW w)),.i .i64 0]):=by rw[Et,ac hw.1]
 have hlw:fT w=cV (lu w) (dW w) (aW w) (bW w) (iW w):=ac hw
 have hlen:=tc (lu w) (dW w) (aW w) (bW w) (iW w)
 rw[hlw]at hQ
 generalize cV (lu w) (dW w) (aW w) (bW w) (iW w)=x at h1 hlen hQ
 have fS:flatten (sV x)=[sV x]:=rfl
 have aS:cU (sV x)=true:=rfl
 have g1:=(Gr.refl ok).set c1 (fV [.s 0 0] 9 [sV x]) (ak _) (bf _) (bD _)
 have hs:dp F (M.set c1 (fV [.s 0 0] 9 [sV x])) (c1+1) 1 (.l c1 0 1 1) (fX [x]):=Ys (d:=[.s 0 0]) (ty:=9) (av _ _ _) (by omega) (fun e he=>by rw[fX,List.map_singleton,List.mem_singleton]at he;subst he;rfl) rfl
 simp only[WX,B5,ln,h15,hT,h1,fS,aS]
 refine aC ((r11 Φ h11 h13 h31 h12 h18 h30 h60 (g1.ok ok) (hg.trans g1) (hb.up (by omega) fun x hx=>g1.old x hx) hs (by rw[jv,jv];omega) htl).mono ?_)
 rintro r M2 c2 ⟨bb',hb2,g2,hle⟩
 simp only[WX]
 rw[vW]at hb2
 exact hQ (G1 (X2 (G2 (G1 (ka (gu (eG (X8 (X1 []))))))))) _ _ bb' g2 hb2
theorem cX9(Φ:Nat→Option CF){L:List gk}(h16:Φ 16=some c16)(h37:Φ 37=some ZX)(h65:Φ 65=some (.orc (ah h65)))(h66:Φ 66=some (.orc (bT L h66)))(h67:Φ 67=some qN)(h11:Φ 11=some c11)(h13:Φ 13=some ZW)(h31:Φ 31=some Wi)(h12:Φ 12=some Wg)(h18:Φ 18=some Wh)(h30:Φ 30=some Ka)(h60:Φ 60=some Me){F:RO}{M0 M:Mem}{c c1 bb:Nat}{t:List UInt8}{v v5:V}{x0 x1 x2 x3:UInt8}{r:List UInt8}(ht:bE F L=true)(ok0:dH F M0 c)(hg:Gr c M0 c1 M)(hb:ic M c c1 c bb t)(htl:t.length≤1000000)(hw:¬oZ (w4 x0 x1 x2 x3))(hs:nk F M c1 v5 (x0::x1::x2::x3::r))(u:List (Option V))(Q:Ex→St→Prop)
 (hQ:∀(u:List (Option V)) M' c' bb',Gr c M0 c' M'→ic M' c c' c bb' (t++(fT (w4 x0 x1 x2 x3)++[10]))→Q .nrm (.mk ((Cw u v (.p c 0) (.f 11 [] [.p c 0]) v5)) [] M' c')):
 Wp V5 (K Φ none 5 F) (.mk ((Cw u v (.p c 0) (.f 11 [] [.p c 0]) v5)) [] M c1) Q:=by
 have ok:=hg.ok ok0
 have hT:=fun h args M c=>dC ht h args M c
 have hlw:fT (w4 x0 x1 x2 x3)=eB++32::bn (w4 x0 x1 x2 x3):=ab hw
 have hwl:=Zk x0 x1 x2 x3
 rw[hlw]at hQ
 obtain⟨b0,o0,hb0,i0,r0⟩:=hs.get 0 (by simp)
 obtain⟨b1,o1,hb1,i1,r1⟩:=hs.get 1 (by simp)
 obtain⟨b2,o2,hb2,i2,r2⟩:=hs.get 2 (by simp)
 obtain⟨b3,o3,hb3,i3,r3⟩:=hs.get 3 (by simp)
 have i0:bL 1 v5 (.i .i64 0)=some (.p b0 o0):=i0 _
 have i1:bL 1 v5 (.i .i64 1)=some (.p b1 o1):=i1 _
 have i2:bL 1 v5 (.i .i64 2)=some (.p b2 o2):=i2 _
 have i3:bL 1 v5 (.i .i64 3)=some (.p b3 o3):=i3 _
 have r0:load1 F M b0 o0=some (.i .u8 (x0.toNat:Int)):=r0
 have r1:load1 F M b1 o1=some (.i .u8 (x1.toNat:Int)):=r1
 have r2:load1 F M b2 o2=some (.i .u8 (x2.toNat:Int)):=r2
 have r3:load1 F M b3 o3=some (.i .u8 (x3.toNat:Int)):=r3
 have k0:=UInt8.toNat_lt x0
 have k1:=UInt8.toNat_lt x1
 have k2:=UInt8.toNat_lt x2
 have k3:=UInt8.toNat_lt x3
 have wd:w4 x0 x1 x2 x3=x0.toNat+256*x1.toNat+65536*x2.toNat+16777216*x3.toNat:=rfl
 rw[wd]at hQ hwl
 generalize x0.toNat=c0 at *
 generalize x1.toNat=d1 at *
 generalize x2.toNat=d2 at *
 generalize x3.toNat=d3 at *
 have wr:∀n:Nat,n<256→IntKind.u64.wrap (n:Int)=(n:Int):=fun n h=>by rw[dm];omega
 have e0:=wr c0 k0
 have e1:=wr d1 k1
 have e2:=wr d2 k2
 have e3:=wr d3 k3
 have s1:=YI d1 k1
 have s2:=LI d2 k2
 have s3:=LJ d3 k3
 have n1':(c0|||256*d1)=c0+256*d1:=Ag c0 d1 k0
 have n2':(c0+256*d1|||65536*d2)=c0+256*d1+65536*d2:=rp _ d2 (by omega)
 have n3':(c0+256*d1+65536*d2|||16777216*d3)=c0+256*d1+65536*d2+16777216*d3:=by
  rw[Nat.or_comm,←Nat.two_pow_add_eq_or_of_lt (show c0+256*d1+65536*d2<2^24 by omega) d3];omega
 have p1:=Fw c0 (256*d1) (by omega) (by omega)
 have p2:=Fw (c0+256*d1) (65536*d2) (by omega) (by omega)
 have p3:=Fw (c0+256*d1+65536*d2) (16777216*d3) (by omega) (by omega)
 rw[n1']at p1
 rw[n2']at p2
 rw[n3']at p3
 clear n1' n2' n3'
 generalize c0+256*d1+65536*d2+16777216*d3=a3 at *
 generalize c0+256*d1+65536*d2=a2 at *
 generalize c0+256*d1=a1 at *
 have g26:=(Gr.refl ok).up (show c1≤c1+26 by omega)
 have am1:=g26.ok ok
 simp only[WX,Nat.reducePow,Nat.reduceDiv,Nat.reduceMod,Nat.reduceBEq,fg,B5,i0,i1,i2,i3,r0,r1,r2,r3,e0,e1,e2,e3,s1,s2,s3,p1,p2,p3,fg]
 refine Cb ((r16 Φ h16 h37 h65 h66 h67 am1 ht a3 hwl).mono ?_)
 rintro v1 M2 c2 ⟨rfl,g2⟩
 have ok2:=g2.ok am1
 refine⟨ok2.free,?_⟩
 have g2l:=g2.le
 have lk:(look F M2 (c1+24)).isNone=true:=by rw[eb (g2.old _ (by omega)),ok.look (by omega)];rfl
 have rf:dU (c1+24) [(19,b3),(13,b2),(7,b1),(3,b0)]=true:=by rw[ed _ _ _ _ (by omega),ed _ _ _ _ (by omega),ed _ _ _ _ (by omega),ed _ _ _ _ (by omega),jo]
 have fS:flatten (sV (bn a3))=[sV (bn a3)]:=rfl
 have aS:cU (sV (bn a3))=true:=rfl
 simp only[WX,Nat.reducePow,Nat.reduceDiv,Nat.reduceMod,Nat.reduceBEq,Nat.reduceAdd,lk,rf,at4,IR,cL8,fS,aS]
 have gZ:Gr c1 M c2 (M2.set (c1+24) (fV [.s 0 0] 9 [.s 5 431416637230,sV (bn a3)])):=⟨by omega,fun x hx=>(am _ _ (by omega)).trans (g2.old x (by omega)),fun x hx=>(am _ _ (by omega)).trans (g2.new x hx)⟩
 have hsz:dp F (M2.set (c1+24) (fV [.s 0 0] 9 [.s 5 431416637230,sV (bn a3)])) c2 1 (.l (c1+24) 0 2 2) (fX [eB,bn a3]):=Ys (d:=[.s 0 0]) (ty:=9) (av _ _ _) (by omega) (fun e he=>by rw[fX]at he;obtain⟨x,_,rfl⟩:=List.mem_map.1 he;rfl) rfl
 have hil:=eV a3
 refine Cb ((r11 Φ h11 h13 h31 h12 h18 h30 h60 (gZ.ok ok) (hg.trans gZ) (hb.up gZ.le fun x hx=>gZ.old x hx) hsz (by rw[jv,jv,jv,show eB.length=5 from rfl];omega) htl).mono ?_)
 rintro v3 M3 c3 ⟨bb',hb3,g3,hle⟩
 refine⟨(g3.ok ok0).free,?_⟩
 rw[show bN [32] [eB,bn a3]=eB++32::bn a3 by simp[bN]]at hb3
 simp only[WX]
 exact hQ (G1 (X2 (G2 (G1 (ka (gu (eG (X8 (X1 []))))))))) _ _ bb' g3 hb3
theorem r5(Φ:Nat→Option CF)(h:Φ 5=some c5){L:List gk}(h14:Φ 14=some c14)(h32:Φ 32=some (.orc (ah h32)))(h15:Φ 15=some (.orc (bT L h15)))(h17:Φ 17=some (.orc (bT L h38)))(h16:Φ 16=some c16)(h37:Φ 37=some ZX)(h65:Φ 65=some (.orc (ah h65)))(h66:Φ 66=some (.orc (bT L h66)))(h67:Φ 67=some qN)(h11:Φ 11=some c11)(h13:Φ 13=some ZW)(h31:Φ 31=some Wi)(h12:Φ 12=some Wg)(h18:Φ 18=some Wh)(h30:Φ 30=some Ka)(h60:Φ 60=some Me){F:RO}{M:Mem}{c:Nat}{v:V}{bs:List UInt8}(ht:bE F L=true)(ok:dH F M c)(hs:nk F M c v bs)(hl:bs.length≤4000):
 Calls Φ F 5 [v] M c fun r M' c'=>r=sV (jk bs)∧Gr c M c' M':=by
 refine aq h ?_
 have hln:=hs.len
 have d0:decide ((8192:Int)<(bs.length:Int))=false:=ag (by omega)
 have hT:=fun h args M c=>dC ht h args M c
 have hll:=uA bs
 simp only[WX,e5,cF7,cG3,cG4,cG5,bo0,bo1,bo2,hln,d0]
 have g0:=(Gr.refl ok).set c (aw 41 [.p0,.l0]) (ak _) (bf _) (bD _)
 have hb0:ic (M.set c (aw 41 [.p0,.l0])) c (c+1) c (c+1) []:=⟨ak _,bf _,by omega,.p0,.l0,av _ _ _,.inl rfl,.inl ⟨rfl,rfl⟩⟩
 obtain⟨I,hI⟩:∃I:Nat→St→Prop,∀n s',I n s'↔(∃(k c1 bb:Nat) (v5:V) (M1:Mem) (l:List UInt8) (u:List (Option V)),n=bs.length-4*k∧4*k≤bs.length∧s'= .mk ((Cw u v (.p c 0) (.f 11 [] [.p c 0]) v5)) [] M1 c1∧Gr c M c1 M1∧ic M1 c c1 c bb l∧nk F M c v5 (bs.drop (4*k))∧jk bs=l++jk (bs.drop (4*k))):=⟨fun n s'=>_,fun _ _=>Iff.rfl⟩
 refine de I ?_ bs.length _ ((hI _ _).2 ⟨0,c+1,c+1,v,_,[],(G1 (X2 (G2 (G1 (ka (gu (eG (X8 (X1 []))))))))),rfl,aP _,rfl,g0,hb0,hs,rfl⟩)
 intro n s' hIs
 obtain⟨k,c1,bb,v5,M1,l,u,rfl,hk,rfl,hg,hb,h5,heq⟩:=(hI _ _).1 hIs
 clear hIs
 have ok1:=hg.ok ok
 have hgl:=hg.le
 have h5l:=h5.len
 have hl6:l.length≤1000000:=by
  have:=congrArg List.length heq;rw[aV]at this;omega
 by_cases hlt:4≤(bs.drop (4*k)).length
 ·have d1:decide ((4:Int)≤((bs.drop (4*k)).length:Int))=true:=af (by omega);rw[dv]at hlt;obtain⟨x0,x1,x2,x3,r,hr⟩:=Ih (l:=bs.drop (4*k)) (by rw[dv];exact hlt);have hdr:bs.drop (4*(k+1))=r:=by
   rw[show 4*(k+1)=4*k+4 by omega,←List.drop_drop,hr];rfl
  rw[hr]at h5 heq;rw[hr]at d1 h5l;rw[wa]at heq;obtain⟨v4,q4,hs4⟩:=h5.take 4 (by simp);obtain⟨v6,q6,hs6⟩:=h5.drop 4 (by simp);rw[show(x0::x1::x2::x3::r).take 4=[x0,x1,x2,x3]from rfl]at hs4;rw[show(x0::x1::x2::x3::r).drop 4=r from rfl]at hs6;rw[show((4:Nat):Int)=4 from rfl]at q4 q6;have fin:∀(u:List (Option V)) M' c' bb',Gr c M c' M'→ic M' c c' c bb' (l++(fT (w4 x0 x1 x2 x3)++[10]))→ ∀s',s'= .mk ((Cw u v (.p c 0) (.f 11 [] [.p c 0]) v6)) [] M' c'→ ∃m,m<bs.length-4*k∧I m s':=fun u M' c' bb' a1 a2 s' hs'=>
   ⟨bs.length-4*(k+1),by omega,(hI _ _).2 ⟨k+1,c',bb',v6,M',_,u,rfl,by omega,hs',a1,a2,by rw[hdr];exact hs6,by rw[hdr,heq];simp⟩⟩
  have h5l:BW v5=some (.i .i64 ((r.length+4:Nat):Int)):=h5l;have d1:decide ((4:Int)≤((r.length+4:Nat):Int))=true:=af (by omega);simp only[WX,bV7,bV8,cG6,Zm,h5l,d1,q4];refine aC ((r14 Φ h14 h32 ok1 (hs4.grow hg)).mono ?_);rintro v1 M2 c2 ⟨rfl,g2⟩;rw[Y3];have g2l:=g2.le;have hcc:=hb.2.1;by_cases hw:oZ (w4 x0 x1 x2 x3)
  ·rw[IM hw];have g3:=((hg.trans g2).set c2 (aw 51 [.i .i64 (lu (w4 x0 x1 x2 x3)),.i .i64 (dW (w4 x0 x1 x2 x3)),.i .i64 (aW (w4 x0 x1 x2 x3)),.i .i64 (bW (w4 x0 x1 x2 x3)),.i .i64 (iW (w4 x0 x1 x2 x3))]) (by omega) (bf _) (bD _))
   have hb3:=hb.up (show c1≤c2+1 by omega) (M':=M2.set c2 (aw 51 [.i .i64 (lu (w4 x0 x1 x2 x3)),.i .i64 (dW (w4 x0 x1 x2 x3)),.i .i64 (aW (w4 x0 x1 x2 x3)),.i .i64 (bW (w4 x0 x1 x2 x3)),.i .i64 (iW (w4 x0 x1 x2 x3))])) fun x hx=>(am _ _ (by omega)).trans (g2.old x hx);simp only[WX,Nat.reduceAdd,Nat.reduceLeDiff,bV9,Zl];rw[←AN];refine cX0 Φ h15 h11 h13 h31 h12 h18 h30 h60 ht (g3.ok ok) g3 hb3 hl6 hw (by omega) (bf _) (av _ _ _) (G1 (X2 (G4 (ka (gu (eG (X8 []))))))) _ ?_;intro u M' c' bb' a1 a2;simp only[WX,B5,q6];exact fin (G1 (X2 (G2 (G1 (ka (gu (eG (X8 (X1 []))))))))) M' c' bb' a1 a2 _ rfl
  ·rw[IP hw];have g3:=((hg.trans g2).set c2 (aw 51 [.i .i64 0,.i .i64 0,.i .i64 0,.i .i64 0,.i .i64 0]) (by omega) (bf _) (bD _))
   have hb3:=hb.up (show c1≤c2+1 by omega) (M':=M2.set c2 (aw 51 [.i .i64 0,.i .i64 0,.i .i64 0,.i .i64 0,.i .i64 0])) fun x hx=>(am _ _ (by omega)).trans (g2.old x hx);simp only[WX,Int.reduceEq,Nat.reduceAdd,Nat.reduceLeDiff,bV9,Zl];refine cX9 Φ h16 h37 h65 h66 h67 h11 h13 h31 h12 h18 h30 h60 ht ok g3 hb3 hl6 hw (h5.grow g3) (G1 (X2 (G2 (G1 (ka (gu (eG (X8 (X1 []))))))))) _ ?_;intro u M' c' bb' a1 a2;simp only[WX,B5,q6];exact fin (G1 (X2 (G2 (G1 (ka (gu (eG (X8 (X1 []))))))))) M' c' bb' a1 a2 _ rfl
 ·have d1:decide ((4:Int)≤((bs.drop (4*k)).length:Int))=false:=ag (by omega);rw[iQ (l:=bs.drop (4*k)) (by omega)]at heq;generalize bs.drop (4*k)=r at *;simp only[WX,bV7,bV8,Zm,bn2,bn9,h5l,d1];obtain⟨J,hJ⟩:∃J:Nat→St→Prop,∀n s',J n s'↔(∃(j c2 bb2:Nat) (M2:Mem) (l2:List UInt8) (u:List (Option V)),n=r.length-j∧j≤r.length∧s'= .mk ((cz7 u v (.p c 0) (.f 11 [] [.p c 0]) v5 (.i .i64 (r.length:Int)) (.i .i64 (j:Int)))) [] M2 c2∧Gr c M c2 M2∧ic M2 c c2 c bb2 l2∧jk bs=l2++(r.drop j).flatMap fun x=>dN x++[10]):=⟨fun n s'=>_,fun _ _=>Iff.rfl⟩
  refine de J ?_ r.length _ ((hJ _ _).2 ⟨0,c1,bb,M1,l,(G1 (X2 (G2 (gu (eG (X8 (X4 (G2 (G1 (gu (eG (X8 (X2 (X1 [])))))))))))))),rfl,aP _,rfl,hg,hb,heq⟩);intro n s' hJs;obtain⟨j,c2,bb2,M2,l2,u,rfl,hj,rfl,hg2,hb2,heq2⟩:=(hJ _ _).1 hJs;clear hJs;have ok2:=hg2.ok ok;have hcc:=hb2.2.1;have hl7:l2.length≤1000000:=by
   have:=congrArg List.length heq2;rw[aV]at this;omega
  by_cases hjl:j<r.length
  ·have d2:decide ((j:Int)<(r.length:Int))=true:=af (by omega);obtain⟨b0,o0,hb0,i0,r0⟩:=nk.get (dp.grow h5 hg2) j hjl;have i0:=i0 .i64;have hx:=UInt8.toNat_lt r[j];have r0:load1 F M2 b0 o0=some (.i .u8 (r[j].toNat:Int)):=r0;have hlen2:r[j].toNat<10000000:=by omega
   have q1:Ev.h38 [.i .i64 (r[j].toNat:Int)]=some (sV (bn r[j].toNat)):=mh (by omega) (by omega);have wr:IntKind.i64.wrap (r[j].toNat:Int)=(r[j].toNat:Int):=eC (by omega) (by omega)
   have hdj:(r.drop j).flatMap (fun x=>dN x++[10])=(eu++32::bn r[j].toNat)++[10]++(r.drop (j+1)).flatMap fun x=>dN x++[10]:=by
    rw[l6 hjl,List.flatMap_cons];rfl
   rw[hdj]at heq2;have fS:flatten (sV (bn r[j].toNat))=[sV (bn r[j].toNat)]:=rfl;have aS:cU (sV (bn r[j].toNat))=true:=rfl;have hil:=eV r[j].toNat;generalize r[j].toNat=z at *;have g3:=(Gr.refl ok2).set c2 (fV [.s 0 0] 9 [.s 5 435745808942,sV (bn z)]) (ak _) (bf _) (bD _);have hsz:dp F (M2.set c2 (fV [.s 0 0] 9 [.s 5 435745808942,sV (bn z)])) (c2+1) 1 (.l c2 0 2 2) (fX [eu,bn z]):=Ys (d:=[.s 0 0]) (ty:=9) (av _ _ _) (by omega) (fun e he=>by rw[fX]at he;obtain⟨x,_,rfl⟩:=List.mem_map.1 he;rfl) rfl;have q8:aK .add (.i .i64 (j:Int)) (.i .i64 1)=some (.i .i64 ((j+1:Nat):Int)):=by rw[bH _ _ (by omega) (by omega)];simp
   simp only[WX,Nat.reduceAdd,bn3,bn4,bn5,bn6,bn8,d2,i0,r0,wr,h17,hT,q1,fS,aS];refine aC ((r11 Φ h11 h13 h31 h12 h18 h30 h60 (g3.ok ok2) (hg2.trans g3) (hb2.up (by omega) fun x hx=>g3.old x hx) hsz (by rw[jv,jv,jv,show eu.length=5 from rfl];omega) hl7).mono ?_);rintro v3 M3 c3 ⟨bb3,hb3,g3,hle⟩;rw[show bN [32] [eu,bn z]=eu++32::bn z by simp[bN]]at hb3;simp only[WX,bn7,q8];exact⟨r.length-(j+1),by omega,(hJ _ _).2 ⟨j+1,c3,bb3,M3,_,(G1 (X2 (G2 (gu (eG (X8 (X4 (G2 (G1 (gu (eG (X8 (X2 (X1 [])))))))))))))),rfl,hjl,rfl,g3,hb3,by rw[heq2];simp⟩⟩
  ·have d2:decide ((j:Int)<(r.length:Int))=false:=ag (by omega);rw[List.drop_eq_nil_of_le (by omega),List.flatMap_nil,dw]at heq2;rw[heq2];simp only[WX,B5,d2];refine aC ((r18 Φ h18 ok2 hg2 hb2 (by omega)).mono ?_);rintro v3 M3 c3 ⟨rfl,g3,_,_⟩;simp only[WX];exact g3
end
end Go.Proofs.YtmjeiphepinphaaGreatDoor.Ev
