/- What is proved here: pieces of the evaluator's soundness: if the evaluator comes to a value, the model's run comes to it, for every world and tape; no conditions beyond the hypotheses of each theorem. -/
import Derived.Test.YtmbpllipombieaaDoorEv10
set_option linter.unusedSimpArgs false
set_option linter.unusedVariables false
set_option linter.defProp false
set_option maxRecDepth 10000
set_option maxHeartbeats 16000000
namespace Go.Proofs.YtmbpllipombieaaDoor.Ev
open Go
noncomputable section
theorem tG{α:Type}(f:α→Nat):∀{l:List α} {x:α},x∈l→f x≤(l.map f).sum
 |[],_,h=>by cases h
 |a::l,x,h=>by
  rw[List.map_cons,List.sum_cons];rcases bh.1 h with rfl|h
  ·omega
  ·have:=tG f h;omega
theorem V6:∀(w:List Pc),(cw w).length≤2*w.length+mzT w
 |[]=>ax _
 |p::w=>by
  have:=V6 w;have:=SA p;show(lz p++cw w).length≤_;unfold mzT at *;rw[List.map_cons,List.sum_cons,aG,av];omega
theorem yU(w:List Pc):(cw w).length≤2*tO w:=by have:=V6 w;unfold tO;omega
theorem UY:∀(c:List (List Pc)),dq (c.map cw)≤2*zk c∧ ∀m,(ga m c).length≤2*zk c
 |[]=>⟨ax _,fun _=>ax _⟩
 |w::c=>by
  obtain⟨h1,h2⟩:=UY c;have h3:=yU w;have e:zk (w::c)=1+tO w+zk c:=by unfold zk;rw[List.map_cons,List.sum_cons,av];omega
  rw[e];refine⟨by rw[List.map_cons,dq];omega,fun m=>?_⟩;have:=h2 (m+1);rw[ga,aG,aG];split
  ·simp only[av,aM];omega
  ·simp only[aM];omega
theorem R5(inp:List Pc):∀(cl:List eF) (k:Nat),dq (gI inp k cl)≤(if k=0 then 2*tO inp+3 else 0)+(2*(cl.map zk).sum+2*cl.length)∧(iY inp k cl).length≤(if k=0 then 2*tO inp+3 else 0)+(2*(cl.map zk).sum+3*cl.length)
 |[],k=>⟨ax _,ax _⟩
 |c::cl,k=>by
  obtain⟨h1,h2⟩:=R5 inp cl (k+1);rw[ab (by omega)]at h1 h2;obtain⟨g1,g2⟩:=UY c;have g2:=g2 0;have h3:=yU inp;rw[gI,iY,bH,bH,bH,aG,aG,aG,List.map_cons,List.sum_cons,av];by_cases hk:k=0
  ·subst hk;rw[ab (show¬(0<0) by omega),ab (show¬(0<0) by omega),ac rfl];refine⟨?_,?_⟩
   ·split
    ·simp only[dq,av,aM];omega
    ·simp only[dq];omega
   ·unfold WJ;split
    ·simp only[aG,av,aM];omega
    ·simp only[aM];omega
  ·rw[ac (show 0<k by omega),ac (show 0<k by omega),ab hk];unfold WJ;rw[ag hk,Bool.false_and,ab (by decide),ab (by decide)];simp only[dq,av,aM];omega
theorem aU9(b:Bool)(w:List Pc):dq (jD b w)≤2*tO w+4∧(lu b w).length≤2*tO w+4:=by
 have h:=yU w
 unfold jD lu
 refine⟨?_,?_⟩
 ·split
  ·simp only[dq,av,aM];omega
  ·split
   ·simp only[dq,av,aM];omega
   ·exact ax _
 ·split
  ·rw[aG];split<;>simp only[av,aM]<;>omega
  ·exact ax _
theorem aV5(p:dD):dq (ra p)≤3*HS p+9∧(wt p).length≤3*HS p+9:=by
 obtain⟨h1,h2⟩:=R5 p.inp p.cmds 0
 obtain⟨h3,h4⟩:=aU9 p.beh p.out
 rw[ac rfl]at h1 h2
 unfold ra wt HS
 rw[bH,bH,aG,aG]
 refine⟨?_,?_⟩
 ·split
  ·simp only[dq,av,aM];omega
  ·simp only[dq];omega
 ·split
  ·simp only[av,aM];omega
  ·simp only[aM];omega
theorem aK0:∀(l:List dD),dq (kZ l)≤13*S8 l∧ ∀i,(rt i l).length≤13*S8 l
 |[]=>⟨ax _,fun _=>ax _⟩
 |p::l=>by
  obtain⟨h1,h2⟩:=aK0 l;obtain⟨h3,h4⟩:=aV5 p;have h5:=Sw p;have e:S8 (p::l)=1+HS p+S8 l:=by unfold S8;rw[List.map_cons,List.sum_cons,av];omega
  rw[e];refine⟨by rw[kZ,bH];omega,fun i=>?_⟩;have:=UZ i p l;have:=h2 (i+1);omega
def Few(l:List dD):Prop:=(∀p∈l,GM p)∧dq (kZ l)≤1000000∧(rt 0 l).length≤1000000∧l.length≤900000∧ ∀p∈l,p.inp.length≤900000∧p.out.length≤900000∧p.cmds.length≤900000∧ ∀x∈p.cmds,x.length≤900000∧ ∀w∈x,w.length≤900000
theorem aR8{l:List dD}(h:S8 l≤9000):Few l:=by
 obtain⟨h1,h2⟩:=aK0 l
 have h2:=h2 0
 have hl:l.length≤S8 l:=by unfold S8;omega
 have hp:∀p∈l,HS p≤9000:=fun p hp=>by have:=tG HS hp;unfold S8 at h;omega
 have hw:∀(w:List Pc) (p:Pc),p∈w→p.1.length≤tO w:=fun w p hp=>by have:=tG (fun p:Pc=>p.1.length) hp;unfold tO mzT;omega
 have hc:∀p∈l,∀x∈p.cmds,zk x≤9000:=fun p hpl x hx=>by have:=tG zk hx;have:=hp p hpl;unfold HS at this;omega
 have hx:∀p∈l,∀x∈p.cmds,∀w∈x,tO w≤9000:=fun p hpl x hxl w hwl=>by have:=tG tO hwl;have:=hc p hpl x hxl;unfold zk at this;omega
 have hwl:∀w:List Pc,w.length≤tO w:=fun w=>Nat.le_add_right _ _
 have hio:∀p∈l,tO p.inp≤9000∧tO p.out≤9000∧p.cmds.length≤9000:=fun p hpl=>by have:=hp p hpl;unfold HS at this;omega
 refine⟨fun p hpl=>?_,by omega,by omega,by omega,fun p hpl=>?_⟩
 ·obtain⟨a,b,c⟩:=hio p hpl;refine⟨fun q hq=>?_,fun q hq=>?_,fun x hxl w hwl q hq=>?_,?_,?_⟩
  ·have:=hw _ _ hq;omega
  ·have:=hw _ _ hq;omega
  ·have:=hw _ _ hq;have:=hx p hpl x hxl w hwl;omega
  ·have:=hwl p.inp;omega
  ·have:=hwl p.out;omega
 ·obtain⟨a,b,c⟩:=hio p hpl;have h1:=hwl p.inp;have h2:=hwl p.out;refine⟨by omega,by omega,by omega,fun x hxl=>⟨?_,fun w hww=>?_⟩⟩
  ·have:=hc p hpl x hxl;unfold zk at this;omega
  ·have:=hx p hpl x hxl w hww;have:=hwl w;omega
def bt1:CC:=(.reg [(aa a1 (.bx 25 1 z0)),(qq a2 (.mv xF))])
def bt2:CC:=(.reg [(qq a9 (.ldn 1 z1)),(ee dT (.call 14 [z9,(x6 9000)]))])
def bt3:CC:=(.reg [(ee eP (.call 9 [])),(qq a2 (.mv dL))])
def bt4:CC:=(.seq bt2 (.cond ft (.seq bt3 .ret) .skip))
def bt5:CC:=(.reg [(qq fg (.ldn 1 z1)),(ee eQ (.call 15 [eN])),(aa a3 (.al 25 [.l0])),(ez (.st 1 z3 ed))])
def bt6:CC:=(.reg [(qq dM (.ldn 1 z3)),(ee fu (.call 16 [gK])),(qq fh (.mv iA)),(qq gL (.ex 0 gb)),(qq fy (.ex 1 gb)),(qq a4 (.mv iB)),(qq a5 (.mv iC))])
def bt7:CC:=(.reg [(qq jr (.ldn 1 z3)),(ee gH (.call 17 [l8])),(qq a6 (.mv la))])
def bt8:CC:=(.dreg 11 [(0,0,(qq fY (.ldn 1 z3))),(1,0,(qq jt (.ldn 1 z1))),(2,3,(ee gU (.call 12 [kL,lA]))),(3,7,(qq jX (.un .not lg))),(4,15,(qq gv (.mv kM))),(5,31,(aA kd (.mv z6) gv)),(7,31,(aA lE (.ldn 1 z1) gv)),(6,63,(lV gV (.call 13 [nl]) gv)),(8,255,(lV ip (.call 18 [nK]) gv)),(9,511,(aA ke (.bi .neq nn ot) gv)),(10,1023,(qq lj (.pk lB xT oz)))])
def bt9:CC:=(.seq (.reg [(qq a2 (.mv xF))]) .ret)
def ah0:CC:=(.seq bt8 (.cond pq bt9 .skip))
def ah1:CC:=(.reg [(qq np (.ldn 1 z1)),(ee nM (.call 18 [pz])),(qq jY (.bi .neq ru (x6 0)))])
def ah2:CC:=(.reg [(qq jZ (.mv z4)),(qq nN (.bi .eql rx (.c (.s 0 0)))),(qq k8 (.mv sC)),(aF nq (.mv z5) k8),(lW mN (.call 13 [rU]) k8),(aF pC (.bi .eql rV (x6 2)) k8),(qq js (.pk qF sD xF)),(qq lF (.mv ry)),(lW pD (.call 9 []) lF),(qq ng (.pk sE sF xF)),(qq a2 (.mv rW))])
def ah3:CC:=(.cond rv (.seq ah2 .ret) .skip)
def ah4:CC:=(.reg [(qq lG (.mv z4)),(ee pF (.call 10 [vm])),(qq pE (.mv sG)),(qq kQ (.ex 0 rX)),(qq nh (.ex 1 rX)),(aa a7 (.al 25 [.l0])),(ez (.st 1 z7 uE)),(qq a8 (.mv vn))])
def ah5:CC:=(.reg [(qq px (.mv z4)),(qq rA (.ldn 1 z1)),(ee oD (.call 19 [uM])),(qq sP (.bi .eql vp vq)),(qq pG (.mv wM)),(aF pH (.mv z5) pG),(lW uI (.call 13 [zl]) pG),(aF vw (.mv z8) pG),(lW vz (.call 13 [Bx]) pG),(aF rZ (.bi .add wN Bd) pG),(aF vA (.bi .eql Be (x6 0)) pG),(qq s5 (.pk za Bf xF)),(qq sQ (.mv Bz)),(aF ou (.ldn 1 z7) sQ),(aF vC (.ldn 1 z1) sQ),(lW uT (.call 12 [zm,BA]) sQ),(qq oE (.pk Bg zb xF)),(qq qJ (.mv zn)),(lW uU (.call 9 []) qJ),(qq uV (.pk wO zo xF)),(qq a2 (.mv zp))])
def ah6:CC:=(.seq ah0 (.seq (.seq ah1 ah3) (.seq ah4 (.seq ah5 .ret))))
def ah7:CC:=(.seq bt1 (.seq bt4 (.seq bt5 (.seq bt6 (.seq bt7 ah6)))))
def c4:CF:= .mk 7 [.t a2] ah7
theorem e4(v0:V):bz 7 [v0]=(.n vg (some v0) vg):=rfl
def B4:=ai @e4 (ai (wu bt1.eq_1) (ai (wu bt2.eq_1) (ai (wu bt3.eq_1) (ai (wu bt4.eq_1) (ai (wu bt5.eq_1) (ai (wu bt6.eq_1) (ai (wu bt7.eq_1) (ai (wu bt8.eq_1) (ai (wu bt9.eq_1) (ai (wu ah0.eq_1) (ai (wu ah1.eq_1) (ai (wu ah2.eq_1) (ai (wu ah3.eq_1) (ai (wu ah4.eq_1) (ai (wu ah5.eq_1) (ai (wu ah6.eq_1) (wu ah7.eq_1)))))))))))))))))
theorem l4(Φ:Nat→Option CF)(h:Φ 4=some c4){L:List ES}(h9:Φ 9=some (.orc (yf L)))(h14:Φ 14=some c14)(h37:Φ 37=some c37)(h15:Φ 15=some c15)(h38:Φ 38=some c38)(h16:Φ 16=some c16)(h12:Φ 12=some c12)(h22:Φ 22=some c22)(h13:Φ 13=some c13)(h10:Φ 10=some c10)(h28:Φ 28=some c28)(h56:Φ 56=some c56)(h74:Φ 74=some W6)(h29:Φ 29=some c29)(h30:Φ 30=some Vl)(h31:Φ 31=some Hc)(h32:Φ 32=some W4)(h17:Φ 17=some c17)(h40:Φ 40=some c40)(h63:Φ 63=some Vn)(h62:Φ 62=some IU)(h80:Φ 80=some IV)(h81:Φ 81=some IW)(h82:Φ 82=some QT)(h90:Φ 90=some IX)(h83:Φ 83=some Hd)(h61:Φ 61=some F5)(h39:Φ 39=some c39)(h33:Φ 33=some QQ)(h57:Φ 57=some zf)(h58:Φ 58=some Vm)(h59:Φ 59=some CR)(h60:Φ 60=some QS)(h79:Φ 79=some Vo)(h89:Φ 89=some QU)(h52:Φ 52=some zL)(h54:Φ 54=some zM)(h71:Φ 71=some xN)(h18:Φ 18=some c18)(h41:Φ 41=some c41)(h64:Φ 64=some c64)(h66:Φ 66=some c66)(h67:Φ 67=some c67)(h19:Φ 19=some c19)(h42:Φ 42=some W5)(h55:Φ 55=some (.orc (aO Ev.h55)))(h65:Φ 65=some (.orc (aO Ev.h65)))(h68:Φ 68=some (.orc (aO Ev.h75)))(h69:Φ 69=some (.orc (aO Ev.h78)))(h73:Φ 73=some (.orc (aO Ev.h73)))(h75:Φ 75=some (.orc (aO Ev.h75)))(h76:Φ 76=some (.orc (aO Ev.h88)))(h77:Φ 77=some (.orc (aO Ev.h77)))(h84:Φ 84=some (.orc (aO Ev.h84))){F:RO}{M:Mem}{c:Nat}(ok:cK F M c)(ht:fR F L=true){v:V}{l:List dD}(hl:iF F M c v l)(hB:l.length≤140737488351232∧ ∀p∈l,BdP p):
 Calls Φ F 4 [.g [v]] M c fun r _ _=>r= .b true:=by
 have hkn:=fun M c=>Do ht M c
 refine aN h ?_
 obtain⟨y1,y2,y3⟩:=hl.one
 have hG:∀v,flatten (V.g [v])=[v]:=fun _=>rfl
 have gX:=(Gr.refl ok).set c (af 25 [v]) (aj _) (ay _) (aH _)
 have mm:(M.set c (af 25 [v])).get c=some (af 25 [v]):=am _ _ _
 have k0:loadN F (M.set c (af 25 [v])) c 0 1=some [v]:=aY mm 1 rfl
 have BOX:∀(M:Mem) (c:Nat) (v:V),cK F M c→aL [v]=true→bS (M.set c (af 25 [.l0])) c 0 [v]=some (M.set c (af 25 [v]))∧Gr c M (c+1) (M.set c (af 25 [v])):=fun M c v ok h1=>⟨dS rfl h1,(Gr.refl ok).set c _ (aj _) (ay _) (aH _)⟩
 simp only[WX,B4,hG,y3,k0]
 generalize M.set c (af 25 [v])=X at gX k0 mm⊢
 have okX:=gX.ok ok
 have hlX:=hl.grow gX
 refine aD ((cg0 Φ h14 h37 okX hlX hB 9000 (by decide) (by decide)).mono ?_)
 rintro r M1 c1 ⟨⟨b,rfl,hb⟩,g1⟩
 have ok1:=g1.ok okX
 have i1:=g1.le
 cases b with
 |true=>simp only[WX,B4,h9,hkn]
 |false=>
  obtain⟨f1,f2,f3,f4,f5⟩:=aR8 (l:=l) (by have:=hb rfl;omega);clear hb hB;have gM1:=gX.trans g1;have k1:loadN F M1 c 0 1=some [v]:=aY ((g1.old _ (by omega)).trans mm) 1 rfl;simp only[WX,B4,k1];refine aD ((w15 Φ h15 h38 ok1 (hl.grow gM1) f4 f5).mono ?_);rintro r M2 c2 ⟨v2,rfl,g2,hL2⟩;have ok2:=g2.ok ok1;obtain⟨fY,jt,gU⟩:=hL2.one;obtain⟨s2,b2⟩:=BOX M2 c2 v2 ok2 gU;simp only[WX,Nat.reduceLeDiff,B4,hG,s2];have q2:=am M2 c2 (af 25 [v2]);generalize M2.set c2 (af 25 [v2])=N2 at b2 q2⊢;have okN2:=b2.ok ok2;have i2:=g2.le;have hL2N:=hL2.grow b2;have gN2:=(gM1.trans g2).trans b2;have kn2:loadN F N2 c2 0 1=some [v2]:=aY q2 1 rfl;refine aD ((w16 Φ h16 h17 h40 h63 h62 h80 h81 h82 h90 h83 h61 h39 h33 h57 h58 h59 h60 h79 h89 h77 h52 h54 h71 okN2 hL2N f1 f2).mono ?_);rintro r M3 c3 ⟨rfl,g3⟩;have ok3:=g3.ok okN2;have i3:=g3.le;have kn3:loadN F M3 c2 0 1=some [v2]:=aY ((g3.old _ (by omega)).trans q2) 1 rfl;obtain⟨tx,te,htx⟩:∃tx te,AW l= .t [tx,te]:=by unfold AW;split<;>exact⟨_,_,rfl⟩
  rw[htx];simp only[WX,B4,kn3];refine aD ((w17 Φ h17 h40 h63 h62 h80 h81 h82 h90 h83 h61 h39 h33 h57 h58 h59 h60 h79 h89 h77 h52 h54 h71 ok3 (hL2N.grow g3) f1 f2).mono ?_);rintro r M4 c4 ⟨rfl,g4⟩;have Bs:=g4.ok ok3;obtain⟨x,hx,hx0,hx2⟩:∃x:Int,R3 (t4 l)= .i .i64 x∧(t4 l=true→x=0)∧(t4 l=false→x=2):=⟨_,rfl,fun h=>by rw[h];rfl,fun h=>by rw[h];rfl⟩
  rw[hx];have i4:=g4.le;have kn4:loadN F M4 c2 0 1=some [v2]:=aY ((g4.old _ (by omega)).trans ((g3.old _ (by omega)).trans q2)) 1 rfl;have gM4:=(gN2.trans g3).trans g4;have k4:loadN F M4 c 0 1=some [v]:=aY (((((g3.trans g4).old _ (by omega)).trans (b2.old _ (by omega))).trans (g2.old _ (by omega))).trans ((g1.old _ (by omega)).trans mm)) 1 rfl;simp only[WX,Nat.reducePow,Nat.reduceDiv,Nat.reduceMod,Nat.reduceBEq,fW,B4,kn4,k4];have g11:Gr c4 M4 (c4+11) M4:=(Gr.refl Bs).up (by omega);have ok11:=g11.ok Bs;have hL4:=((hL2N.grow g3).grow g4).grow g11;have hl4:=(hl.grow gM4).grow g11;refine du ((w12 Φ h12 h22 ok11 hL4 hl4).mono ?_);rintro r M5 c5 ⟨rfl,g5⟩;have ok5:=g5.ok ok11;have i5:=g5.le;refine⟨ok5.free,?_⟩;have hdt:decide (l=l)=true:=ah rfl;have k5:loadN F M5 c 0 1=some [v]:=aY ((g5.old _ (by omega)).trans ((((g3.trans g4).old _ (by omega)).trans (b2.old _ (by omega))).trans ((g2.old _ (by omega)).trans ((g1.old _ (by omega)).trans mm)))) 1 rfl;rw[hdt];simp only[WX,k5];refine nJ _ _ _ _ _ _ _ _ _ _ _ ok5 ?_;intro F1 N1 okn hlk;refine(show lw (cT (iu Φ) F1 13 [.i .i64 x] N1 c5 (Φ 13)) _ from(w13 Φ h13 x).mono ?_);rintro r N2 c6 ⟨rfl,rfl,rfl⟩;refine⟨Gr.refl okn,fun M6 g6 hM6=>?_⟩;have ok6:=g6.ok ok5;simp only[WX,Nat.reducePow,Nat.reduceDiv,Nat.reduceMod,Nat.reduceBEq,fW];refine du ((w18 Φ h18 h41 h64 h69 h66 h65 h67 h84 h19 h42 h68 ok6 ((hl4.grow g5).grow g6) f1 f3).mono ?_);rintro r M7 c7 ⟨rfl,g7⟩;have ok7:=g7.ok ok6;have i7:=g7.le;refine⟨ok7.free,?_⟩;rw[F6,hx];have hne:decide (¬(x=x))=false:=ag (fun h=>h rfl);have g47:Gr c4 M4 c7 M7:=((g11.trans g5).trans g6).trans g7;have k7:loadN F M7 c 0 1=some [v]:=aY ((g47.old _ (by omega)).trans ((((g3.trans g4).old _ (by omega)).trans (b2.old _ (by omega))).trans ((g2.old _ (by omega)).trans ((g1.old _ (by omega)).trans mm)))) 1 rfl;have gM7:=gM4.trans g47;simp only[WX,B4,hne,k7];refine aD ((w18 Φ h18 h41 h64 h69 h66 h65 h67 h84 h19 h42 h68 ok7 (hl.grow gM7) f1 f3).mono ?_);rintro r M8 c8 ⟨rfl,g8⟩;have ok8:=g8.ok ok7;have i8:=g8.le;rw[F6,hx];cases hck:t4 l with
  |false=>
   obtain rfl:=hx2 hck;have et:AW l= .t [.s 0 0,.i .i64 2]:=by unfold AW;rw[ab (by rw[hck];decide)]
   rw[et]at htx;injection htx with htx
   injection htx with e1 htx
   injection htx with e2 htx
   subst e1;subst e2;have d20:decide (¬((2:Int)=0))=true:=rfl;have q0:cz .eql (.s 0 0) (.s 0 0)=some (.b true):=cG [] [];simp only[WX,B4,d20,q0];refine aD ((w13 Φ h13 2).mono ?_);rintro r M9 c9 ⟨rfl,rfl,rfl⟩;have d22:decide ((2:Int)=2)=true:=rfl;simp only[WX,h9,hkn]
  |true=>
   obtain rfl:=hx0 hck;have et:AW l= .t [sV (dA [32] (kZ l)),.i .i64 0]:=by unfold AW;rw[ac hck]
   rw[et]at htx;injection htx with htx
   injection htx with e1 htx
   injection htx with e2 htx
   subst e1;subst e2;have d00:decide (¬((0:Int)=0))=false:=ag (fun h=>h rfl);simp only[WX,B4,d00];refine aD ((r10 Φ h10 h28 h56 h55 h73 h75 h76 h74 h29 h30 h31 h32 h17 h40 h63 h62 h80 h81 h82 h90 h83 h61 h39 h33 h57 h58 h59 h60 h79 h89 h77 h52 h54 h71 ok8 (dA [32] (kZ l)) (fun h=>⟨(Sv h).1,(Sv h).2.1⟩)).mono ?_);rintro r M9 c9 hP9;unfold PsP at hP9;rw[Su hck]at hP9;obtain⟨v9,rfl,hL9,g9⟩:=hP9;have Sb:=g9.ok ok8;obtain⟨EV,EW,BM⟩:=(hL9 M9 fun _ _ _=>rfl).ln.one;obtain⟨s9,b9⟩:=BOX M9 c9 v9 Sb BM;have q9:=am M9 c9 (af 25 [v9]);have i9:=g9.le;have mc7:M7.get c=some (af 25 [v]):=(g47.old _ (by omega)).trans ((((g3.trans g4).old _ (by omega)).trans (b2.old _ (by omega))).trans ((g2.old _ (by omega)).trans ((g1.old _ (by omega)).trans mm)));have k9:loadN F (M9.set c9 (af 25 [v9])) c 0 1=some [v]:=aY ((b9.old _ (by omega)).trans ((g9.old _ (by omega)).trans ((g8.old _ (by omega)).trans mc7))) 1 rfl;have hpk:cd 0 l=true:=by
    have h:=hck;unfold t4 at h;rw[aC,aC,aC]at h;exact h.2.2.1
   have gN9:=((gM7.trans g8).trans g9).trans b9;have okN9:=b9.ok Sb;simp only[WX,B4,hG,s9,k9];have hL9':iF F M9 c9 v9 l:=((hL9 M9 fun _ _ _=>rfl).up (aj _) (aj _)).ln;generalize M9.set c9 (af 25 [v9])=N9 at b9 q9 k9 gN9 okN9⊢;refine aD ((w19 Φ h19 h42 h68 okN9 (hl.grow gN9) (iw l 0 hpk) f1 f3).mono ?_);rintro r M10 c10 ⟨rfl,g10⟩;have yk:=g10.ok okN9;have i10:=g10.le;rw[V1 hpk];have qs:cz .eql (sV (dA [32] (kZ l))) (sV (dA [32] (kZ l)))=some (.b true):=by rw[cG];simp
   simp only[WX,qs];refine aD ((w13 Φ h13 0).mono ?_);rintro r M11 c11 ⟨rfl,rfl,rfl⟩;simp only[WX];refine aD ((w13 Φ h13 0).mono ?_);rintro r M12 c12 ⟨rfl,rfl,rfl⟩;have k10:loadN F M12 c 0 1=some [v]:=aY ((g10.old _ (by omega)).trans ((b9.old _ (by omega)).trans ((g9.old _ (by omega)).trans ((g8.old _ (by omega)).trans mc7)))) 1 rfl;have k11:loadN F M12 c9 0 1=some [v9]:=aY ((g10.old _ (by omega)).trans q9) 1 rfl;have q00:cz .add (.i .i64 0) (.i .i64 0)=some (.i .i64 0):=rfl;have d0e:decide ((0:Int)=0)=true:=rfl;simp only[WX,q00,k10,k11];refine aD ((w12 Φ h12 h22 yk ((hL9'.grow b9).grow g10) (hl.grow (gN9.trans g10))).mono ?_);rintro r M13 c13 ⟨rfl,g13⟩;rw[hdt];simp only[WX,h9,hkn]
def yn:Ty:= .cons .str (.cons .bool .nil)
def qD:Ty:= .cons (.sl yn) .nil
def F8:Ty:= .cons (.sl qD) .nil
def ym:Ty:= .cons (.int .i64) (.cons .bool (.cons qD (.cons qD (.cons .bool (.cons (.sl F8) .nil)))))
def tK:Ty:= .cons (.sl ym) .nil
theorem aC6{F:RO}{M:Mem}{c:Nat}{e:Ty}{vs:List V}{x:List e.D}(h:Rp F M c (.sl e) vs x):∃v es,vs=[v]∧cA F M c e.size v es∧x.length≤Dy∧es.length=x.length∧ ∀i (h:i<es.length) (h':i<x.length),Rp F M c e es[i] x[i]:=by
 have key:∀l:List e.D,(∃v es,vs=[v]∧cA F M c e.size v es∧l.length≤Go.maxLen∧es.length=l.length∧ ∀i (h:i<es.length) (h':i<l.length),Rp F M c e es[i] l[i])→ ∃v es,vs=[v]∧cA F M c e.size v es∧l.length≤Dy∧es.length=l.length∧ ∀i (h:i<es.length) (h':i<l.length),Rp F M c e es[i] l[i]:=by
  rintro l ⟨v,es,h1,h2,h3,h4,h5⟩;have h3':l.length≤2^63-1:=h3;exact⟨v,es,h1,h2,by show l.length≤9223372036854775807;omega,h4,h5⟩
 exact key x h
theorem FZ{F:RO}{M:Mem}{c:Nat}{a b:Ty}{vs:List V}{x:(Ty.cons a b).D}(h:Rp F M c (.cons a b) vs x):∃v1 v2 x1 x2,vs=v1++v2∧Rp F M c a v1 x1∧Rp F M c b v2 x2:=by
 obtain⟨v1,v2,h1,h2,h3⟩:=h
 exact⟨v1,v2,_,_,h1,h2,h3⟩
theorem u7{F:RO}{M:Mem}{c:Nat}{vs:List V}{x:Ty.nil.D}(h:Rp F M c .nil vs x):vs=[]:=h
theorem Sq{F:RO}{M:Mem}{c:Nat}{vs:List V}{x:yn.D}(h:Rp F M c yn vs x):∃p:Pc,vs=ve p:=by
 obtain⟨v1,v2,x1,x2,rfl,h1,h2⟩:=FZ h
 obtain⟨v3,v4,x3,x4,rfl,h3,h4⟩:=FZ h2
 obtain rfl:=u7 h4
 have k1:∀l:List UInt8,(v1=[sV l]∧l.length≤Go.maxLen)→ ∃l:List UInt8,v1=[sV l]:=fun l h=>⟨l,h.1⟩
 obtain⟨l,rfl⟩:=k1 x1 h1
 have k2:∀b:Bool,v3=[.b b]→ ∃b:Bool,v3=[.b b]:=fun b h=>⟨b,h⟩
 obtain⟨b,rfl⟩:=k2 x3 h3
 exact⟨(l,b),rfl⟩
abbrev zB:Nat:=140737488351232
theorem aD3{e:Ty}{x:List e.D}(h:Sz zB (.sl e) x):x.length≤140737488351232∧ ∀y∈x,Sz zB e y:=h
theorem fQ{F:RO}{M:Mem}{c:Nat}{a b:Ty}{vs:List V}{x:(Ty.cons a b).D}(h:Rp F M c (.cons a b) vs x)(z:Sz zB (.cons a b) x):∃v1 v2 x1 x2,vs=v1++v2∧(Rp F M c a v1 x1∧Sz zB a x1)∧(Rp F M c b v2 x2∧Sz zB b x2):=by
 obtain⟨v1,v2,h1,h2,h3⟩:=h
 exact⟨v1,v2,_,_,h1,⟨h2,z.1⟩,⟨h3,z.2⟩⟩
theorem uz{F:RO}{M:Mem}{c:Nat}{vs:List V}{x:qD.D}(h:Rp F M c qD vs x)(z:Sz zB qD x):∃w,W1 F M c vs w∧w.length≤140737488351232:=by
 obtain⟨v1,v2,x1,x2,rfl,⟨h1,z1⟩,h2,_⟩:=fQ h z
 obtain rfl:=u7 h2
 obtain⟨v,es,rfl,hs,hl,he,hr⟩:=aC6 h1
 have hz:=(aD3 z1).1
 obtain⟨ps,hp1,hp2⟩:=yg (n:=es.length) (Q:=fun i p=>∀h:i<es.length,es[i]=ve p) (fun i hi=>by
  obtain⟨p,hp⟩:=Sq (hr i hi (by omega));exact⟨p,fun _=>hp⟩)
 have e:es=jm ps:=by
  refine List.ext_getElem (by rw[dv];omega) fun i h1 h2=>?_;rw[hp2 i (by rw[dv]at h2;exact h2) h1];simp[jm]
 subst e
 exact⟨ps,⟨v,rfl,hs,by rw[hp1,he];exact hl⟩,by rw[hp1,he];exact hz⟩
theorem Dx{α:Type}{F:RO}{R:Mem→Nat→List V→α→Prop}{T:α→Prop}{M:Mem}{c:Nat}{e:Ty}{vs:List V}{x:List e.D}(hR:∀(vs:List V) (y:e.D),Rp F M c e vs y→Sz zB e y→ ∃a,R M c vs a∧T a)(h:Rp F M c (.sl e) vs x)(z:Sz zB (.sl e) x):∃v l,vs=[v]∧cg F R e.size M c v l∧l.length≤140737488351232∧ ∀a∈l,T a:=by
 obtain⟨v,es,rfl,hs,hl,he,hr⟩:=aC6 h
 obtain⟨hz,hz2⟩:=aD3 z
 obtain⟨ps,hp1,hp2⟩:=yg (n:=es.length) (Q:=fun i p=>(∀h:i<es.length,R M c es[i] p)∧T p) (fun i hi=>by
  obtain⟨p,hp,ht⟩:=hR _ _ (hr i hi (by omega)) (hz2 _ (List.getElem_mem _));exact⟨p,fun _=>hp,ht⟩)
 refine⟨v,ps,rfl,⟨es,hs,by omega,by rw[hp1,he];exact hl,fun i h h'=>(hp2 i h').1 h⟩,by rw[hp1,he];exact hz,fun a ha=>?_⟩
 obtain⟨i,hi,rfl⟩:=List.getElem_of_mem ha
 exact(hp2 i hi).2
theorem Wh{F:RO}{M:Mem}{c:Nat}{vs:List V}{x:F8.D}(h:Rp F M c F8 vs x)(z:Sz zB F8 x):∃w,C1 F M c vs w∧BdC w:=by
 obtain⟨v1,v2,x1,x2,rfl,⟨h1,z1⟩,h2,_⟩:=fQ h z
 obtain rfl:=u7 h2
 obtain⟨v,l,rfl,hl,hn,ht⟩:=Dx (R:=W1 F) (T:=fun w=>w.length≤140737488351232) (fun vs y=>uz) h1 z1
 exact⟨l,⟨v,rfl,hl⟩,hn,ht⟩
theorem Sl{F:RO}{M:Mem}{c:Nat}{vs:List V}{x:ym.D}(h:Rp F M c ym vs x)(z:Sz zB ym x):∃p,P1 F M c vs p∧BdP p:=by
 obtain⟨v1,w1,x1,y1,rfl,⟨h1,z1⟩,k1,q1⟩:=fQ h z
 obtain⟨v2,w2,x2,y2,rfl,⟨h2,z2⟩,k2,q2⟩:=fQ k1 q1
 obtain⟨v3,w3,x3,y3,rfl,⟨h3,z3⟩,k3,q3⟩:=fQ k2 q2
 obtain⟨v4,w4,x4,y4,rfl,⟨h4,z4⟩,k4,q4⟩:=fQ k3 q3
 obtain⟨v5,w5,x5,y5,rfl,⟨h5,z5⟩,k5,q5⟩:=fQ k4 q4
 obtain⟨v6,w6,x6,y6,rfl,⟨h6,z6⟩,k6,q6⟩:=fQ k5 q5
 obtain rfl:=u7 k6
 obtain⟨j,rfl,_⟩:=aS7 h1
 have kb:∀(v:List V) (b:Bool),v=[.b b]→ ∃b:Bool,v=[.b b]:=fun v b h=>⟨b,h⟩
 obtain⟨nt,rfl⟩:=kb v2 x2 h2
 obtain⟨beh,rfl⟩:=kb v5 x5 h5
 obtain⟨wi,⟨vi,rfl,hi⟩,bi⟩:=uz h3 z3
 obtain⟨wo,⟨vo,rfl,ho⟩,bo⟩:=uz h4 z4
 obtain⟨vc,l,rfl,hl,hn,ht⟩:=Dx (R:=C1 F) (T:=BdC) (fun vs y=>Wh) h6 z6
 exact⟨⟨j,nt,wi,wo,beh,l⟩,⟨vi,vo,vc,rfl,hi,ho,hl⟩,bi,bo,hn,ht⟩
theorem S1{F:RO}{M:Mem}{c:Nat}{vs:List V}{x:tK.D}(h:Rp F M c tK vs x)(z:Sz zB tK x):∃v l,tK.arg vs= .g [v]∧iF F M c v l∧l.length≤140737488351232∧ ∀p∈l,BdP p:=by
 obtain⟨v1,v2,x1,x2,rfl,⟨h1,z1⟩,h2,_⟩:=fQ h z
 obtain rfl:=u7 h2
 obtain⟨v,l,rfl,hl,hn,ht⟩:=Dx (R:=P1 F) (T:=BdP) (fun vs y=>Sl) h1 z1
 exact⟨v,l,rfl,hl,hn,ht⟩
end
end Go.Proofs.YtmbpllipombieaaDoor.Ev
