/- What is proved here: pieces of the evaluator's soundness: if the evaluator comes to a value, the model's run comes to it, for every world and tape; no conditions beyond the hypotheses of each theorem. -/
import Derived.Test.YtmbpllipombieaaDoorEv7
set_option linter.unusedSimpArgs false
set_option linter.unusedVariables false
set_option linter.defProp false
set_option maxRecDepth 10000
set_option maxHeartbeats 16000000
namespace Go.Proofs.YtmbpllipombieaaDoor.Ev
open Go
noncomputable section
def P8(p:eB):Prop:=(∀q∈p.inp,q.1.length≤1000000)∧(∀q∈p.out,q.1.length≤1000000)∧(∀x∈p.cmds,Zn x)∧p.inp.length≤1000000∧p.out.length≤1000000
theorem Cr(w:List Pc):decide ((0:Int)<(w.length:Int))=hasW w:=by unfold hasW;congr 1;exact propext (by omega)
theorem Y4(n:Nat):decide ((n:Int)<1)=decide (n<1):=by congr 1;exact propext (by omega)
theorem aI9(n:Nat):decide ((6:Int)<(n:Int))=decide (6<n):=by congr 1;exact propext (by omega)
theorem w40(Φ:Nat→Option CF)(h:Φ 40=some Qm)(h63:Φ 63=some Lh)(h62:Φ 62=some Eg)(h80:Φ 80=some Eh)(h81:Φ 81=some Ei)(h82:Φ 82=some Ge)(h90:Φ 90=some Ej)(h83:Φ 83=some Ck)(h61:Φ 61=some zY)(h77:Φ 77=some (.orc (aN h77))){F:RO}{M:Mem}{c:Nat}(ok:cV F M c){e:List V}{p:eB}(hp:P1 F M c e p)(hs:P8 p):
 Calls Φ F 40 [.g e] M c fun r M' c'=>r= .b (nM p)∧Gr c M c' M':=by
 refine aI h ?_
 obtain⟨vi,vo,vc,rfl,hi,ho,hc⟩:=hp
 obtain⟨hsi,hso,hsc,_,_⟩:=hs
 obtain⟨y1,y2,_⟩:=hi.one
 obtain⟨z1,z2,_⟩:=ho.one
 obtain⟨x1,_,_⟩:=hc.one
 have hG:flatten (V.g [.i .i64 p.join,.b p.nt,vi,vo,.b p.beh,vc])=[.i .i64 p.join,.b p.nt,vi,vo,.b p.beh,vc]:=rfl
 have hA:aC [.i .i64 p.join,.b p.nt,vi,vo,.b p.beh,vc]=true:=by
  rw[aE,aE,aE,aE,aE,aE,ce,y1,z1,x1];rfl
 have gX:=(Gr.refl ok).set c (af 39 [.i .i64 p.join,.b p.nt,vi,vo,.b p.beh,vc]) (ag _) (aA _) (aP _)
 have m0:(M.set c (af 39 [.i .i64 p.join,.b p.nt,vi,vo,.b p.beh,vc])).get c=some (af 39 [.i .i64 p.join,.b p.nt,vi,vo,.b p.beh,vc]):=am _ _ _
 have hiX:=hi.grow gX
 have hoX:=ho.grow gX
 have hcX:=hc.grow gX
 have k2:load1 F (M.set c (af 39 [.i .i64 p.join,.b p.nt,vi,vo,.b p.beh,vc])) c 2=some vi:=aq m0 2
 have k3:load1 F (M.set c (af 39 [.i .i64 p.join,.b p.nt,vi,vo,.b p.beh,vc])) c 3=some vo:=aq m0 3
 have k4:load1 F (M.set c (af 39 [.i .i64 p.join,.b p.nt,vi,vo,.b p.beh,vc])) c 4=some (.b p.beh):=aq m0 4
 have k5:load1 F (M.set c (af 39 [.i .i64 p.join,.b p.nt,vi,vo,.b p.beh,vc])) c 5=some vc:=aq m0 5
 have okX:=gX.ok ok
 have hfr:=okX.free
 have ni:=hi.len
 have no:=ho.len
 have nc:=hc.len
 have di:=Cr p.inp
 have do':=Cr p.out
 have dl:=Y4 p.cmds.length
 have dg:=aI9 p.cmds.length
 have l2:loadN F (M.set c (af 39 [.i .i64 p.join,.b p.nt,vi,vo,.b p.beh,vc])) c 2 1=some [vi]:=d7 M c 2 1 39 [.i .i64 p.join,.b p.nt,vi,vo,.b p.beh,vc] (by simp)
 have l3:loadN F (M.set c (af 39 [.i .i64 p.join,.b p.nt,vi,vo,.b p.beh,vc])) c 3 1=some [vo]:=d7 M c 3 1 39 [.i .i64 p.join,.b p.nt,vi,vo,.b p.beh,vc] (by simp)
 have PO:nM p=(!decide (p.cmds.length<1)&&(!decide (6<p.cmds.length)&&(!(p.beh&& !hasW p.out)&&(!(hasW p.inp&& !eu p.inp)&&(!(hasW p.out&& !eu p.out)&&p.cmds.all (Cn p.cmds.length (hasW p.inp||hasW p.out))))))):=rfl
 have LAST:∀(M1:Mem) (c1:Nat) (u:List (Option V)),Gr (c+1) (M.set c (af 39 [.i .i64 p.join,.b p.nt,vi,vo,.b p.beh,vc])) c1 M1→nM p=p.cmds.all (Cn p.cmds.length (hasW p.inp||hasW p.out))→Wp uU (K Φ none 40 F) (.mk ((YE u (.p c 0) (.b (hasW p.inp)) (.b (hasW p.out)))) [] M1 c1) (lO F [.t (.r .h)] fun r M' c'=>r= .b (nM p)∧Gr c M c' M'):=by
  intro M1 c1 u g hpo;refine m40 Φ h63 h62 h80 h81 h82 h90 h83 h61 h77 (g.ok okX) (by have:=g.le;omega) (hcX.grow g) hsc ((g.load1 (aA _) 5).trans k5) (hasW p.inp) (hasW p.out) u _ ?_;intro u M2 c2 g2;simp only[WX];exact⟨by rw[hpo],gX.trans (g.trans g2)⟩
 have h0:aC [vi]=true∧aC [vo]=true:=⟨by rw[aE,ce,y1];rfl,by rw[aE,ce,z1];rfl⟩
 obtain⟨hA1,hA2⟩:=h0
 simp only[WX,Nat.reduceAdd,e40,YT,YU,YV,YW,hG,y1,z1,x1,Bool.and_self,k2,k3,k5,ni,no,nc]
 generalize M.set c (af 39 [.i .i64 p.join,.b p.nt,vi,vo,.b p.beh,vc])=X at gX m0 hiX hoX hcX k2 k3 k4 k5 okX hfr l2 l3 LAST⊢
 have gX0:=gX
 have gX:=gX.up (show c+1≤c+13 by omega)
 by_cases n1:p.cmds.length<1
 ·rw[aj n1]at dl PO;simp only[WX,pQ,di,do',dl];exact⟨by rw[PO];rfl,gX⟩
 rw[ak n1]at dl PO
 by_cases n6:6<p.cmds.length
 ·rw[aj n6]at dg PO;simp only[WX,pQ,k5,nc,di,do',dl,dg];exact⟨by rw[PO];rfl,gX⟩
 rw[ak n6]at dg PO
 generalize hasW p.inp=I at di PO LAST
 generalize hasW p.out=O at do' PO LAST
 generalize p.beh=B at k4 PO
 have hG1:∀v,flatten (V.g [v])=[v]:=fun _=>rfl
 have INP:∀(M1:Mem) (c1:Nat),Gr (c+1) X c1 M1→kc (cS (gV Φ) F 61 [.g [vi]] M1 c1 (Φ 61)) fun r M' c'=>r= .b (eu p.inp)∧Gr (c+1) X c' M':=fun M1 c1 g=>(w61 Φ h61 h77 (g.ok okX) (hiX.grow g) hsi).mono (by rintro r M2 c2 ⟨h1,h2⟩;exact⟨h1,g.trans h2⟩)
 have OUT:∀(M1:Mem) (c1:Nat),Gr (c+1) X c1 M1→kc (cS (gV Φ) F 61 [.g [vo]] M1 c1 (Φ 61)) fun r M' c'=>r= .b (eu p.out)∧Gr (c+1) X c' M':=fun M1 c1 g=>(w61 Φ h61 h77 (g.ok okX) (hoX.grow g) hso).mono (by rintro r M2 c2 ⟨h1,h2⟩;exact⟨h1,g.trans h2⟩)
 have gR:Gr (c+1) X (c+13) X:=(Gr.refl okX).up (by omega)
 have L3:∀(M1:Mem) (c1:Nat),Gr (c+1) X c1 M1→loadN F M1 c 3 1=some [vo]:=fun M1 c1 g=>(g.loadN (aA _) _ _).trans l3
 cases O with
 |false=>
  cases B with
  |true=>
   simp only[WX,pQ,k4,k5,nc,di,do',dl,dg];exact⟨by rw[PO];rfl,gX⟩
  |false=>
   cases I with
   |false=>
    simp only[WX,k4,k5,nc,di,do',dl,dg];exact LAST X _ (X1 (G1 (X1 (G2 (d9 (cP (cw (X8 (X2 []))))))))) gR (by rw[PO];rfl)
   |true=>
    simp only[WX,k4,k5,nc,di,do',dl,dg,l2];refine aw ((INP _ _ gR).mono ?_);rintro r M2 c2 ⟨rfl,g2⟩;cases hf:eu p.inp with
    |true=>
     rw[hf]at PO;simp only[WX];exact LAST M2 c2 (X1 (G1 (X1 (G2 (d9 (cP (cw (X8 (X2 []))))))))) g2 (by rw[PO];rfl)
    |false=>
     rw[hf]at PO;simp only[WX,pQ];exact⟨by rw[PO];rfl,gX0.trans g2⟩
 |true=>
  have PO:nM p=(!(I&& !eu p.inp)&&(!!eu p.out&&p.cmds.all (Cn p.cmds.length (I||true)))):=by rw[PO];cases B<;>rfl
  cases B
  all_goals
   cases I with
   |false=>
    simp only[WX,k4,k5,nc,di,do',dl,dg,l3];refine aw ((OUT _ _ gR).mono ?_);rintro r M2 c2 ⟨rfl,g2⟩;cases hf:eu p.out with
    |true=>
     rw[hf]at PO;simp only[WX];exact LAST M2 c2 (X1 (G1 (X1 (G2 (d9 (cP (cw (X8 (X2 []))))))))) g2 (by rw[PO];rfl)
    |false=>
     rw[hf]at PO;simp only[WX,pQ];exact⟨by rw[PO];rfl,gX0.trans g2⟩
   |true=>
    simp only[WX,k4,k5,nc,di,do',dl,dg,l2];refine aw ((INP _ _ gR).mono ?_);rintro r M2 c2 ⟨rfl,g2⟩;cases hf:eu p.inp with
    |true=>
     rw[hf]at PO;have l3':=L3 M2 c2 g2;simp only[WX,l3'];refine aw ((OUT _ _ g2).mono ?_);rintro r M3 c3 ⟨rfl,g3⟩;cases hf:eu p.out with
     |true=>
      rw[hf]at PO;simp only[WX];exact LAST M3 c3 (X1 (G1 (X1 (G2 (d9 (cP (cw (X8 (X2 []))))))))) g3 (by rw[PO];rfl)
     |false=>
      rw[hf]at PO;simp only[WX,pQ];exact⟨by rw[PO];rfl,gX0.trans g3⟩
    |false=>
     rw[hf]at PO;simp only[WX,pQ];exact⟨by rw[PO];rfl,gX0.trans g2⟩
abbrev aS7(u:List (Option V))(x1 x2 x6 x7 x8:V):T:=(.n (.n (.n (.n (dA u 15) (some x7) (dA u 23)) (uO u 3) (ec u 19 11 27)) (some x1) (aQ u 17 9 25 5 21 13 29)) (uO u 0) (.n (.n (.n (dA u 16) (some x8) (dA u 24)) (uO u 4) (ec u 20 12 28)) (some x2) (.n (ec u 18 10 26) (some x6) (ec u 22 14 30))))
def Uh:CC:=(.reg [(aa a0 (.al 76 [(.s 0 0),(.s 0 0),(.s 0 0),(.s 0 0)]))])
def Ui:CC:=(.reg [(qq a1 (.bld [(.s 0 0),(.s 0 0),(.s 0 0),(.s 0 0)] [(0,1,(.c (.s 0 0))),(1,1,(.c (.s 1 59))),(2,1,(.c (.s 2 9766))),(3,1,(.c (.s 2 31868)))])),(ez (.st 4 z0 z1))])
def Ga:CF:= .mk 2 [.cn a0 4] (.seq Uh (.seq Ui .ret))
theorem e33:bz 2 []=mL:=rfl
def B33:=ai @e33 (ai (wu Uh.eq_1) (wu Ui.eq_1))
def Vv:CC:=(.reg [(qq a3 (.ld1 z1)),(qq a4 (.mv z0)),(ee a5 (.app 9 1 16 z3 z4)),(ez (.st 1 z1 z5))])
def vd:CF:= .mk 3 [] Vv
theorem e57(v0 v1:V):bz 3 [v0,v1]=(.n (.n sk1 (some v1) sk1) (some v0) mL):=rfl
def B57:=ai @e57 (wu Vv.eq_1)
def Vw:CC:=(.reg [(qq a5 (.fa 0 z2)),(qq a6 (.ld1 z5)),(qq a7 (.ln .slice z6)),(qq a8 (.mv (x6 0)))])
def Vx:CC:=(.reg [(qq a9 (.bi .lss z8 z7))])
def Vy:CC:=(.reg [(qq dX (.iaS 1 z6 z8)),(qq fy (.ldn 1 gc)),(aa a4 (.al 36 [.l0])),(ez (.st 1 z4 eg))])
def Vz:CC:=(.dreg 5 [(0,0,(qq fR (.ld1 z1))),(1,0,(qq fc (.ldn 1 z4))),(2,2,(ee gQ (.call 59 [ey]))),(3,6,(aa eN (.bsl 9 1 1 [(.s 0 0)] [(0,iH)]))),(4,15,(ee iw (.cv eX [iq])))])
def VA:CC:=(.reg [(qq gk (.bi .add z8 (x6 1))),(qq a8 (.mv gH))])
def VB:CC:=(.seq (.cond z9 .skip (.exit 0)) (.seq (.block 1 (.seq Vy Vz)) VA))
def VD:CC:=(.seq (.reg [(aa a2 (.bx 42 1 z0))]) (.seq Vw (.block 0 (.loop (.seq Vx VB)))))
def Lg:CF:= .mk 5 [] VD
theorem e58(v0 v1:V):bz 5 [v0,v1]=(.n (.n iE (some v1) iE) (some v0) jY):=rfl
def B58:=ai @e58 (ai (wu Vw.eq_1) (ai (wu Vx.eq_1) (ai (wu Vy.eq_1) (ai (wu Vz.eq_1) (ai (wu VA.eq_1) (ai (wu VB.eq_1) (wu VD.eq_1)))))))
def sT:Nat→List UInt8
 |1=>[59]
 |2=>[38,38]
 |3=>[124,124]
 |_=>[]
def Mp:V:= .g [sV (sT 0),sV (sT 1),sV (sT 2),sV (sT 3)]
theorem w33(Φ:Nat→Option CF)(h:Φ 33=some Ga){F:RO}{M:Mem}{c:Nat}(ok:cV F M c):Calls Φ F 33 [] M c fun r M' c'=>r=Mp∧Gr c M c' M':=by
 refine aI h ?_
 have hG:flatten (V.g [V.s 0 0,.s 1 59,.s 2 9766,.s 2 31868])=[V.s 0 0,.s 1 59,.s 2 9766,.s 2 31868]:=rfl
 have sn:bK (M.set c (af 76 [V.s 0 0,.s 0 0,.s 0 0,.s 0 0])) c 0 [V.s 0 0,.s 1 59,.s 2 9766,.s 2 31868]=some (M.set c (af 76 [V.s 0 0,.s 1 59,.s 2 9766,.s 2 31868])):=eQ rfl rfl
 have ld:=bc (F:=F) (am M c (af 76 [V.s 0 0,.s 1 59,.s 2 9766,.s 2 31868])) 4 rfl
 have gX:=(Gr.refl ok).set c (af 76 [V.s 0 0,.s 1 59,.s 2 9766,.s 2 31868]) (ag _) (aA _) (aP _)
 simp only[WX,Nat.reduceAdd,Nat.reduceLeDiff,B33,hG,sn,ld]
 exact⟨rfl,gX⟩
structure od(M0:Mem)(c:Nat)(M1:Mem)(c1:Nat)(ws:List (List UInt8)):Prop where
 gr:Gr c M0 c1 M1
 hc:c+3≤c1
 m1:∃v b,M1.get (c+1)=some (af 69 [v])∧bm M1 (c+3) c1 b 9 1 v (gb ws)
 m2:M1.get (c+2)=some (af 105 [.f 57 [] [.p (c+1) 0]])
def Kp(c:Nat)(M1:Mem)(c1:Nat)(M2:Mem)(c2:Nat):Prop:=c1≤c2∧ ∀x ty l,x<c1→x≠c+1→ty≠9→M1.get x=some (af ty l)→M2.get x=some (af ty l)
theorem Kp.refl{c c1:Nat}{M1:Mem}:Kp c M1 c1 M1 c1:=⟨ag _,fun _ _ _ _ _ _ h=>h⟩
theorem Kp.trans{c c1 c2 c3:Nat}{M1 M2 M3:Mem}(h:Kp c M1 c1 M2 c2)(h2:Kp c M2 c2 M3 c3):Kp c M1 c1 M3 c3:=⟨bg h.1 h2.1,fun x ty l h1 h3 h4 h5=>h2.2 x ty l (Nat.lt_of_lt_of_le h1 h.1) h3 h4 (h.2 x ty l h1 h3 h4 h5)⟩
theorem Kp.of{c c1 c2:Nat}{M1 M2:Mem}(g:Gr c1 M1 c2 M2):Kp c M1 c1 M2 c2:=⟨g.le,fun x _ _ h1 _ _ h=>(g.old x h1).trans h⟩
theorem od.grow{M0 M1 M2:Mem}{c c1 c2:Nat}{ws:List (List UInt8)}(h:od M0 c M1 c1 ws)(g:Gr c1 M1 c2 M2):od M0 c M2 c2 ws:=by
 obtain⟨gr,hc,⟨v,b,h1,h2⟩,m2⟩:=h
 exact⟨⟨bg gr.le g.le,fun x hx=>(g.old x (by omega)).trans (gr.old x hx),g.new⟩,bg hc g.le,⟨v,b,(g.old _ (by omega)).trans h1,h2.gr g⟩,(g.old _ (by omega)).trans m2⟩
theorem NI(a b:List (List UInt8)):gb (a++b)=gb a++gb b:=List.map_append ..
theorem Sd(l:List (List UInt8)):aC (gb l).flatten=true:=by
 induction l with
 |nil=>rfl
 |cons w r ih=>show aC (sV w::(gb r).flatten)=true;rw[aE,ih];rfl
theorem RY{ty ty':Nat}{l l':List V}(h:ty≠ty'):qm ty l≠af ty' l':=by
 intro e;unfold qm af at e;injection e with e;exact h e
theorem w57(Φ:Nat→Option CF)(h:Φ 57=some vd){F:RO}{M0 M1:Mem}{c c1:Nat}{ws xs:List (List UInt8)}{vs:V}(hW:od M0 c M1 c1 ws)(hv:cq F M1 c1 1 vs (gb xs))(hz:dt (ws++xs)≤1000000):
 Calls Φ F 57 [vs,.p (c+1) 0] M1 c1 fun _ M' c'=>od M0 c M' c' (ws++xs)∧Kp c M1 c1 M' c':=by
 refine aI h ?_
 obtain⟨gr,hc,⟨v,b0,h1,h2⟩,m2⟩:=hW
 obtain⟨b,h2,hbk⟩:∃b,bm M1 (c+3) c1 b 9 1 v (gb ws)∧ ∀x ty l,x<c1→ty≠9→M1.get x=some (af ty l)→x≠b:=by
  rcases h2 with⟨a0,⟨a1,a2⟩|⟨a1,a2,a3,a4⟩⟩
  ·exact⟨c1,⟨a0,.inl ⟨a1,a2⟩⟩,fun x _ _ hx _ _=>by omega⟩
  ·refine⟨b0,⟨a0,.inr ⟨a1,a2,a3,a4⟩⟩,fun x ty l hx hty hm e=>?_⟩;subst e;rw[a4]at hm;exact RY (Ne.symm hty) (ae hm)
 have l1:load1 F M1 (c+1) 0=some v:=aq h1 0
 have gA:Gr (c+3) M1 c1 M1:=⟨hc,fun _ _=>rfl,gr.new⟩
 have hll:=vW (ws++xs)
 have hn:(gb ws).length+(gb xs).length≤1000000:=by
  rw[aF]at hll;unfold gb;rw[List.length_map,List.length_map];omega
 simp only[WX,B57,l1]
 refine aw ((jo (bytes:=16) h2 gA (by decide) hv (Sd xs) (gD (by omega) (by omega))).mono ?_)
 rintro v' M2 c2 ⟨b',hA,g2,hle,hfr,hb'⟩
 have w3:bF v'=true∧flatten v'=[v']∧aC [v']=true:=by
  rcases hA with⟨_,⟨_,rfl⟩|⟨_,_,rfl,_⟩⟩<;>exact⟨rfl,rfl,rfl⟩
 obtain⟨w1,w2,w3⟩:=w3
 have st:=aH ((g2.old (c+1) (by omega)).trans h1) 0 [v'] (by simp) w3
 simp only[WX,w2,st]
 refine⟨⟨⟨by have:=gr.le;omega,fun x hx=>by rw[ah _ _ (by omega)];exact(g2.old x (by omega)).trans (gr.old x hx),fun x hx=>by rw[ah _ _ (by omega)];exact g2.new x hx⟩,by omega,⟨v',b',am _ _ _,?_⟩,by rw[ah _ _ (by omega)];exact(g2.old _ (by omega)).trans m2⟩,hle,fun x ty l hx hn hty hm=>?_⟩
 ·rw[NI];exact kp hA (by omega)
 ·rw[ah _ _ hn,hfr x hx (hbk x ty l hx hty hm)];exact hm
theorem mM{F:RO}{M:Mem}{c b:Nat}(xs:List (List UInt8))(h:M.get b=some (dq [V.s 0 0] 9 (xs.map sV)))(hb:b<c):cq F M c 1 (.l b 0 xs.length xs.length) (gb xs):=by
 have e:(gb xs).flatten=xs.map sV:=by
  clear h
  induction xs with
  |nil=>rfl
  |cons w r ih=>show sV w::(gb r).flatten=_;rw[ih];rfl
 exact S4 (d:=[V.s 0 0]) (ty:=9) (by rw[h,e]) hb (fun e he=>by obtain⟨x,_,rfl⟩:=List.mem_map.1 he;rfl) (by unfold gb;rw[List.length_map])
theorem NL{a b c:List (List UInt8)}(h:dt (a++(b++c))≤1000000):dt (a++b)≤1000000:=by rw[bM]at *;rw[bM]at h;omega
theorem w58(Φ:Nat→Option CF)(h:Φ 58=some Lg)(h57:Φ 57=some vd)(h59:Φ 59=some yY)(h77:Φ 77=some (.orc (aN h77)))(h52:Φ 52=some wp)(h54:Φ 54=some wq)(h71:Φ 71=some tJ){F:RO}{M0 M1:Mem}{c c1:Nat}{ws:List (List UInt8)}(ok0:cV F M0 c)(hW:od M0 c M1 c1 ws){x:V}{l:fx}(hl:fC F M0 c x l)(hs:Zn l)(hz:dt (ws++l.map cN)≤1000000):
 Calls Φ F 58 [.g [x],.p (c+2) 0] M1 c1 fun _ M' c'=>od M0 c M' c' (ws++l.map cN)∧Kp c M1 c1 M' c':=by
 refine aI h ?_
 obtain⟨y1,y2,y3⟩:=hl.one
 have hG:∀v,flatten (V.g [v])=[v]:=fun _=>rfl
 have ok1:=hW.gr.ok ok0
 have gX:=(Gr.refl ok1).set c1 (af 42 [x]) (ag _) (aA _) (aP _)
 have k0:load1 F (M1.set c1 (af 42 [x])) c1 0=some x:=aq (am _ _ _) 0
 have n1:=hl.len
 have mx:=hl.max
 simp only[WX,B58,hG,y3,k0,n1]
 have hWX:=hW.grow gX
 have KX:Kp c M1 c1 (M1.set c1 (af 42 [x])) (c1+1):=Kp.of gX
 generalize M1.set c1 (af 42 [x])=X at gX hWX KX⊢
 clear k0
 obtain⟨I,hI⟩:∃I:Nat→St→Prop,∀n s',I n s'↔(∃(i c2:Nat) (M2:Mem) (u:List (Option V)),n=l.length-i∧i≤l.length∧s'= .mk ((aS7 u (.p (c+2) 0) (.p c1 0) x (.i .i64 (l.length:Int)) (.i .i64 (i:Int)))) [] M2 c2∧od M0 c M2 c2 (ws++(l.take i).map cN)∧Kp c M1 c1 M2 c2):=⟨fun n s'=>_,fun _ _=>Iff.rfl⟩
 refine bT I ?_ l.length _ ((hI _ _).2 ⟨0,_,_,(X1 (G2 (X2 (X1 (G2 (G1 (cw (X4 (X2 []))))))))),rfl,aB _,rfl,by simpa using hWX,KX⟩)
 intro n s' hIs
 obtain⟨i,c2,M2,u,rfl,hle,rfl,hW2,K2⟩:=(hI _ _).1 hIs
 clear hIs
 by_cases hlt:i<l.length
 ·have q8:du .add (.i .i64 (i:Int)) (.i .i64 1)=some (.i .i64 ((i+1:Nat):Int)):=by rw[bJ _ _ (by omega) (by omega)];simp
  have d1:decide ((i:Int)<(l.length:Int))=true:=aj (by omega);have ok2:=hW2.gr.ok ok0;obtain⟨b,o,y,hbx,ia,_,ld,hw⟩:=cE.at1 (hl.grow hW2.gr) i hlt;have ia:=ia .i64;have hw0:dO F M2 c2 y l[i]:=hw;have htk:(l.take (i+1)).map cN=(l.take i).map cN++[cN l[i]]:=by rw[List.take_succ_eq_append_getElem hlt,List.map_append];rfl
  have hz1:dt (ws++((l.take i).map cN++[cN l[i]]))≤1000000:=by
   rw[←htk];have e:=(List.take_append_drop (i+1) l)
   have:l.map cN=(l.take (i+1)).map cN++(l.drop (i+1)).map cN:=by rw[←List.map_append,e]
   rw[this]at hz;exact NL hz
  have hsi:=hs l[i] (List.getElem_mem _);generalize l[i]=w at hw0 htk hz1 hsi;rw[←bh]at hz1;have hwl:(cN w).length≤1000000:=by
   rw[bM]at hz1;simp only[dt]at hz1;omega
  obtain⟨z1,z2,z3⟩:=hw0.one;have gY:=(Gr.refl ok2).set c2 (af 36 [y]) (ag _) (aA _) (aP _);have sn:bK (M2.set c2 (af 36 [.l0])) c2 0 [y]=some (M2.set c2 (af 36 [y])):=eQ rfl z3;have kY:loadN F (M2.set c2 (af 36 [y])) c2 0 1=some [y]:=bc (am _ _ _) 1 rfl;have hWY:=hW2.grow gY;have KY:=K2.trans (Kp.of gY);generalize(l.take i).map cN=T at htk hz1 hW2 hWY;generalize hYe:M2.set c2 (af 36 [y])=Y at gY sn kY hWY KY;have okY:=gY.ok ok2;have hfr:=okY.free;have b2:load1 F Y (c+2) 0=some (.f 57 [] [.p (c+1) 0]):=aq hWY.m2 0;simp only[WX,Nat.reduceAdd,B58,d1,ia,ld,hG,sn,kY,b2];have g5:Gr (c2+1) Y (c2+6) Y:=(Gr.refl okY).up (by omega);have ok5:=g5.ok okY;have hwY:=(hw0.grow gY).grow g5;refine o9 _ _ _ _ _ _ _ _ _ _ _ ok5 ?_;intro F1 N1 okn hlk;refine(show kc (cS (gV Φ) F1 59 [.g [y]] N1 (c2+6) (Φ 59)) _ from(w59 Φ h59 h77 h52 h54 h71 okn (hwY.lk hlk) hsi hwl).mono ?_);rintro r M3 c3 ⟨rfl,g3⟩;refine⟨g3,fun M4 g4 _=>?_⟩;have hle3:=g4.le;have lk:(look F M4 (c2+4)).isNone=true:=by rw[cA (g4.old _ (by omega)),okY.look (by omega)];rfl
  have hc2:=hW2.hc;have rf:bN (c2+4) [(1,c2),(0,c+2)]=true:=by rw[bu _ _ _ _ (by omega),bu _ _ _ _ (by omega),cJ]
  have gZ:=(g5.trans g4).set (c2+4) (dq [V.s 0 0] 9 [sV (cN w)]) (by omega) (by omega) (ag _);have hF:flatten (sV (cN w))=[sV (cN w)]:=rfl;have hO:bF (sV (cN w))=true:=rfl;simp only[WX,Nat.reducePow,Nat.reduceDiv,Nat.reduceMod,Nat.reduceBEq,Nat.reduceAdd,lk,rf,w8,nN,sH,hF,hO];refine fm ((w57 Φ h57 (hWY.grow gZ) (mM [cN w] (am _ _ _) (by omega)) hz1).mono ?_);rintro _ M5 c5 ⟨hW5,K5⟩;refine⟨(hW5.gr.ok ok0).free,?_⟩;simp only[WX,B58,q8];exact⟨l.length-(i+1),by omega,(hI _ _).2 ⟨i+1,_,_,(X1 (G2 (X2 (X1 (G2 (G1 (cw (X4 (X2 []))))))))),rfl,hlt,rfl,by rw[htk,←bh];exact hW5,(KY.trans (Kp.of gZ)).trans K5⟩⟩
 ·obtain rfl:i=l.length:=by omega
  have d1:decide ((l.length:Int)<(l.length:Int))=false:=ak (by omega);rw[List.take_length]at hW2;simp only[WX,B58,d1];exact⟨hW2,K2⟩
abbrev kU(u:List (Option V))(x1 x3 x4 x5 x7 x13 x14 x15:V):T:=(.n (.n (.n (.n (.n (ec u 63 31 95) (some x15) (ec u 79 47 111)) (some x7) (aQ u 71 39 103 23 87 55 119)) (some x3) (.n (aQ u 67 35 99 19 83 51 115) (uO u 11) (aQ u 75 43 107 27 91 59 123))) (some x1) (.n (.n (aQ u 65 33 97 17 81 49 113) (uO u 9) (aQ u 73 41 105 25 89 57 121)) (some x5) (.n (aQ u 69 37 101 21 85 53 117) (some x13) (aQ u 77 45 109 29 93 61 125)))) (uO u 0) (.n (.n (.n (aQ u 64 32 96 16 80 48 112) (uO u 8) (aQ u 72 40 104 24 88 56 120)) (some x4) (.n (aQ u 68 36 100 20 84 52 116) (uO u 12) (aQ u 76 44 108 28 92 60 124))) (uO u 2) (.n (.n (aQ u 66 34 98 18 82 50 114) (uO u 10) (aQ u 74 42 106 26 90 58 122)) (uO u 6) (.n (aQ u 70 38 102 22 86 54 118) (some x14) (aQ u 78 46 110 30 94 62 126)))))
abbrev YG(u:List (Option V))(x1 x3 x4 x5 x7 x8 x13 x14 x15 x35 x36 x37:V):T:=(.n (.n (.n (.n (.n (ec u 63 31 95) (some x15) (ec u 79 47 111)) (some x7) (aQ u 71 39 103 23 87 55 119)) (some x3) (.n (.n (.n (dA u 67) (some x35) (dA u 99)) (uO u 19) (ec u 83 51 115)) (uO u 11) (aQ u 75 43 107 27 91 59 123))) (some x1) (.n (.n (aQ u 65 33 97 17 81 49 113) (uO u 9) (aQ u 73 41 105 25 89 57 121)) (some x5) (.n (.n (.n (dA u 69) (some x37) (dA u 101)) (uO u 21) (ec u 85 53 117)) (some x13) (aQ u 77 45 109 29 93 61 125)))) (uO u 0) (.n (.n (.n (aQ u 64 32 96 16 80 48 112) (some x8) (aQ u 72 40 104 24 88 56 120)) (some x4) (.n (.n (.n (dA u 68) (some x36) (dA u 100)) (uO u 20) (ec u 84 52 116)) (uO u 12) (aQ u 76 44 108 28 92 60 124))) (uO u 2) (.n (.n (aQ u 66 34 98 18 82 50 114) (uO u 10) (aQ u 74 42 106 26 90 58 122)) (uO u 6) (.n (aQ u 70 38 102 22 86 54 118) (some x14) (aQ u 78 46 110 30 94 62 126)))))
def Uj:CC:=(.reg [(aa a1 (.bx 25 1 z0)),(qq a2 (.mv (.c (.s 0 0))))])
def aW5:=wu Uj.eq_1
def Uk:CC:=(.reg [(qq dX (.mkf 57 [] [z3])),(aa a4 (.al 105 [.f0])),(ez (.st 1 z4 gc))])
def aW6:=wu Uk.eq_1
def Ul:CC:=(.reg [(qq fy (.mkf 58 [] [z4])),(qq a5 (.mv eg))])
def aW7:=wu Ul.eq_1
def Um:CC:=(.reg [(qq fR (.fa 0 z1)),(qq fc (.ld1 eX)),(qq gQ (.ln .slice ey)),(qq eN (.mv (x6 0)))])
def aW8:=wu Um.eq_1
def Un:CC:=(.reg [(qq iw (.bi .lss iq iH))])
def YR:=wu Un.eq_1
def Uo:CC:=(.reg [(qq gk (.iaS 6 ey iq)),(qq gS (.ldn 6 gH)),(aa a7 (.al 39 [(.i .i64 0),(.b false),.l0,.l0,(.b false),.l0])),(ez (.st 6 z7 ir))])
def YS:=wu Uo.eq_1
def Up:CC:=(.reg [(qq lj (.fa 0 z7)),(qq ke (.ld1 lQ)),(qq gT (.bi .gtr mR (x6 0)))])
def aW9:=wu Up.eq_1
def Uq:CC:=(.dreg 7 [(0,0,(qq lL (.ld1 z4))),(2,0,(qq kf (.fa 0 z7))),(3,4,(qq mS (.ld1 pf))),(1,0,(ee kl (.call 33 []))),(4,14,(qq mg (.ixA1 4 1 mW qQ))),(5,30,(aa iU (.bsl 9 1 1 [(.s 0 0)] [(0,qx)]))),(6,63,(ee mT (.cv og [qy])))])
def aX0:=wu Uq.eq_1
def It:CC:=(.seq Up (.cond oc Uq .skip))
def aX1:=wu It.eq_1
def I5:CC:=(.reg [(qq ll (.fa 1 z7)),(qq mh (.ld1 sN))])
def ao5:=wu I5.eq_1
def I6:CC:=(.reg [(qq mU (.ld1 z4)),(aa sQ (.bsl 9 1 1 [(.s 0 0)] [(0,(.c (.s 1 33)))])),(ee sR (.cv sZ [wy]))])
def ao6:=wu I6.eq_1
def zD:CC:=(.seq I5 (.cond sY I6 .skip))
def ao7:=wu zD.eq_1
def I7:CC:=(.reg [(qq qz (.fa 5 z7)),(qq lM (.ld1 wA)),(qq tA (.ln .slice we)),(qq pS (.mv (x6 0)))])
def O6:=wu I7.eq_1
def zE:CC:=(.reg [(qq mV (.bi .lss uz yO))])
def O7:=wu zE.eq_1
def I8:CC:=(.reg [(qq ou (.mv uz)),(qq tB (.iaS 1 we uz)),(qq t4 (.ldn 1 yP)),(aa a9 (.al 42 [.l0])),(qq a8 (.mv wB)),(ez (.st 1 z9 wg))])
def O8:=wu I8.eq_1
def I9:CC:=(.reg [(qq tC (.mv z8)),(qq tD (.bi .gtr yQ (x6 0)))])
def ao8:=wu I9.eq_1
def Ia:CC:=(.reg [(qq qX (.ld1 z4)),(aa uJ (.bsl 9 1 1 [(.s 0 0)] [(0,(.c (.s 1 124)))])),(ee ow (.cv wC [zc]))])
def ao9:=wu Ia.eq_1
def zF:CC:=(.seq I9 (.cond yR Ia .skip))
def ap0:=wu zF.eq_1
def Ib:CC:=(.reg [(qq uK (.mv z5)),(qq wh (.ldn 1 z9)),(ee wN (.cv zd [BS]))])
def O9:=wu Ib.eq_1
def Ic:CC:=(.reg [(qq wO (.mv z8)),(qq wj (.bi .eql FY (x6 0))),(qq sS (.mv BT)),(aW wP (.fa 2 z7) sS),(aW BZ (.fa 0 Gj) sS),(aW C0 (.ld1 Gk) sS),(aW zj (.ln .slice OQ) sS),(aW C2 (.bi .gtr G0 (x6 0)) sS),(qq C3 (.pk FZ Pl xF))])
def Oa:=wu Ic.eq_1
def zG:CC:=(.dreg 6 [(0,0,(qq wl (.ld1 z4))),(1,0,(qq C4 (.fa 2 z7))),(2,2,(qq wm (.ldn 1 OT))),(3,6,(ee wn (.call 59 [Pm]))),(4,14,(aa wo (.bsl 9 2 1 [(.s 0 0)] [(0,(.c (.s 1 60))),(1,OU)]))),(5,31,(ee C5 (.cv OS [Gl])))])
def ap1:=wu zG.eq_1
def Id:CC:=(.seq Ic (.cond OR zG .skip))
def Ob:=wu Id.eq_1
def Ie:CC:=(.reg [(qq zk (.bi .add uz (x6 1))),(qq pS (.mv G3))])
def ap2:=wu Ie.eq_1
def Ig:CC:=(.seq (.block 3 (.seq I8 (.seq zF (.seq Ib Id)))) Ie)
def Oc:=wu Ig.eq_1
def zH:CC:=(.seq (.cond wf .skip (.exit 2)) Ig)
def Od:=wu zH.eq_1
def Ih:CC:=(.reg [(qq uL (.fa 4 z7)),(qq zl (.ld1 Gn)),(qq qY (.mv Gp))])
def BD:=wu Ih.eq_1
def zI:CC:=(.dreg 6 [(0,0,(qq zm (.ld1 z4))),(1,0,(qq zn (.fa 3 z7))),(2,2,(qq wQ (.ldn 1 OV))),(3,6,(ee yW (.call 59 [G5]))),(4,14,(aa fA (.bsl 9 2 1 [(.s 0 0)] [(0,(.c (.s 2 15934))),(1,OW)]))),(5,31,(ee yX (.cv Gq [wD])))])
def ap3:=wu zI.eq_1
def Ii:CC:=(.reg [(qq C7 (.fa 3 z7)),(qq C8 (.fa 0 OZ)),(qq C9 (.ld1 P0)),(qq t5 (.ln .slice P2)),(qq DW (.bi .gtr P3 (x6 0))),(qq C6 (.mv Po))])
def Oe:=wu Ii.eq_1
def zJ:CC:=(.dreg 6 [(0,0,(qq DX (.ld1 z4))),(1,0,(qq qZ (.fa 3 z7))),(2,2,(qq wR (.ldn 1 Pq))),(3,6,(ee GA (.call 59 [Ps]))),(4,14,(aa GB (.bsl 9 2 1 [(.s 0 0)] [(0,(.c (.s 1 62))),(1,Pt)]))),(5,31,(ee GC (.cv Pp [Pu])))])
def ap4:=wu zJ.eq_1
def Ij:CC:=(.seq Ii (.cond OY zJ .skip))
def Of:=wu Ij.eq_1
def zK:CC:=(.seq Ih (.cond Gm zI Ij))
def BE:=wu zK.eq_1
def Il:CC:=(.seq (.seq I7 (.block 2 (.loop (.seq zE zH)))) (.block 4 zK))
def Og:=wu Il.eq_1
def Im:CC:=(.reg [(qq GD (.bi .add iq (x6 1))),(qq eN (.mv Pv))])
def Oh:=wu Im.eq_1
def Io:CC:=(.seq (.block 1 (.seq Uo (.seq It (.seq zD Il)))) Im)
def Oi:=wu Io.eq_1
def Ip:CC:=(.seq (.cond jP .skip (.exit 0)) Io)
def Oj:=wu Ip.eq_1
def Iq:CC:=(.reg [(qq wS (.ld1 z3)),(ee GE (.call 60 [Pw,(.c (.s 1 32))])),(qq a2 (.mv Px))])
def Ok:=wu Iq.eq_1
def Ir:CC:=(.seq (.seq Um (.block 0 (.loop (.seq Un Ip)))) (.seq Iq .ret))
def ap5:=wu Ir.eq_1
def Is:CC:=(.seq (.reg [(aa a3 (.al 69 [.l0]))]) (.seq Uk (.seq Ul Ir)))
def ap6:=wu Is.eq_1
def Ql:CF:= .mk 7 [.t a2] (.seq Uj Is)
theorem e39(v0:V):bz 7 [v0]=(.n FH (some v0) FH):=rfl
def wF:=ai @e39 (ai @aW5 (ai @aW6 (ai @aW7 (ai @aW8 (ai @YR (ai @YS (ai @aW9 (ai @aX0 (ai @aX1 (ai @ao5 (ai @ao6 (ai @ao7 (ai @O6 (ai @O7 (ai @O8 (ai @ao8 (ai @ao9 (ai @ap0 (ai @O9 (ai @Oa (ai @ap1 (ai @Ob (ai @ap2 (ai @Oc (ai @Od (ai @BD (ai @ap3 (ai @Oe (ai @ap4 (ai @Of (ai @BE (ai @Og (ai @Oh (ai @Oi (ai @Oj (ai @Ok (ai @ap5 (@ap6))))))))))))))))))))))))))))))))))))))
theorem QD{F:RO}(len sz:Nat)(x i:X)(M:Mem)(t:T):kh (.ixA1 len sz x i) F M t=oV (pF len sz (x.ev t) (i.ev t)):=by
 refine(eU ?_).trans (congrArg oV (O3 (F:=F) len sz x i M t))
 intro F' M'
 refine je ?_
 show((AG (x.ev t) QR.f fun cs=>nB len sz cs (pV (i.ev t)))= .f∨ ∃y,(AG (x.ev t) QR.f fun cs=>nB len sz cs (pV (i.ev t)))= .v y)
 cases x.ev t with
 |g cs=>
  show(nB len sz cs (pV (i.ev t))= .f∨ ∃y,nB len sz cs (pV (i.ev t))= .v y);cases pV (i.ev t)with
  |none=>exact .inl rfl
  |some m=>
   show((bif Nat.blt m len then qr (nF cs (Nat.mul m sz))else QR.f)= .f∨ ∃y,(bif Nat.blt m len then qr (nF cs (Nat.mul m sz))else QR.f)= .v y);cases Nat.blt m len with
   |false=>exact .inl rfl
   |true=>
    show(qr (nF cs (Nat.mul m sz))= .f∨ ∃y,qr (nF cs (Nat.mul m sz))= .v y);cases nF cs (Nat.mul m sz)with
    |none=>exact .inl rfl
    |some y=>exact .inr ⟨y,rfl⟩
 |_=>exact .inl rfl
def iY(inp:List Pc):Nat→List fx→List (List UInt8)
 |_,[]=>[]
 |k,c::r=>(if 0<k then[[124]]else[])++(c.map cN++((if(decide (k=0)&&hasW inp)=true then[[60],cN inp]else[])++iY inp (k+1) r))
def mD(beh:Bool)(out:List Pc):List (List UInt8):=if beh=true then[[62,62],cN out]else if hasW out=true then[[62],cN out]else[]
def MV(p:eB):List (List UInt8):=(if 0<p.join then[sT p.join.toNat]else[])++((if p.nt=true then[[33]]else[])++(iY p.inp 0 p.cmds++mD p.beh p.out))
def lP:List eB→List (List UInt8)
 |[]=>[]
 |p::r=>MV p++lP r
theorem b79(Φ:Nat→Option CF)(h33:Φ 33=some Ga)(h57:Φ 57=some vd){F:RO}{M0 M2:Mem}{c c2 pb N i:Nat}{cur:List (List UInt8)}{vl vi vo vc:V}{j:Int}{nt beh:Bool}(ok0:cV F M0 c)(hW:od M0 c M2 c2 cur)(mb:M2.get pb=some (af 39 [.i .i64 j,.b nt,vi,vo,.b beh,vc]))(hp1:c+3≤pb)(hp2:pb<c2)(hj0:0≤j)(hj3:j≤3)(hz:dt (cur++(if 0<j then[sT j.toNat]else[]))≤1000000)(u:List (Option V))(Q:Ex→St→Prop)
 (hQ:∀(u:List (Option V)) M' c',od M0 c M' c' (cur++(if 0<j then[sT j.toNat]else[]))→Kp c M2 c2 M' c'→Q .nrm (.mk ((kU u (.p c 0) (.p (c+1) 0) (.p (c+2) 0) (.f 58 [] [.p (c+2) 0]) (.p pb 0) vl (.i .i64 (N:Int)) (.i .i64 (i:Int)))) [] M' c')):
 Wp It (K Φ none 39 F) (.mk ((kU u (.p c 0) (.p (c+1) 0) (.p (c+2) 0) (.f 58 [] [.p (c+2) 0]) (.p pb 0) vl (.i .i64 (N:Int)) (.i .i64 (i:Int)))) [] M2 c2) Q:=by
 have ok2:=hW.gr.ok ok0
 have l0:load1 F M2 pb 0=some (.i .i64 j):=aq mb 0
 by_cases hj:0<j
 ·have dj:decide ((0:Int)<j)=true:=aj hj;rw[ac hj]at hz hQ;have b2:load1 F M2 (c+2) 0=some (.f 57 [] [.p (c+1) 0]):=aq hW.m2 0;have hfr:=ok2.free;simp only[WX,wF,l0,dj,b2,be];have g5:Gr c2 M2 (c2+7) M2:=(Gr.refl ok2).up (by omega);have ok5:=g5.ok ok2;refine o9 _ _ _ _ _ _ _ _ _ _ _ ok5 ?_;intro F1 N1 okn hlk;refine(show kc (cS (gV Φ) F1 33 [] N1 (c2+7) (Φ 33)) _ from(w33 Φ h33 okn).mono ?_);rintro r M3 c3 ⟨rfl,g3⟩;refine⟨g3,fun M4 g4 _=>?_⟩;have hle3:=g4.le;have lk:(look F M4 (c2+5)).isNone=true:=by rw[cA (g4.old _ (by omega)),ok2.look (by omega)];rfl
  have hc2:=hW.hc;have rf:bN (c2+5) [(3,pb),(0,c+2)]=true:=by rw[bu _ _ _ _ (by omega),bu _ _ _ _ (by omega),cJ]
  have gZ:=(g5.trans g4).set (c2+5) (dq [V.s 0 0] 9 [sV (sT j.toNat)]) (by omega) (by omega) (ag _);have hF:flatten (sV (sT j.toNat))=[sV (sT j.toNat)]:=rfl;have hO:bF (sV (sT j.toNat))=true:=rfl;have hix:pF 4 1 Mp (.i .i64 j)=some (sV (sT j.toNat)):=by
   unfold Mp;rw[oI,ac ⟨by omega,by omega⟩];have:j=1∨j=2∨j=3:=by omega
   rcases this with rfl|rfl|rfl<;>rfl
  simp only[WX,Nat.reducePow,Nat.reduceDiv,Nat.reduceMod,Nat.reduceBEq,lk,rf,w8,nN,sH,hF,hO,QD,hix];refine fm ((w57 Φ h57 (hW.grow gZ) (mM [sT j.toNat] (am _ _ _) (by omega)) hz).mono ?_);rintro _ M5 c5 ⟨hW5,K5⟩;refine⟨(hW5.gr.ok ok0).free,?_⟩;simp only[WX];exact hQ (X1 (G1 (X1 (G2 (G1 (X1 (G1 (X4 (X1 (G2 (G1 (d9 (cP (X8 (X4 (X2 (X1 []))))))))))))))))) _ _ hW5 ((Kp.of gZ).trans K5)
 ·have dj:decide ((0:Int)<j)=false:=ak hj;rw[ab hj,bQ]at hQ;simp only[WX,wF,l0,dj,be];exact hQ (X1 (G1 (X1 (G2 (G1 (X1 (G1 (X4 (X1 (G2 (G1 (d9 (cP (X8 (X4 (X2 (X1 []))))))))))))))))) _ _ hW Kp.refl
theorem b80(Φ:Nat→Option CF)(h57:Φ 57=some vd){F:RO}{M0 M2:Mem}{c c2 pb N i:Nat}{cur:List (List UInt8)}{vl vi vo vc:V}{j:Int}{nt beh:Bool}(ok0:cV F M0 c)(hW:od M0 c M2 c2 cur)(mb:M2.get pb=some (af 39 [.i .i64 j,.b nt,vi,vo,.b beh,vc]))(hz:dt (cur++(if nt=true then[[33]]else[]))≤1000000)(u:List (Option V))(Q:Ex→St→Prop)
 (hQ:∀(u:List (Option V)) M' c',od M0 c M' c' (cur++(if nt=true then[[33]]else[]))→Kp c M2 c2 M' c'→Q .nrm (.mk ((kU u (.p c 0) (.p (c+1) 0) (.p (c+2) 0) (.f 58 [] [.p (c+2) 0]) (.p pb 0) vl (.i .i64 (N:Int)) (.i .i64 (i:Int)))) [] M' c')):
 Wp zD (K Φ none 39 F) (.mk ((kU u (.p c 0) (.p (c+1) 0) (.p (c+2) 0) (.f 58 [] [.p (c+2) 0]) (.p pb 0) vl (.i .i64 (N:Int)) (.i .i64 (i:Int)))) [] M2 c2) Q:=by
 have ok2:=hW.gr.ok ok0
 have l1:load1 F M2 pb 1=some (.b nt):=aq mb 1
 cases nt with
 |true=>
  rw[ac rfl]at hz hQ;have b2:load1 F M2 (c+2) 0=some (.f 57 [] [.p (c+1) 0]):=aq hW.m2 0;have gZ:=(Gr.refl ok2).set c2 (dq [V.s 0 0] 9 [sV [33]]) (ag _) (aA _) (aP _);simp only[WX,wF,l1,b2];refine aw ((w57 Φ h57 (hW.grow gZ) (mM [[33]] (am _ _ _) (aA _)) hz).mono ?_);rintro _ M5 c5 ⟨hW5,K5⟩;simp only[WX];exact hQ (X1 (G1 (X1 (G2 (G1 (X1 (G1 (X4 (X1 (G2 (G1 (d9 (cP (X8 (X4 (X2 (X1 []))))))))))))))))) _ _ hW5 ((Kp.of gZ).trans K5)
 |false=>
  rw[ab (by simp),bQ]at hQ;simp only[WX,wF,l1];exact hQ (X1 (G1 (X1 (G2 (G1 (X1 (G1 (X4 (X1 (G2 (G1 (d9 (cP (X8 (X4 (X2 (X1 []))))))))))))))))) _ _ hW Kp.refl
theorem b78(Φ:Nat→Option CF)(h57:Φ 57=some vd)(h59:Φ 59=some yY)(h77:Φ 77=some (.orc (aN h77)))(h52:Φ 52=some wp)(h54:Φ 54=some wq)(h71:Φ 71=some tJ){F:RO}{M0 M2:Mem}{c c2 pb N i k n:Nat}{cur:List (List UInt8)}{vl vi vo vc:V}{j:Int}{nt beh:Bool}{w:List Pc}(ok0:cV F M0 c)(hW:od M0 c M2 c2 cur)(mb:M2.get pb=some (af 39 [.i .i64 j,.b nt,vi,vo,.b beh,vc]))(hp1:c+3≤pb)(hp2:pb<c2)(hw:dO F M0 c vi w)(hs:∀q∈w,q.1.length≤1000000)(hz:dt (cur++[[60],cN w])≤1000000)(u:List (Option V))(Q:Ex→St→Prop)
 (hQ:∀(u:List (Option V)) M' c',od M0 c M' c' (cur++[[60],cN w])→Kp c M2 c2 M' c'→Q .nrm (.mk ((YG u (.p c 0) (.p (c+1) 0) (.p (c+2) 0) (.f 58 [] [.p (c+2) 0]) (.p pb 0) (.i .i64 (k:Int)) vl (.i .i64 (N:Int)) (.i .i64 (i:Int)) vc (.i .i64 (n:Int)) (.i .i64 (k:Int)))) [] M' c')):
 Wp zG (K Φ none 39 F) (.mk ((YG u (.p c 0) (.p (c+1) 0) (.p (c+2) 0) (.f 58 [] [.p (c+2) 0]) (.p pb 0) (.i .i64 (k:Int)) vl (.i .i64 (N:Int)) (.i .i64 (i:Int)) vc (.i .i64 (n:Int)) (.i .i64 (k:Int)))) [] M2 c2) Q:=by
 have ok2:=hW.gr.ok ok0
 obtain⟨z1,z2,z3⟩:=hw.one
 have hG:∀v,flatten (V.g [v])=[v]:=fun _=>rfl
 have lf:loadN F M2 pb 2 1=some [vi]:=by rw[d8 mb,d7 _ _ _ _ _ _ (by simp)];rfl
 have b2:load1 F M2 (c+2) 0=some (.f 57 [] [.p (c+1) 0]):=aq hW.m2 0
 have hfr:=ok2.free
 simp only[WX,wF,lf,b2]
 have g5:Gr c2 M2 (c2+6) M2:=(Gr.refl ok2).up (by omega)
 have ok5:=g5.ok ok2
 have hwl:(cN w).length≤1000000:=by
  rw[bM]at hz;simp only[dt]at hz;omega
 refine o9 _ _ _ _ _ _ _ _ _ _ _ ok5 ?_
 intro F1 N1 okn hlk
 refine(show kc (cS (gV Φ) F1 59 [.g [vi]] N1 (c2+6) (Φ 59)) _ from(w59 Φ h59 h77 h52 h54 h71 okn (((hw.grow hW.gr).grow g5).lk hlk) hs hwl).mono ?_)
 rintro r M3 c3 ⟨rfl,g3⟩
 refine⟨g3,fun M4 g4 _=>?_⟩
 have hle3:=g4.le
 have lk:(look F M4 (c2+4)).isNone=true:=by rw[cA (g4.old _ (by omega)),ok2.look (by omega)];rfl
 have hc2:=hW.hc
 have rf:bN (c2+4) [(2,pb),(0,c+2)]=true:=by rw[bu _ _ _ _ (by omega),bu _ _ _ _ (by omega),cJ]
 have gZ:=(g5.trans g4).set (c2+4) (dq [V.s 0 0] 9 [sV [60],sV (cN w)]) (by omega) (by omega) (ag _)
 have hF:flatten (sV (cN w))=[sV (cN w)]:=rfl
 have hO:bF (sV (cN w))=true:=rfl
 simp only[WX,Nat.reducePow,Nat.reduceDiv,Nat.reduceMod,Nat.reduceBEq,Nat.reduceAdd,lk,rf,w8,nN,sH,hF,hO]
 refine fm ((w57 Φ h57 (hW.grow gZ) (mM [[60],cN w] (am _ _ _) (by omega)) hz).mono ?_)
 rintro _ M5 c5 ⟨hW5,K5⟩
 refine⟨(hW5.gr.ok ok0).free,?_⟩
 simp only[WX]
 exact hQ (X1 (G1 (X1 (G2 (G1 (X1 (G2 (X4 (G2 (G1 (cw (X2 (X1 (G2 (G1 (d9 (cw (X8 (X1 []))))))))))))))))))) _ _ hW5 ((Kp.of gZ).trans K5)
theorem b75(Φ:Nat→Option CF)(h57:Φ 57=some vd)(h59:Φ 59=some yY)(h77:Φ 77=some (.orc (aN h77)))(h52:Φ 52=some wp)(h54:Φ 54=some wq)(h71:Φ 71=some tJ){F:RO}{M0 M2:Mem}{c c2 pb N i:Nat}{cur:List (List UInt8)}{vl vi vo vc:V}{j:Int}{nt beh:Bool}{w:List Pc}(ok0:cV F M0 c)(hW:od M0 c M2 c2 cur)(mb:M2.get pb=some (af 39 [.i .i64 j,.b nt,vi,vo,.b beh,vc]))(hp1:c+3≤pb)(hp2:pb<c2)(hw:dO F M0 c vo w)(hs:∀q∈w,q.1.length≤1000000)(hz:dt (cur++[[62,62],cN w])≤1000000)(u:List (Option V))(Q:Ex→St→Prop)
 (hQ:∀(u:List (Option V)) M' c',od M0 c M' c' (cur++[[62,62],cN w])→Kp c M2 c2 M' c'→Q .nrm (.mk ((kU u (.p c 0) (.p (c+1) 0) (.p (c+2) 0) (.f 58 [] [.p (c+2) 0]) (.p pb 0) vl (.i .i64 (N:Int)) (.i .i64 (i:Int)))) [] M' c')):
 Wp zI (K Φ none 39 F) (.mk ((kU u (.p c 0) (.p (c+1) 0) (.p (c+2) 0) (.f 58 [] [.p (c+2) 0]) (.p pb 0) vl (.i .i64 (N:Int)) (.i .i64 (i:Int)))) [] M2 c2) Q:=by
 have ok2:=hW.gr.ok ok0
 obtain⟨z1,z2,z3⟩:=hw.one
 have hG:∀v,flatten (V.g [v])=[v]:=fun _=>rfl
 have lf:loadN F M2 pb 3 1=some [vo]:=by rw[d8 mb,d7 _ _ _ _ _ _ (by simp)];rfl
 have b2:load1 F M2 (c+2) 0=some (.f 57 [] [.p (c+1) 0]):=aq hW.m2 0
 have hfr:=ok2.free
 simp only[WX,wF,lf,b2]
 have g5:Gr c2 M2 (c2+6) M2:=(Gr.refl ok2).up (by omega)
 have ok5:=g5.ok ok2
 have hwl:(cN w).length≤1000000:=by
  rw[bM]at hz;simp only[dt]at hz;omega
 refine o9 _ _ _ _ _ _ _ _ _ _ _ ok5 ?_
 intro F1 N1 okn hlk
 refine(show kc (cS (gV Φ) F1 59 [.g [vo]] N1 (c2+6) (Φ 59)) _ from(w59 Φ h59 h77 h52 h54 h71 okn (((hw.grow hW.gr).grow g5).lk hlk) hs hwl).mono ?_)
 rintro r M3 c3 ⟨rfl,g3⟩
 refine⟨g3,fun M4 g4 _=>?_⟩
 have hle3:=g4.le
 have lk:(look F M4 (c2+4)).isNone=true:=by rw[cA (g4.old _ (by omega)),ok2.look (by omega)];rfl
 have hc2:=hW.hc
 have rf:bN (c2+4) [(2,pb),(0,c+2)]=true:=by rw[bu _ _ _ _ (by omega),bu _ _ _ _ (by omega),cJ]
 have gZ:=(g5.trans g4).set (c2+4) (dq [V.s 0 0] 9 [sV [62,62],sV (cN w)]) (by omega) (by omega) (ag _)
 have hF:flatten (sV (cN w))=[sV (cN w)]:=rfl
 have hO:bF (sV (cN w))=true:=rfl
 simp only[WX,Nat.reducePow,Nat.reduceDiv,Nat.reduceMod,Nat.reduceBEq,Nat.reduceAdd,lk,rf,w8,nN,sH,hF,hO]
 refine fm ((w57 Φ h57 (hW.grow gZ) (mM [[62,62],cN w] (am _ _ _) (by omega)) hz).mono ?_)
 rintro _ M5 c5 ⟨hW5,K5⟩
 refine⟨(hW5.gr.ok ok0).free,?_⟩
 simp only[WX]
 exact hQ (X1 (G1 (X1 (G2 (G1 (X1 (G1 (X4 (X1 (G2 (G1 (d9 (cP (X8 (X4 (X2 (X1 []))))))))))))))))) _ _ hW5 ((Kp.of gZ).trans K5)
theorem b76(Φ:Nat→Option CF)(h57:Φ 57=some vd)(h59:Φ 59=some yY)(h77:Φ 77=some (.orc (aN h77)))(h52:Φ 52=some wp)(h54:Φ 54=some wq)(h71:Φ 71=some tJ){F:RO}{M0 M2:Mem}{c c2 pb N i:Nat}{cur:List (List UInt8)}{vl vi vo vc:V}{j:Int}{nt beh:Bool}{w:List Pc}(ok0:cV F M0 c)(hW:od M0 c M2 c2 cur)(mb:M2.get pb=some (af 39 [.i .i64 j,.b nt,vi,vo,.b beh,vc]))(hp1:c+3≤pb)(hp2:pb<c2)(hw:dO F M0 c vo w)(hs:∀q∈w,q.1.length≤1000000)(hz:dt (cur++[[62],cN w])≤1000000)(u:List (Option V))(Q:Ex→St→Prop)
 (hQ:∀(u:List (Option V)) M' c',od M0 c M' c' (cur++[[62],cN w])→Kp c M2 c2 M' c'→Q .nrm (.mk ((kU u (.p c 0) (.p (c+1) 0) (.p (c+2) 0) (.f 58 [] [.p (c+2) 0]) (.p pb 0) vl (.i .i64 (N:Int)) (.i .i64 (i:Int)))) [] M' c')):
 Wp zJ (K Φ none 39 F) (.mk ((kU u (.p c 0) (.p (c+1) 0) (.p (c+2) 0) (.f 58 [] [.p (c+2) 0]) (.p pb 0) vl (.i .i64 (N:Int)) (.i .i64 (i:Int)))) [] M2 c2) Q:=by
 have ok2:=hW.gr.ok ok0
 obtain⟨z1,z2,z3⟩:=hw.one
 have hG:∀v,flatten (V.g [v])=[v]:=fun _=>rfl
 have lf:loadN F M2 pb 3 1=some [vo]:=by rw[d8 mb,d7 _ _ _ _ _ _ (by simp)];rfl
 have b2:load1 F M2 (c+2) 0=some (.f 57 [] [.p (c+1) 0]):=aq hW.m2 0
 have hfr:=ok2.free
 simp only[WX,wF,lf,b2]
 have g5:Gr c2 M2 (c2+6) M2:=(Gr.refl ok2).up (by omega)
 have ok5:=g5.ok ok2
 have hwl:(cN w).length≤1000000:=by
  rw[bM]at hz;simp only[dt]at hz;omega
 refine o9 _ _ _ _ _ _ _ _ _ _ _ ok5 ?_
 intro F1 N1 okn hlk
 refine(show kc (cS (gV Φ) F1 59 [.g [vo]] N1 (c2+6) (Φ 59)) _ from(w59 Φ h59 h77 h52 h54 h71 okn (((hw.grow hW.gr).grow g5).lk hlk) hs hwl).mono ?_)
 rintro r M3 c3 ⟨rfl,g3⟩
 refine⟨g3,fun M4 g4 _=>?_⟩
 have hle3:=g4.le
 have lk:(look F M4 (c2+4)).isNone=true:=by rw[cA (g4.old _ (by omega)),ok2.look (by omega)];rfl
 have hc2:=hW.hc
 have rf:bN (c2+4) [(2,pb),(0,c+2)]=true:=by rw[bu _ _ _ _ (by omega),bu _ _ _ _ (by omega),cJ]
 have gZ:=(g5.trans g4).set (c2+4) (dq [V.s 0 0] 9 [sV [62],sV (cN w)]) (by omega) (by omega) (ag _)
 have hF:flatten (sV (cN w))=[sV (cN w)]:=rfl
 have hO:bF (sV (cN w))=true:=rfl
 simp only[WX,Nat.reducePow,Nat.reduceDiv,Nat.reduceMod,Nat.reduceBEq,Nat.reduceAdd,lk,rf,w8,nN,sH,hF,hO]
 refine fm ((w57 Φ h57 (hW.grow gZ) (mM [[62],cN w] (am _ _ _) (by omega)) hz).mono ?_)
 rintro _ M5 c5 ⟨hW5,K5⟩
 refine⟨(hW5.gr.ok ok0).free,?_⟩
 simp only[WX]
 exact hQ (X1 (G1 (X1 (G2 (G1 (X1 (G1 (X4 (X1 (G2 (G1 (d9 (cP (X8 (X4 (X2 (X1 []))))))))))))))))) _ _ hW5 ((Kp.of gZ).trans K5)
abbrev YH(u:List (Option V))(x1 x3 x4 x5 x7 x8 x9 x13 x14 x15 x35 x36 x37:V):T:=(.n (.n (.n (.n (.n (ec u 63 31 95) (some x15) (ec u 79 47 111)) (some x7) (aQ u 71 39 103 23 87 55 119)) (some x3) (.n (.n (.n (dA u 67) (some x35) (dA u 99)) (uO u 19) (ec u 83 51 115)) (uO u 11) (aQ u 75 43 107 27 91 59 123))) (some x1) (.n (.n (aQ u 65 33 97 17 81 49 113) (some x9) (aQ u 73 41 105 25 89 57 121)) (some x5) (.n (.n (.n (dA u 69) (some x37) (dA u 101)) (uO u 21) (ec u 85 53 117)) (some x13) (aQ u 77 45 109 29 93 61 125)))) (uO u 0) (.n (.n (.n (aQ u 64 32 96 16 80 48 112) (some x8) (aQ u 72 40 104 24 88 56 120)) (some x4) (.n (.n (.n (dA u 68) (some x36) (dA u 100)) (uO u 20) (ec u 84 52 116)) (uO u 12) (aQ u 76 44 108 28 92 60 124))) (uO u 2) (.n (.n (aQ u 66 34 98 18 82 50 114) (uO u 10) (aQ u 74 42 106 26 90 58 122)) (uO u 6) (.n (aQ u 70 38 102 22 86 54 118) (some x14) (aQ u 78 46 110 30 94 62 126)))))
abbrev NP(u:List (Option V))(x1 x3 x4 x5 x7 x13 x14 x15 x35 x36 x37:V):T:=(.n (.n (.n (.n (.n (ec u 63 31 95) (some x15) (ec u 79 47 111)) (some x7) (aQ u 71 39 103 23 87 55 119)) (some x3) (.n (.n (.n (dA u 67) (some x35) (dA u 99)) (uO u 19) (ec u 83 51 115)) (uO u 11) (aQ u 75 43 107 27 91 59 123))) (some x1) (.n (.n (aQ u 65 33 97 17 81 49 113) (uO u 9) (aQ u 73 41 105 25 89 57 121)) (some x5) (.n (.n (.n (dA u 69) (some x37) (dA u 101)) (uO u 21) (ec u 85 53 117)) (some x13) (aQ u 77 45 109 29 93 61 125)))) (uO u 0) (.n (.n (.n (aQ u 64 32 96 16 80 48 112) (uO u 8) (aQ u 72 40 104 24 88 56 120)) (some x4) (.n (.n (.n (dA u 68) (some x36) (dA u 100)) (uO u 20) (ec u 84 52 116)) (uO u 12) (aQ u 76 44 108 28 92 60 124))) (uO u 2) (.n (.n (aQ u 66 34 98 18 82 50 114) (uO u 10) (aQ u 74 42 106 26 90 58 122)) (uO u 6) (.n (aQ u 70 38 102 22 86 54 118) (some x14) (aQ u 78 46 110 30 94 62 126)))))
abbrev aS8(u:List (Option V))(x1 x3 x4 x5 x13 x14 x15:V):T:=(.n (.n (.n (.n (.n (ec u 63 31 95) (some x15) (ec u 79 47 111)) (uO u 7) (aQ u 71 39 103 23 87 55 119)) (some x3) (.n (aQ u 67 35 99 19 83 51 115) (uO u 11) (aQ u 75 43 107 27 91 59 123))) (some x1) (.n (.n (aQ u 65 33 97 17 81 49 113) (uO u 9) (aQ u 73 41 105 25 89 57 121)) (some x5) (.n (aQ u 69 37 101 21 85 53 117) (some x13) (aQ u 77 45 109 29 93 61 125)))) (uO u 0) (.n (.n (.n (aQ u 64 32 96 16 80 48 112) (uO u 8) (aQ u 72 40 104 24 88 56 120)) (some x4) (.n (aQ u 68 36 100 20 84 52 116) (uO u 12) (aQ u 76 44 108 28 92 60 124))) (uO u 2) (.n (.n (aQ u 66 34 98 18 82 50 114) (uO u 10) (aQ u 74 42 106 26 90 58 122)) (uO u 6) (.n (aQ u 70 38 102 22 86 54 118) (some x14) (aQ u 78 46 110 30 94 62 126)))))
theorem jN{a b:List (List UInt8)}{n:Nat}(h:dt (a++b)≤n):dt a≤n:=by rw[bM]at h;omega
theorem b82(Φ:Nat→Option CF)(h57:Φ 57=some vd){F:RO}{M0 M2:Mem}{c c2 pb N i k n qb:Nat}{cur:List (List UInt8)}{vl vc:V}(ok0:cV F M0 c)(hW:od M0 c M2 c2 cur)(hz:dt (cur++(if 0<k then[[124]]else[]))≤1000000)(u:List (Option V))(Q:Ex→St→Prop)
 (hQ:∀(u:List (Option V)) M' c',od M0 c M' c' (cur++(if 0<k then[[124]]else[]))→Kp c M2 c2 M' c'→Q .nrm (.mk ((YH u (.p c 0) (.p (c+1) 0) (.p (c+2) 0) (.f 58 [] [.p (c+2) 0]) (.p pb 0) (.i .i64 (k:Int)) (.p qb 0) vl (.i .i64 (N:Int)) (.i .i64 (i:Int)) vc (.i .i64 (n:Int)) (.i .i64 (k:Int)))) [] M' c')):
 Wp zF (K Φ none 39 F) (.mk ((YH u (.p c 0) (.p (c+1) 0) (.p (c+2) 0) (.f 58 [] [.p (c+2) 0]) (.p pb 0) (.i .i64 (k:Int)) (.p qb 0) vl (.i .i64 (N:Int)) (.i .i64 (i:Int)) vc (.i .i64 (n:Int)) (.i .i64 (k:Int)))) [] M2 c2) Q:=by
 have ok2:=hW.gr.ok ok0
 by_cases hk:0<k
 ·have dk:decide ((0:Int)<(k:Int))=true:=aj (by omega);rw[ac hk]at hz hQ;have b2:load1 F M2 (c+2) 0=some (.f 57 [] [.p (c+1) 0]):=aq hW.m2 0;have gZ:=(Gr.refl ok2).set c2 (dq [V.s 0 0] 9 [sV [124]]) (ag _) (aA _) (aP _);simp only[WX,wF,dk,b2];refine aw ((w57 Φ h57 (hW.grow gZ) (mM [[124]] (am _ _ _) (aA _)) hz).mono ?_);rintro _ M5 c5 ⟨hW5,K5⟩;simp only[WX];exact hQ (X1 (G1 (X1 (G2 (G1 (X1 (G2 (G1 (X2 (X1 (G2 (G1 (cw (X2 (X1 (G2 (G1 (d9 (cw (X8 (X1 []))))))))))))))))))))) _ _ hW5 ((Kp.of gZ).trans K5)
 ·have dk:decide ((0:Int)<(k:Int))=false:=ak (by omega);rw[ab hk,bQ]at hQ;simp only[WX,wF,dk];exact hQ (X1 (G1 (X1 (G2 (G1 (X1 (G2 (G1 (X2 (X1 (G2 (G1 (cw (X2 (X1 (G2 (G1 (d9 (cw (X8 (X1 []))))))))))))))))))))) _ _ hW Kp.refl
theorem m39(Φ:Nat→Option CF)(h57:Φ 57=some vd)(h58:Φ 58=some Lg)(h59:Φ 59=some yY)(h77:Φ 77=some (.orc (aN h77)))(h52:Φ 52=some wp)(h54:Φ 54=some wq)(h71:Φ 71=some tJ){F:RO}{M0 M2:Mem}{c c2 pb N i:Nat}{cur:List (List UInt8)}{vl vi vo vc:V}{j:Int}{nt beh:Bool}{wi:List Pc}{cs:List fx}(ok0:cV F M0 c)(hW:od M0 c M2 c2 cur)(mb:M2.get pb=some (af 39 [.i .i64 j,.b nt,vi,vo,.b beh,vc]))(hp1:c+3≤pb)(hp2:pb<c2)(hw:dO F M0 c vi wi)(hs:∀q∈wi,q.1.length≤1000000)(hc:ka F M0 c vc cs)(hsc:∀x∈cs,Zn x)(hz:dt (cur++iY wi 0 cs)≤1000000)(u:List (Option V))(Q:Ex→St→Prop)
 (hQ:∀(u:List (Option V)) M' c',od M0 c M' c' (cur++iY wi 0 cs)→Kp c M2 c2 M' c'→Q (.ext 2) (.mk ((kU u (.p c 0) (.p (c+1) 0) (.p (c+2) 0) (.f 58 [] [.p (c+2) 0]) (.p pb 0) vl (.i .i64 (N:Int)) (.i .i64 (i:Int)))) [] M' c')):
 Wp (.loop (.seq zE zH)) (K Φ none 39 F) (.mk ((NP u (.p c 0) (.p (c+1) 0) (.p (c+2) 0) (.f 58 [] [.p (c+2) 0]) (.p pb 0) vl (.i .i64 (N:Int)) (.i .i64 (i:Int)) vc (.i .i64 (cs.length:Int)) (.i .i64 0))) [] M2 c2) Q:=by
 have n1:=hc.len
 have mx:=hc.max
 obtain⟨I,hI⟩:∃I:Nat→St→Prop,∀n s',I n s'↔(∃(k c3:Nat) (M3:Mem) (cu:List (List UInt8)) (u:List (Option V)),n=cs.length-k∧k≤cs.length∧s'= .mk ((NP u (.p c 0) (.p (c+1) 0) (.p (c+2) 0) (.f 58 [] [.p (c+2) 0]) (.p pb 0) vl (.i .i64 (N:Int)) (.i .i64 (i:Int)) vc (.i .i64 (cs.length:Int)) (.i .i64 (k:Int)))) [] M3 c3∧od M0 c M3 c3 cu∧Kp c M2 c2 M3 c3∧cu++iY wi k (cs.drop k)=cur++iY wi 0 cs):=⟨fun n s'=>_,fun _ _=>Iff.rfl⟩
 refine bT I ?_ cs.length _ ((hI _ _).2 ⟨0,_,_,_,(X1 (G1 (X1 (G2 (G1 (X1 (G1 (X4 (X1 (G2 (G1 (cw (X2 (X1 (G2 (G1 (d9 (cw (X8 (X1 [])))))))))))))))))))),rfl,aB _,rfl,hW,Kp.refl,rfl⟩)
 intro n s' hIs
 obtain⟨k,c3,M3,cu,u,rfl,hk,rfl,hW3,K3,he⟩:=(hI _ _).1 hIs
 clear hIs
 by_cases hlt:k<cs.length
 ·have q8:du .add (.i .i64 (k:Int)) (.i .i64 1)=some (.i .i64 ((k+1:Nat):Int)):=by rw[bJ _ _ (by omega) (by omega)];simp
  have d1:decide ((k:Int)<(cs.length:Int))=true:=aj (by omega);obtain⟨b,o,x,hbx,ia,_,ld0,hw0⟩:=cE.at1 hc k hlt;have ia:=ia .i64;have ld:loadN F M3 b o 1=some [x]:=(hW3.gr.loadN hbx _ _).trans ld0;have hw1:fC F M0 c x cs[k]:=hw0;have hd:cs.drop k=cs[k]::cs.drop (k+1):=cF hlt;rw[hd,iY]at he;have hsk:=hsc cs[k] (List.getElem_mem _);generalize cs[k]=w at hw1 hsk he;generalize hR:iY wi (k+1) (cs.drop (k+1))=R at he;obtain⟨A,hA⟩:∃A,(if 0<k then[[(124:UInt8)]]else[])=A:=⟨_,rfl⟩
  obtain⟨C,hC⟩:∃C,(if(decide (k=0)&&hasW wi)=true then[[60],cN wi]else[])=C:=⟨_,rfl⟩
  rw[hA,hC]at he;have hzA:dt (cu++A)≤1000000:=jN (b:=w.map cN++(C++R)) (by rw[bh,he];exact hz);have hzB:dt (cu++A++w.map cN)≤1000000:=jN (b:=C++R) (by rw[bh,bh,he];exact hz);have hzC:dt (cu++A++w.map cN++C)≤1000000:=jN (b:=R) (by rw[bh,bh,bh,he];exact hz);obtain⟨y1,y2,y3⟩:=hw1.one;have hG:∀v,flatten (V.g [v])=[v]:=fun _=>rfl;have ok3:=hW3.gr.ok ok0;have sn:bK (M3.set c3 (af 42 [.l0])) c3 0 [x]=some (M3.set c3 (af 42 [x])):=eQ rfl y3;have gY:=(Gr.refl ok3).set c3 (af 42 [x]) (ag _) (aA _) (aP _);have my:(M3.set c3 (af 42 [x])).get c3=some (af 42 [x]):=am _ _ _;have hWY:=hW3.grow gY;have KY:=K3.trans (Kp.of gY);generalize M3.set c3 (af 42 [x])=Y at sn gY my hWY KY;have hc3:=hW3.hc;simp only[WX,O7,O8,Oc,Od,d1,ia,ld,hG,sn];refine b82 Φ h57 ok0 hWY (by rw[hA];exact hzA) (X1 (G1 (X1 (G2 (G1 (X1 (G2 (G1 (X2 (X1 (G2 (G1 (cw (X2 (X1 (G2 (G1 (d9 (cw (X8 (X1 []))))))))))))))))))))) _ ?_;intro u M4 c4 hW4 K4;rw[hA]at hW4;have kx:loadN F M4 c3 0 1=some [x]:=bc (K4.2 c3 42 [x] (aA _) (by omega) (by omega) my) 1 rfl;simp only[WX,O9,kx];refine aw ((w58 Φ h58 h57 h59 h77 h52 h54 h71 ok0 hW4 hw1 hsk hzB).mono ?_);rintro _ M5 c5 ⟨hW5,K5⟩;have K6:=KY.trans (K4.trans K5);have mb6:=K6.2 pb 39 _ hp2 (by omega) (by omega) mb;have hle6:=K6.1;have m62:load1 F M5 pb 2=some vi:=aq mb6 2;have ni:=hw.len;have di:=Cr wi;have NXT:∀(u:List (Option V)) M' c',od M0 c M' c' (cu++A++w.map cN++C)→Kp c M5 c5 M' c'→I (cs.length-(k+1)) (.mk ((NP u (.p c 0) (.p (c+1) 0) (.p (c+2) 0) (.f 58 [] [.p (c+2) 0]) (.p pb 0) vl (.i .i64 (N:Int)) (.i .i64 (i:Int)) vc (.i .i64 (cs.length:Int)) (.i .i64 ((k+1:Nat):Int)))) [] M' c'):=by
   intro u M' c' hW' K';exact(hI _ _).2 ⟨k+1,_,_,_,(X1 (G1 (X1 (G2 (G1 (X1 (G1 (X4 (X1 (G2 (G1 (cw (X2 (X1 (G2 (G1 (d9 (cw (X8 (X1 [])))))))))))))))))))),rfl,hlt,rfl,hW',K6.trans K',by rw[hR,←he];simp only[bh]⟩
  by_cases hk0:k=0
  ·have d0:decide ((k:Int)=0)=true:=aj (by omega);rw[aj hk0,Bool.true_and]at hC;cases hI0:hasW wi with
   |true=>
    rw[hI0]at di;rw[ac hI0]at hC;subst hC;simp only[WX,Oa,Ob,d0,m62,ni,di,be];refine b78 Φ h57 h59 h77 h52 h54 h71 ok0 hW5 mb6 hp1 (by omega) hw hs hzC (X1 (G1 (X1 (G2 (G1 (X1 (G2 (X4 (G2 (G1 (cw (X2 (X1 (G2 (G1 (d9 (cw (X8 (X1 []))))))))))))))))))) _ ?_;intro u M7 c7 hW7 K7;simp only[WX,wF,q8];exact⟨cs.length-(k+1),by omega,NXT (X1 (G1 (X1 (G2 (G1 (X1 (G1 (X4 (X1 (G2 (G1 (cw (X2 (X1 (G2 (G1 (d9 (cw (X8 (X1 [])))))))))))))))))))) _ _ hW7 K7⟩
   |false=>
    rw[hI0]at di;rw[ab (by rw[hI0];simp)]at hC;subst hC;simp only[WX,wF,d0,m62,ni,di,be,q8];exact⟨cs.length-(k+1),by omega,NXT (X1 (G1 (X1 (G2 (G1 (X1 (G1 (X4 (X1 (G2 (G1 (cw (X2 (X1 (G2 (G1 (d9 (cw (X8 (X1 [])))))))))))))))))))) _ _ (by rw[bQ];exact hW5) Kp.refl⟩
  ·have d0:decide ((k:Int)=0)=false:=ak (by omega);rw[ak hk0,Bool.false_and,ab (by simp)]at hC;subst hC;simp only[WX,wF,d0,q8];exact⟨cs.length-(k+1),by omega,NXT (X1 (G1 (X1 (G2 (G1 (X1 (G1 (X4 (X1 (G2 (G1 (cw (X2 (X1 (G2 (G1 (d9 (cw (X8 (X1 [])))))))))))))))))))) _ _ (by rw[bQ];exact hW5) Kp.refl⟩
 ·obtain rfl:k=cs.length:=by omega
  have d1:decide ((cs.length:Int)<(cs.length:Int))=false:=ak (by omega);rw[cZ,iY,bQ]at he;subst he;simp only[WX,wF,d1];exact hQ (X1 (G1 (X1 (G2 (G1 (X1 (G1 (X4 (X1 (G2 (G1 (d9 (cP (X8 (X4 (X2 (X1 []))))))))))))))))) _ _ hW3 K3
theorem b81(Φ:Nat→Option CF)(h57:Φ 57=some vd)(h59:Φ 59=some yY)(h77:Φ 77=some (.orc (aN h77)))(h52:Φ 52=some wp)(h54:Φ 54=some wq)(h71:Φ 71=some tJ){F:RO}{M0 M2:Mem}{c c2 pb N i:Nat}{cur:List (List UInt8)}{vl vi vo vc:V}{j:Int}{nt beh:Bool}{w:List Pc}(ok0:cV F M0 c)(hW:od M0 c M2 c2 cur)(mb:M2.get pb=some (af 39 [.i .i64 j,.b nt,vi,vo,.b beh,vc]))(hp1:c+3≤pb)(hp2:pb<c2)(hw:dO F M0 c vo w)(hs:∀q∈w,q.1.length≤1000000)(hz:dt (cur++mD beh w)≤1000000)(u:List (Option V))(Q:Ex→St→Prop)
 (hQ:∀(u:List (Option V)) M' c',od M0 c M' c' (cur++mD beh w)→Q .nrm (.mk ((kU u (.p c 0) (.p (c+1) 0) (.p (c+2) 0) (.f 58 [] [.p (c+2) 0]) (.p pb 0) vl (.i .i64 (N:Int)) (.i .i64 (i:Int)))) [] M' c')):
 Wp zK (K Φ none 39 F) (.mk ((kU u (.p c 0) (.p (c+1) 0) (.p (c+2) 0) (.f 58 [] [.p (c+2) 0]) (.p pb 0) vl (.i .i64 (N:Int)) (.i .i64 (i:Int)))) [] M2 c2) Q:=by
 have l4:load1 F M2 pb 4=some (.b beh):=aq mb 4
 have l3:load1 F M2 pb 3=some vo:=aq mb 3
 have no:=hw.len
 have do':=Cr w
 unfold mD at hz hQ
 cases beh with
 |true=>
  rw[ac rfl]at hz hQ;simp only[WX,BD,BE,l4];exact b75 Φ h57 h59 h77 h52 h54 h71 ok0 hW mb hp1 hp2 hw hs hz (X1 (G1 (X1 (G2 (G1 (X1 (G1 (X4 (X1 (G2 (G1 (d9 (cP (X8 (X4 (X2 (X1 []))))))))))))))))) _ fun u M' c' h _=>hQ u M' c' h
 |false=>
  rw[ab (by simp)]at hz hQ;cases hO:hasW w with
  |true=>
   rw[hO]at do'
   rw[ac hO]at hz hQ;simp only[WX,BD,Oe,Of,BE,l4,l3,no,do',be];exact b76 Φ h57 h59 h77 h52 h54 h71 ok0 hW mb hp1 hp2 hw hs hz (X1 (G1 (X1 (G2 (G1 (X1 (G1 (X4 (X1 (G2 (G1 (d9 (cP (X8 (X4 (X2 (X1 []))))))))))))))))) _ fun u M' c' h _=>hQ u M' c' h
  |false=>
   rw[hO]at do'
   rw[ab (by rw[hO];simp),bQ]at hQ;simp only[WX,wF,l4,l3,no,do',be];exact hQ (X1 (G1 (X1 (G2 (G1 (X1 (G1 (X4 (X1 (G2 (G1 (d9 (cP (X8 (X4 (X2 (X1 []))))))))))))))))) _ _ hW
theorem w39(Φ:Nat→Option CF)(h:Φ 39=some Ql)(h33:Φ 33=some Ga)(h57:Φ 57=some vd)(h58:Φ 58=some Lg)(h59:Φ 59=some yY)(h60:Φ 60=some Gb)(h79:Φ 79=some Li)(h89:Φ 89=some Gf)(h77:Φ 77=some (.orc (aN h77)))(h52:Φ 52=some wp)(h54:Φ 54=some wq)(h71:Φ 71=some tJ){F:RO}{M:Mem}{c:Nat}(ok:cV F M c){vl:V}{l:List eB}(hl:iT F M c vl l)(hj:∀p∈l,0≤p.join∧p.join≤3)(hS:∀p∈l,P8 p)(hz:dt (lP l)≤1000000):
 Calls Φ F 39 [.g [vl]] M c fun r M' c'=>r=sV (dm [32] (lP l))∧Gr c M c' M':=by
 refine aI h ?_
 obtain⟨y1,y2,y3⟩:=hl.one
 have hG:∀v,flatten (V.g [v])=[v]:=fun _=>rfl
 have n1:=hl.len
 have mx:=hl.max
 have sn:bK (((M.set c (af 25 [vl])).set (c+1) (af 69 [.l0])).set (c+2) (af 105 [.f0])) (c+2) 0 [.f 57 [] [.p (c+1) 0]]=some (((M.set c (af 25 [vl])).set (c+1) (af 69 [.l0])).set (c+2) (af 105 [.f 57 [] [.p (c+1) 0]])):=eQ rfl rfl
 have g3:Gr c M (c+3) (((M.set c (af 25 [vl])).set (c+1) (af 69 [.l0])).set (c+2) (af 105 [.f 57 [] [.p (c+1) 0]])):=(((Gr.refl ok).set c _ (ag _) (aA _) (aP _)).set (c+1) _ (by omega) (show c+1<c+2 by omega) (by omega)).set (c+2) _ (by omega) (by omega) (by omega)
 have k0:load1 F (((M.set c (af 25 [vl])).set (c+1) (af 69 [.l0])).set (c+2) (af 105 [.f 57 [] [.p (c+1) 0]])) c 0=some vl:=aq (ty:=25) (l:=[vl]) (by rw[ah _ _ (by omega),ah _ _ (by omega),am]) 0
 have hW0:od M c (((M.set c (af 25 [vl])).set (c+1) (af 69 [.l0])).set (c+2) (af 105 [.f 57 [] [.p (c+1) 0]])) (c+3) []:=⟨g3,ag _,⟨.l0,0,by rw[ah _ _ (by omega),am],bm.nil⟩,am _ _ _⟩
 have hfn:∀a b c,flatten (V.f a b c)=[V.f a b c]:=fun _ _ _=>rfl
 simp only[WX,Nat.reduceAdd,wF,hG,y3,sn,hfn,k0,n1,be]
 generalize((M.set c (af 25 [vl])).set (c+1) (af 69 [.l0])).set (c+2) (af 105 [.f 57 [] [.p (c+1) 0]])=X at g3 hW0⊢
 clear k0 sn
 obtain⟨I,hI⟩:∃I:Nat→St→Prop,∀n s',I n s'↔(∃(i c1:Nat) (M1:Mem) (cur:List (List UInt8)) (u:List (Option V)),n=l.length-i∧i≤l.length∧s'= .mk ((aS8 u (.p c 0) (.p (c+1) 0) (.p (c+2) 0) (.f 58 [] [.p (c+2) 0]) vl (.i .i64 (l.length:Int)) (.i .i64 (i:Int)))) [] M1 c1∧od M c M1 c1 cur∧cur++lP (l.drop i)=lP l):=⟨fun n s'=>_,fun _ _=>Iff.rfl⟩
 refine bT I ?_ l.length _ ((hI _ _).2 ⟨0,_,_,_,(X1 (G1 (X1 (G2 (G1 (X4 (X2 (X1 (G2 (G1 (d9 (cP (X8 (X4 (X2 (X1 [])))))))))))))))),rfl,aB _,rfl,hW0,rfl⟩)
 intro n s' hIs
 obtain⟨i,c1,M1,cur,u,rfl,hi,rfl,hW,he⟩:=(hI _ _).1 hIs
 clear hIs
 by_cases hlt:i<l.length
 ·have q8:du .add (.i .i64 (i:Int)) (.i .i64 1)=some (.i .i64 ((i+1:Nat):Int)):=by rw[bJ _ _ (by omega) (by omega)];simp
  have d1:decide ((i:Int)<(l.length:Int))=true:=aj (by omega);obtain⟨b,o,e,hbx,ia,ld0,el,hp⟩:=hl.at (by decide) i hlt;have ia:=ia .i64;have ld:loadN F M1 b o 6=some e:=(hW.gr.loadN hbx _ _).trans ld0;have hd:l.drop i=l[i]::l.drop (i+1):=cF hlt;rw[hd,lP]at he;obtain⟨hj0,hj3⟩:=hj l[i] (List.getElem_mem _);obtain⟨hsi,hso,hsc,_,_⟩:=hS l[i] (List.getElem_mem _);generalize l[i]=p at hp he hj0 hj3 hsi hso hsc;generalize hR:lP (l.drop (i+1))=R at he;unfold MV at he;obtain⟨A,hA⟩:∃A,(if 0<p.join then[sT p.join.toNat]else[])=A:=⟨_,rfl⟩
  obtain⟨B,hB⟩:∃B,(if p.nt=true then[[(33:UInt8)]]else[])=B:=⟨_,rfl⟩
  rw[hA,hB]at he;obtain⟨vi,vo,vc,rfl,a1,a2,a3⟩:=hp;have he2:cur++(A++(B++(iY p.inp 0 p.cmds++(mD p.beh p.out++R))))=lP l:=by rw[←he];simp only[bh]
  have hzA:dt (cur++A)≤1000000:=jN (b:=B++(iY p.inp 0 p.cmds++(mD p.beh p.out++R))) (by rw[bh,he2];exact hz);have hzB:dt (cur++A++B)≤1000000:=jN (b:=iY p.inp 0 p.cmds++(mD p.beh p.out++R)) (by rw[bh,bh,he2];exact hz);have hzC:dt (cur++A++B++iY p.inp 0 p.cmds)≤1000000:=jN (b:=mD p.beh p.out++R) (by rw[bh,bh,bh,he2];exact hz);have hzD:dt (cur++A++B++iY p.inp 0 p.cmds++mD p.beh p.out)≤1000000:=jN (b:=R) (by rw[bh,bh,bh,bh,he2];exact hz);obtain⟨p1,p2,p3⟩:=a1.one;obtain⟨o1,o2,o3⟩:=a2.one;obtain⟨r1,r2,r3⟩:=a3.one;have hG6:flatten (V.g [.i .i64 p.join,.b p.nt,vi,vo,.b p.beh,vc])=[.i .i64 p.join,.b p.nt,vi,vo,.b p.beh,vc]:=rfl;have hA6:aC [.i .i64 p.join,.b p.nt,vi,vo,.b p.beh,vc]=true:=by
   rw[aE,aE,aE,aE,aE,aE,ce,p1,o1,r1];rfl
  have ok1:=hW.gr.ok ok;have sn:bK (M1.set c1 (af 39 [.i .i64 0,.b false,.l0,.l0,.b false,.l0])) c1 0 [.i .i64 p.join,.b p.nt,vi,vo,.b p.beh,vc]=some (M1.set c1 (af 39 [.i .i64 p.join,.b p.nt,vi,vo,.b p.beh,vc])):=eQ rfl hA6;have gY:=(Gr.refl ok1).set c1 (af 39 [.i .i64 p.join,.b p.nt,vi,vo,.b p.beh,vc]) (ag _) (aA _) (aP _);have my:(M1.set c1 (af 39 [.i .i64 p.join,.b p.nt,vi,vo,.b p.beh,vc])).get c1=some (af 39 [.i .i64 p.join,.b p.nt,vi,vo,.b p.beh,vc]):=am _ _ _;have hWY:=hW.grow gY;generalize M1.set c1 (af 39 [.i .i64 p.join,.b p.nt,vi,vo,.b p.beh,vc])=Y at sn gY my hWY;have hc1:=hW.hc;simp only[WX,Nat.reduceAdd,YR,YS,Oi,Oj,d1,ia,ld,hG6,Bool.and_self,sn];refine b79 Φ h33 h57 ok hWY my (by omega) (aA _) hj0 hj3 (by rw[hA];exact hzA) (X1 (G1 (X1 (G2 (G1 (X1 (G1 (X4 (X1 (G2 (G1 (d9 (cP (X8 (X4 (X2 (X1 []))))))))))))))))) _ ?_;intro u M2 c2 hW2 K2;rw[hA]at hW2;have m2:=K2.2 c1 39 _ (aA _) (by omega) (by omega) my;have hle2:=K2.1;simp only[WX];refine b80 Φ h57 ok hW2 m2 (by rw[hB];exact hzB) (X1 (G1 (X1 (G2 (G1 (X1 (G1 (X4 (X1 (G2 (G1 (d9 (cP (X8 (X4 (X2 (X1 []))))))))))))))))) _ ?_;intro u M3 c3 hW3 K3;rw[hB]at hW3;have m3:=K3.2 c1 39 _ (by omega) (by omega) (by omega) m2;have hle3:=K3.1;have k5:load1 F M3 c1 5=some vc:=aq m3 5;have nc:=a3.len;simp only[WX,O6,Og,k5,nc];refine m39 Φ h57 h58 h59 h77 h52 h54 h71 ok hW3 m3 (by omega) (by omega) a1 hsi a3 hsc hzC (X1 (G1 (X1 (G2 (G1 (X1 (G1 (X4 (X1 (G2 (G1 (cw (X2 (X1 (G2 (G1 (d9 (cw (X8 (X1 [])))))))))))))))))))) _ ?_;intro u M4 c4 hW4 K4;have m4:=K4.2 c1 39 _ (by omega) (by omega) (by omega) m3;have hle4:=K4.1;simp only[WX,Nat.reduceEqDiff,reduceCtorEq,Oh,Ok];refine b81 Φ h57 h59 h77 h52 h54 h71 ok hW4 m4 (by omega) (by omega) a2 hso hzD (X1 (G1 (X1 (G2 (G1 (X1 (G1 (X4 (X1 (G2 (G1 (d9 (cP (X8 (X4 (X2 (X1 []))))))))))))))))) _ ?_;intro u M5 c5 hW5;simp only[WX,wF,q8];exact⟨l.length-(i+1),by omega,(hI _ _).2 ⟨i+1,_,_,_,(X1 (G1 (X1 (G2 (G1 (X4 (X2 (X1 (G2 (G1 (d9 (cP (X8 (X4 (X2 (X1 [])))))))))))))))),rfl,hlt,rfl,hW5,by rw[hR,←he2];simp only[bh]⟩⟩
 ·obtain rfl:i=l.length:=by omega
  have d1:decide ((l.length:Int)<(l.length:Int))=false:=ak (by omega);rw[cZ,lP,bQ]at he;subst he;obtain⟨gr,hc,⟨v,b,h1,h2⟩,m2⟩:=hW;have l1:load1 F M1 (c+1) 0=some v:=aq h1 0;simp only[WX,wF,d1,l1];have e32:V.s 1 32=sV [32]:=rfl;rw[e32];refine aw ((r60 Φ h60 h79 h52 h54 h71 h89 (gr.ok ok) h2.sl hz (by decide) (by decide)).mono ?_);rintro r M2 c2 ⟨rfl,g2⟩;simp only[WX];exact gr.trans g2
def BK:Nat→fx→List UInt8
 |_,[]=>[]
 |m,w::r=>(if 0<m then[32]else[])++(cN w++BK (m+1) r)
def inR(k:Nat)(inp:List Pc):List UInt8:=if(decide (k=0)&&hasW inp)=true then[32,60,32]++cN inp else[]
def Em(inp:List Pc):Nat→List fx→List UInt8
 |_,[]=>[]
 |k,c::r=>(if 0<k then[32,124,32]else[])++(BK 0 c++(inR k inp++Em inp (k+1) r))
def F8(beh:Bool)(out:List Pc):List UInt8:=if hasW out=true then(if beh=true then[32,62,62,32]else[32,62,32])++cN out else[]
def jnS:Nat→List UInt8
 |1=>[32,59,32]
 |2=>[32,38,38,32]
 |3=>[32,124,124,32]
 |_=>[]
def Zg:Nat→List eB→List UInt8
 |_,[]=>[]
 |i,p::r=>(if 0<i then jnS p.join.toNat else[])++((if p.nt=true then[33,32]else[])++(Em p.inp 0 p.cmds++(F8 p.beh p.out++Zg (i+1) r)))
abbrev aS9(u:List (Option V))(x1 x16 x17 x18:V):T:=(.n (.n (.n (aQ u 31 15 47 7 39 23 55) (uO u 3) (aQ u 35 19 51 11 43 27 59)) (some x1) (.n (.n (.n (dA u 33) (some x17) (dA u 49)) (uO u 9) (ec u 41 25 57)) (uO u 5) (aQ u 37 21 53 13 45 29 61))) (uO u 0) (.n (.n (.n (.n (dA u 32) (some x16) (dA u 48)) (uO u 8) (ec u 40 24 56)) (uO u 4) (aQ u 36 20 52 12 44 28 60)) (uO u 2) (.n (.n (.n (dA u 34) (some x18) (dA u 50)) (uO u 10) (ec u 42 26 58)) (uO u 6) (aQ u 38 22 54 14 46 30 62))))
def Tg:CC:=(.reg [(aa a1 (.bx 25 1 z0)),(qq a2 (.mv (x6 0)))])
def Th:CC:=(.reg [(qq a5 (.fa 0 z1)),(qq a6 (.ld1 z5)),(qq a7 (.ln .slice z6)),(qq a8 (.bi .lss z7 (x6 1))),(qq a9 (.mv z8)),(aK dX (.fa 0 z1) a9),(aK fy (.ld1 gc) a9),(aK fR (.ln .slice eg) a9),(aK fc (.bi .gtr eX (x6 16)) a9),(qq gQ (.pk z9 xT ey))])
def Ti:CC:=(.seq (.reg [(qq a2 (.mv (x6 2)))]) .ret)
def Tj:CC:=(.reg [(qq eN (.fa 0 z1)),(qq iw (.ld1 iq)),(qq gk (.ln .slice jP)),(qq gS (.mv (x6 0)))])
def Tl:CC:=(.reg [(qq lj (.bi .lss ir gH))])
def Tm:CC:=(.reg [(qq ke (.mv ir)),(qq gT (.iaS 6 jP ir)),(qq lL (.ldn 6 oc)),(aa a4 (.al 39 [(.i .i64 0),(.b false),.l0,.l0,(.b false),.l0])),(qq a3 (.mv mR)),(ez (.st 6 z4 og))])
def Tp:CC:=(.reg [(qq kl (.mv z3)),(qq kf (.bi .eql mW (x6 0))),(qq mS (.fa 0 z4)),(qq mg (.ld1 qQ)),(qq iU (.bi .eql qx (x6 0))),(qq mT (.eq true .bool false pf qy)),(qq ll (.mv qR)),(aK mh (.fa 0 z4) ll),(aK mU (.ld1 sY) ll),(aK sQ (.bi .lss sZ (x6 0)) ll),(qq sR (.pk sN xT wy)),(qq qz (.mv wz)),(aK lM (.fa 0 z4) qz),(aK tA (.ld1 we) qz),(aK pS (.bi .gtr yO (x6 3)) qz),(qq mV (.pk wA xT uz)),(qq ou (.mv wf)),(aK tB (.ldn 6 z4) ou),(mw t4 (.call 40 [yP]) ou),(aK tC (.un .not wg) ou),(qq tD (.pk wB xT yQ))])
def Tq:CC:=(.seq (.reg [(qq a2 (.mv (x6 2)))]) .ret)
def Ts:CC:=(.seq Tp (.cond yR Tq .skip))
def HJ:CC:=(.reg [(qq qX (.bi .add ir (x6 1))),(qq gS (.mv wC))])
def HK:CC:=(.seq (.cond lQ .skip (.exit 0)) (.seq (.block 1 (.seq Tm Ts)) HJ))
def HL:CC:=(.reg [(qq uJ (.ldn 1 z1)),(ee ow (.call 39 [zc])),(qq uK (.ln .str DO)),(qq wh (.bi .gtr zd (x6 4096)))])
def HM:CC:=(.seq (.reg [(qq a2 (.mv (x6 2)))]) .ret)
def HN:CC:=(.seq HL (.cond BS HM .skip))
def HO:CC:=(.seq (.reg [(qq a2 (.mv (x6 0)))]) .ret)
def HP:CC:=(.seq (.seq Tj (.block 0 (.loop (.seq Tl HK)))) (.seq HN HO))
def HQ:CC:=(.seq (.seq Th (.cond iH Ti .skip)) HP)
def XY:CF:= .mk 6 [.t a2] (.seq Tg HQ)
theorem e17(v0:V):bz 6 [v0]=(.n Bp (some v0) Bp):=rfl
def DP:=ai @e17 (ai (wu Tg.eq_1) (ai (wu Th.eq_1) (ai (wu Ti.eq_1) (ai (wu Tj.eq_1) (ai (wu Tl.eq_1) (ai (wu Tm.eq_1) (ai (wu Tp.eq_1) (ai (wu Tq.eq_1) (ai (wu Ts.eq_1) (ai (wu HJ.eq_1) (ai (wu HK.eq_1) (ai (wu HL.eq_1) (ai (wu HM.eq_1) (ai (wu HN.eq_1) (ai (wu HO.eq_1) (ai (wu HP.eq_1) (wu HQ.eq_1)))))))))))))))))
def Ta:CC:=(.reg [(aa a1 (.bx 25 1 z0)),(qq a2 (.mv (.c (.s 0 0)))),(qq a3 (.mv (x6 0)))])
def Tb:CC:=(.reg [(qq a5 (.ldn 1 z1)),(ee a6 (.call 17 [z5])),(qq a4 (.mv z6))])
def Tc:CC:=(.reg [(qq a7 (.mv z4)),(qq a8 (.bi .neq z7 (x6 0)))])
def Td:CC:=(.reg [(qq a9 (.mv z4)),(qq a2 (.mv (.c (.s 0 0)))),(qq a3 (.mv z9))])
def Te:CC:=(.seq Tc (.cond z8 (.seq Td .ret) .skip))
def Tf:CC:=(.reg [(qq dX (.ldn 1 z1)),(ee fy (.call 39 [gc])),(qq a2 (.mv eg)),(qq a3 (.mv (x6 0)))])
def c16:CF:= .mk 4 [.t a2,.t a3] (.seq Ta (.seq (.seq Tb Te) (.seq Tf .ret)))
theorem e16(v0:V):bz 4 [v0]=(.n iE (some v0) iE):=rfl
def B16:=ai @e16 (ai (wu Ta.eq_1) (ai (wu Tb.eq_1) (ai (wu Tc.eq_1) (ai (wu Td.eq_1) (ai (wu Te.eq_1) (wu Tf.eq_1))))))
def jOk(i:Nat)(j:Int):Bool:=(decide (i=0)==decide (j=0))&&(!decide (j<0)&& !decide (3<j))
def dJ:Nat→List eB→Bool
 |_,[]=>true
 |i,p::r=>(jOk i p.join&&nM p)&&dJ (i+1) r
def wt(l:List eB):Bool:= !decide (l.length<1)&&(!decide (16<l.length)&&(dJ 0 l&& !decide (4096<(dm [32] (lP l)).length)))
def ZV(b:Bool):V:= .i .i64 (if b=true then 0 else 2)
theorem lE:∀(l:List eB) (i:Nat),dJ i l=true→ ∀p∈l,0≤p.join∧p.join≤3
 |[],_,_,p,hp=>by cases hp
 |q::r,i,h,p,hp=>by
  rw[dJ,ay,ay]at h;rcases bf.1 hp with rfl|hp
  ·have:=h.1.1;unfold jOk at this;rw[ay,ay]at this;have a:=this.2.1;have b:=this.2.2;simp only[Bool.not_eq_true',decide_eq_false_iff_not]at a b;omega
  ·exact lE r _ h.2 p hp
theorem a01(n:Nat):decide ((16:Int)<(n:Int))=decide (16<n):=by congr 1;exact propext (by omega)
theorem Lv(n:Nat):decide ((4096:Int)<(n:Int))=decide (4096<n):=by congr 1;exact propext (by omega)
theorem b64(n:Nat):decide ((n:Int)=0)=decide (n=0):=by congr 1;exact propext (by omega)
theorem w17(Φ:Nat→Option CF)(h:Φ 17=some XY)(h40:Φ 40=some Qm)(h63:Φ 63=some Lh)(h62:Φ 62=some Eg)(h80:Φ 80=some Eh)(h81:Φ 81=some Ei)(h82:Φ 82=some Ge)(h90:Φ 90=some Ej)(h83:Φ 83=some Ck)(h61:Φ 61=some zY)(h39:Φ 39=some Ql)(h33:Φ 33=some Ga)(h57:Φ 57=some vd)(h58:Φ 58=some Lg)(h59:Φ 59=some yY)(h60:Φ 60=some Gb)(h79:Φ 79=some Li)(h89:Φ 89=some Gf)(h77:Φ 77=some (.orc (aN h77)))(h52:Φ 52=some wp)(h54:Φ 54=some wq)(h71:Φ 71=some tJ){F:RO}{M:Mem}{c:Nat}(ok:cV F M c){vl:V}{l:List eB}(hl:iT F M c vl l)(hS:∀p∈l,P8 p)(hz:dt (lP l)≤1000000):
 Calls Φ F 17 [.g [vl]] M c fun r M' c'=>r=ZV (wt l)∧Gr c M c' M':=by
 refine aI h ?_
 obtain⟨y1,y2,y3⟩:=hl.one
 have hG:∀v,flatten (V.g [v])=[v]:=fun _=>rfl
 have n1:=hl.len
 have mx:=hl.max
 have gX:=(Gr.refl ok).set c (af 25 [vl]) (ag _) (aA _) (aP _)
 have m0:(M.set c (af 25 [vl])).get c=some (af 25 [vl]):=am _ _ _
 have kX:load1 F (M.set c (af 25 [vl])) c 0=some vl:=aq m0 0
 have lX:loadN F (M.set c (af 25 [vl])) c 0 1=some [vl]:=bc m0 1 rfl
 have hX:=hl.grow gX
 simp only[WX,DP,hG,y3,kX,n1,be]
 generalize M.set c (af 25 [vl])=X at gX m0 hX kX lX⊢
 have okX:=gX.ok ok
 have dl:=Y4 l.length
 have dg:=a01 l.length
 have BAD:∀b,wt l=b→(b=false→(V.i IntKind.i64 2)=ZV (wt l)):=by intro b hb h0;rw[hb,h0];rfl
 by_cases hl1:l.length<1
 ·rw[aj hl1]at dl;simp only[WX,DP,dl];exact⟨BAD _ rfl (by unfold wt;rw[aj hl1];rfl),gX⟩
 rw[ak hl1]at dl
 by_cases hl16:16<l.length
 ·rw[aj hl16]at dg;simp only[WX,DP,dl,dg,kX,n1,be];exact⟨BAD _ rfl (by unfold wt;rw[aj hl16];simp),gX⟩
 rw[ak hl16]at dg
 simp only[WX,DP,dl,dg,kX,n1,be]
 have CH:wt l=(dJ 0 l&& !decide (4096<(dm [32] (lP l)).length)):=by unfold wt;rw[ak hl1,ak hl16];rfl
 obtain⟨I,hI⟩:∃I:Nat→St→Prop,∀n s',I n s'↔(∃(i c1:Nat) (M1:Mem) (u:List (Option V)),n=l.length-i∧i≤l.length∧s'= .mk ((aS9 u (.p c 0) vl (.i .i64 (l.length:Int)) (.i .i64 (i:Int)))) [] M1 c1∧Gr (c+1) X c1 M1∧dJ 0 l=dJ i (l.drop i)):=⟨fun n s'=>_,fun _ _=>Iff.rfl⟩
 refine bT I ?_ l.length _ ((hI _ _).2 ⟨0,_,_,(X1 (G1 (X8 (X4 (X2 (G2 (G1 (cP (X8 (X4 [])))))))))),rfl,aB _,rfl,Gr.refl okX,rfl⟩)
 intro n s' hIs
 obtain⟨i,c1,M1,u,rfl,hi,rfl,gr,he⟩:=(hI _ _).1 hIs
 clear hIs
 by_cases hlt:i<l.length
 ·have q8:du .add (.i .i64 (i:Int)) (.i .i64 1)=some (.i .i64 ((i+1:Nat):Int)):=by rw[bJ _ _ (by omega) (by omega)];simp
  have d1:decide ((i:Int)<(l.length:Int))=true:=aj (by omega);obtain⟨b,o,e,hbx,ia,ld,el,hp⟩:=(hX.grow gr).at (by decide) i hlt;have ia:=ia .i64;have hd:l.drop i=l[i]::l.drop (i+1):=cF hlt;rw[hd,dJ]at he;have hSi:=hS l[i] (List.getElem_mem _);generalize l[i]=p at hp he hSi;have hp':=hp;obtain⟨vi,vo,vc,rfl,a1,a2,a3⟩:=hp;obtain⟨p1,p2,p3⟩:=a1.one;obtain⟨o1,o2,o3⟩:=a2.one;obtain⟨r1,r2,r3⟩:=a3.one;have hG6:flatten (V.g [.i .i64 p.join,.b p.nt,vi,vo,.b p.beh,vc])=[.i .i64 p.join,.b p.nt,vi,vo,.b p.beh,vc]:=rfl;have hA6:aC [.i .i64 p.join,.b p.nt,vi,vo,.b p.beh,vc]=true:=by
   rw[aE,aE,aE,aE,aE,aE,ce,p1,o1,r1];rfl
  have ok1:=gr.ok okX;have sn:bK (M1.set c1 (af 39 [.i .i64 0,.b false,.l0,.l0,.b false,.l0])) c1 0 [.i .i64 p.join,.b p.nt,vi,vo,.b p.beh,vc]=some (M1.set c1 (af 39 [.i .i64 p.join,.b p.nt,vi,vo,.b p.beh,vc])):=eQ rfl hA6;have gY:=(Gr.refl ok1).set c1 (af 39 [.i .i64 p.join,.b p.nt,vi,vo,.b p.beh,vc]) (ag _) (aA _) (aP _);have my:(M1.set c1 (af 39 [.i .i64 p.join,.b p.nt,vi,vo,.b p.beh,vc])).get c1=some (af 39 [.i .i64 p.join,.b p.nt,vi,vo,.b p.beh,vc]):=am _ _ _;have k0:load1 F (M1.set c1 (af 39 [.i .i64 p.join,.b p.nt,vi,vo,.b p.beh,vc])) c1 0=some (.i .i64 p.join):=aq my 0;have k6:loadN F (M1.set c1 (af 39 [.i .i64 p.join,.b p.nt,vi,vo,.b p.beh,vc])) c1 0 6=some [.i .i64 p.join,.b p.nt,vi,vo,.b p.beh,vc]:=bc my 6 rfl;generalize M1.set c1 (af 39 [.i .i64 p.join,.b p.nt,vi,vo,.b p.beh,vc])=Y at sn gY my k0 k6;have okY:=gY.ok ok1;have gXY:=gX.trans (gr.trans gY);simp only[WX,Nat.reduceAdd,DP,d1,ia,ld,hG6,Bool.and_self,sn,k0,be];have dz:=b64 i;unfold jOk at he;obtain⟨a,ha⟩:∃a,decide (i=0)=a:=⟨_,rfl⟩
  obtain⟨z,hz'⟩:∃z,decide (p.join=0)=z:=⟨_,rfl⟩
  obtain⟨x,hx⟩:∃x,decide (p.join<0)=x:=⟨_,rfl⟩
  obtain⟨w,hw⟩:∃w,decide (3<p.join)=w:=⟨_,rfl⟩
  rw[ha,hz',hx,hw]at he;rw[ha]at dz;have NO:dJ 0 l=false→ ∀M' c',Gr c M c' M'→(V.i IntKind.i64 2)=ZV (wt l)∧Gr c M c' M':=fun hn M' c' g=>⟨BAD _ rfl (by rw[CH,hn];rfl),g⟩;by_cases haz:a=z
  ·have dz2:decide (a=z)=true:=aj haz;have az2:(a==z)=true:=by rw[haz];simp
   rw[az2]at he;cases x with
   |true=>
    simp only[WX,DP,dz,hz',hx,dz2,k0,be];exact NO (by rw[he];rfl) _ _ gXY
   |false=>
    cases w with
    |true=>
     simp only[WX,DP,dz,hz',hx,hw,dz2,k0,be];exact NO (by rw[he];rfl) _ _ gXY
    |false=>
     simp only[WX,dz,hz',hx,hw,dz2,k0,k6,be];refine aw ((w40 Φ h40 h63 h62 h80 h81 h82 h90 h83 h61 h77 okY (P1.grow gY _ _ hp') hSi).mono ?_);rintro r M2 c2 ⟨rfl,g2⟩;cases hpo:nM p with
     |false=>
      rw[hpo]at he;simp only[WX,DP];exact NO (by rw[he];rfl) _ _ (gXY.trans g2)
     |true=>
      rw[hpo]at he;simp only[WX,DP,q8];exact⟨l.length-(i+1),by omega,(hI _ _).2 ⟨i+1,_,_,(X1 (G1 (X8 (X4 (X2 (G2 (G1 (cP (X8 (X4 [])))))))))),rfl,hlt,rfl,gr.trans (gY.trans g2),by rw[he];rfl⟩⟩
  ·have dz2:decide (a=z)=false:=ak haz;have az2:(a==z)=false:=by simpa using haz
   rw[az2]at he;simp only[WX,DP,dz,hz',dz2];exact NO (by rw[he];rfl) _ _ gXY
 ·obtain rfl:i=l.length:=by omega
  have d1:decide ((l.length:Int)<(l.length:Int))=false:=ak (by omega);rw[cZ,dJ]at he;have lx:loadN F M1 c 0 1=some [vl]:=(gr.loadN (aA _) _ _).trans lX;simp only[WX,DP,d1,lx];refine aw ((w39 Φ h39 h33 h57 h58 h59 h60 h79 h89 h77 h52 h54 h71 (gr.ok okX) (hX.grow gr) (lE l 0 he) hS hz).mono ?_);rintro r M2 c2 ⟨rfl,g2⟩;have dW:=Lv (dm [32] (lP l)).length;rw[he,Bool.true_and]at CH;cases hW:decide (4096<(dm [32] (lP l)).length)with
  |true=>
   rw[hW]at dW CH;simp only[WX,DP,dW];exact⟨BAD _ rfl CH,gX.trans (gr.trans g2)⟩
  |false=>
   rw[hW]at dW CH;simp only[WX,DP,dW];exact⟨by rw[CH];rfl,gX.trans (gr.trans g2)⟩
def FO(l:List eB):V:=if wt l=true then .t [sV (dm [32] (lP l)),.i .i64 0]else .t [.s 0 0,.i .i64 2]
theorem w16(Φ:Nat→Option CF)(h:Φ 16=some c16)(h17:Φ 17=some XY)(h40:Φ 40=some Qm)(h63:Φ 63=some Lh)(h62:Φ 62=some Eg)(h80:Φ 80=some Eh)(h81:Φ 81=some Ei)(h82:Φ 82=some Ge)(h90:Φ 90=some Ej)(h83:Φ 83=some Ck)(h61:Φ 61=some zY)(h39:Φ 39=some Ql)(h33:Φ 33=some Ga)(h57:Φ 57=some vd)(h58:Φ 58=some Lg)(h59:Φ 59=some yY)(h60:Φ 60=some Gb)(h79:Φ 79=some Li)(h89:Φ 89=some Gf)(h77:Φ 77=some (.orc (aN h77)))(h52:Φ 52=some wp)(h54:Φ 54=some wq)(h71:Φ 71=some tJ){F:RO}{M:Mem}{c:Nat}(ok:cV F M c){vl:V}{l:List eB}(hl:iT F M c vl l)(hS:∀p∈l,P8 p)(hz:dt (lP l)≤1000000):
 Calls Φ F 16 [.g [vl]] M c fun r M' c'=>r=FO l∧Gr c M c' M':=by
 refine aI h ?_
 obtain⟨y1,y2,y3⟩:=hl.one
 have hG:∀v,flatten (V.g [v])=[v]:=fun _=>rfl
 have gX:=(Gr.refl ok).set c (af 25 [vl]) (ag _) (aA _) (aP _)
 have m0:(M.set c (af 25 [vl])).get c=some (af 25 [vl]):=am _ _ _
 have lX:loadN F (M.set c (af 25 [vl])) c 0 1=some [vl]:=bc m0 1 rfl
 have hX:=hl.grow gX
 have okX:=gX.ok ok
 simp only[WX,B16,hG,y3,lX]
 refine aw ((w17 Φ h17 h40 h63 h62 h80 h81 h82 h90 h83 h61 h39 h33 h57 h58 h59 h60 h79 h89 h77 h52 h54 h71 okX hX hS hz).mono ?_)
 rintro r M2 c2 ⟨rfl,g2⟩
 have l2:loadN F M2 c 0 1=some [vl]:=(g2.loadN (aA _) _ _).trans lX
 unfold FO
 cases hc:wt l with
 |false=>
  have e2:ZV false= .i .i64 2:=rfl;have d2:decide (¬((2:Int)=0))=true:=rfl;simp only[WX,B16,e2,d2];exact gX.trans g2
 |true=>
  have e2:ZV true= .i .i64 0:=rfl;have d2:decide (¬((0:Int)=0))=false:=rfl;have hpj:dJ 0 l=true:=by
   unfold wt at hc;rw[ay,ay,ay]at hc;exact hc.2.2.1
  simp only[WX,B16,e2,d2,l2];refine aw ((w39 Φ h39 h33 h57 h58 h59 h60 h79 h89 h77 h52 h54 h71 (g2.ok okX) (hX.grow g2) (lE l 0 hpj) hS hz).mono ?_);rintro r M3 c3 ⟨rfl,g3⟩;simp only[WX];exact gX.trans (g2.trans g3)
end
end Go.Proofs.YtmbpllipombieaaDoor.Ev
