/- What is proved here: pieces of the evaluator's soundness: if the evaluator comes to a value, the model's run comes to it, for every world and tape; no conditions beyond the hypotheses of each theorem. -/
import Derived.Test.YtmbpllipombieaaDoorEv7
set_option linter.unusedSimpArgs false
set_option linter.unusedVariables false
set_option linter.defProp false
set_option maxRecDepth 10000
set_option maxHeartbeats 16000000
namespace Go.Proofs.YtmbpllipombieaaDoor.Ev
open Go
noncomputable section
def Gl(p:fm):Prop:=(∀q∈p.inp,q.1.length≤1000000)∧(∀q∈p.out,q.1.length≤1000000)∧(∀x∈p.cmds,Gh x)∧p.inp.length≤1000000∧p.out.length≤1000000
theorem C7(w:List Pc):decide ((0:Int)<(w.length:Int))=hasW w:=by unfold hasW;congr 1;exact propext (by omega)
theorem XO(n:Nat):decide ((n:Int)<1)=decide (n<1):=by congr 1;exact propext (by omega)
theorem aQ4(n:Nat):decide ((6:Int)<(n:Int))=decide (6<n):=by congr 1;exact propext (by omega)
theorem w40(Φ:Nat→Option CF)(h:Φ 40=some c40)(h63:Φ 63=some PU)(h62:Φ 62=some KW)(h80:Φ 80=some L0)(h81:Φ 81=some L4)(h82:Φ 82=some OY)(h90:Φ 90=some L5)(h83:Φ 83=some FX)(h61:Φ 61=some Ec)(h77:Φ 77=some (.orc (bh h77))){F:RO}{M:Mem}{c:Nat}(ok:cU F M c){e:List V}{p:fm}(hp:P1 F M c e p)(hs:Gl p):
 Calls Φ F 40 [.g e] M c fun r M' c'=>r= .b (kl p)∧Gr c M c' M':=by
 refine aM h ?_
 obtain⟨vi,vo,vc,rfl,hi,ho,hc⟩:=hp
 obtain⟨hsi,hso,hsc,_,_⟩:=hs
 obtain⟨y1,y2,_⟩:=hi.one
 obtain⟨z1,z2,_⟩:=ho.one
 obtain⟨x1,_,_⟩:=hc.one
 have hG:flatten (V.g [.i .i64 p.join,.b p.nt,vi,vo,.b p.beh,vc])=[.i .i64 p.join,.b p.nt,vi,vo,.b p.beh,vc]:=rfl
 have hA:aE [.i .i64 p.join,.b p.nt,vi,vo,.b p.beh,vc]=true:=by
  rw[aD,aD,aD,aD,aD,aD,cg,y1,z1,x1];rfl
 have gX:=(Gr.refl ok).set c (af 39 [.i .i64 p.join,.b p.nt,vi,vo,.b p.beh,vc]) (ah _) (aA _) (aG _)
 have m0:(M.set c (af 39 [.i .i64 p.join,.b p.nt,vi,vo,.b p.beh,vc])).get c=some (af 39 [.i .i64 p.join,.b p.nt,vi,vo,.b p.beh,vc]):=am _ _ _
 have hiX:=hi.grow gX
 have hoX:=ho.grow gX
 have hcX:=hc.grow gX
 have k2:load1 F (M.set c (af 39 [.i .i64 p.join,.b p.nt,vi,vo,.b p.beh,vc])) c 2=some vi:=aq m0 2
 have k3:load1 F (M.set c (af 39 [.i .i64 p.join,.b p.nt,vi,vo,.b p.beh,vc])) c 3=some vo:=aq m0 3
 have k4:load1 F (M.set c (af 39 [.i .i64 p.join,.b p.nt,vi,vo,.b p.beh,vc])) c 4=some (.b p.beh):=aq m0 4
 have k5:load1 F (M.set c (af 39 [.i .i64 p.join,.b p.nt,vi,vo,.b p.beh,vc])) c 5=some vc:=aq m0 5
 have okX:=gX.ok ok
 have hfr:=okX.free
 have ni:=hi.len
 have no:=ho.len
 have nc:=hc.len
 have di:=C7 p.inp
 have do':=C7 p.out
 have dl:=XO p.cmds.length
 have dg:=aQ4 p.cmds.length
 have l2:loadN F (M.set c (af 39 [.i .i64 p.join,.b p.nt,vi,vo,.b p.beh,vc])) c 2 1=some [vi]:=cV M c 2 1 39 [.i .i64 p.join,.b p.nt,vi,vo,.b p.beh,vc] (by simp)
 have l3:loadN F (M.set c (af 39 [.i .i64 p.join,.b p.nt,vi,vo,.b p.beh,vc])) c 3 1=some [vo]:=cV M c 3 1 39 [.i .i64 p.join,.b p.nt,vi,vo,.b p.beh,vc] (by simp)
 have PO:kl p=(!decide (p.cmds.length<1)&&(!decide (6<p.cmds.length)&&(!(p.beh&& !hasW p.out)&&(!(hasW p.inp&& !eN p.inp)&&(!(hasW p.out&& !eN p.out)&&p.cmds.all (yD p.cmds.length (hasW p.inp||hasW p.out))))))):=rfl
 have LAST:∀(M1:Mem) (c1:Nat) (u:List (Option V)),Gr (c+1) (M.set c (af 39 [.i .i64 p.join,.b p.nt,vi,vo,.b p.beh,vc])) c1 M1→kl p=p.cmds.all (yD p.cmds.length (hasW p.inp||hasW p.out))→Wp uy (K Φ none 40 F) (.mk ((Yp u (.p c 0) (.b (hasW p.inp)) (.b (hasW p.out)))) [] M1 c1) (nW F [.t (.r .h)] fun r M' c'=>r= .b (kl p)∧Gr c M c' M'):=by
  intro M1 c1 u g hpo;refine m40 Φ h63 h62 h80 h81 h82 h90 h83 h61 h77 (g.ok okX) (by have:=g.le;omega) (hcX.grow g) hsc ((g.load1 (aA _) 5).trans k5) (hasW p.inp) (hasW p.out) u _ ?_;intro u M2 c2 g2;simp only[WX];exact⟨by rw[hpo],gX.trans (g.trans g2)⟩
 have h0:aE [vi]=true∧aE [vo]=true:=⟨by rw[aD,cg,y1];rfl,by rw[aD,cg,z1];rfl⟩
 obtain⟨hA1,hA2⟩:=h0
 simp only[WX,Nat.reduceAdd,e40,YG,YH,YI,YJ,hG,y1,z1,x1,Bool.and_self,k2,k3,k5,ni,no,nc]
 generalize M.set c (af 39 [.i .i64 p.join,.b p.nt,vi,vo,.b p.beh,vc])=X at gX m0 hiX hoX hcX k2 k3 k4 k5 okX hfr l2 l3 LAST⊢
 have gX0:=gX
 have gX:=gX.up (show c+1≤c+13 by omega)
 by_cases n1:p.cmds.length<1
 ·rw[aj n1]at dl PO;simp only[WX,pm,di,do',dl];exact⟨by rw[PO];rfl,gX⟩
 rw[ak n1]at dl PO
 by_cases n6:6<p.cmds.length
 ·rw[aj n6]at dg PO;simp only[WX,pm,k5,nc,di,do',dl,dg];exact⟨by rw[PO];rfl,gX⟩
 rw[ak n6]at dg PO
 generalize hasW p.inp=I at di PO LAST
 generalize hasW p.out=O at do' PO LAST
 generalize p.beh=B at k4 PO
 have hG1:∀v,flatten (V.g [v])=[v]:=fun _=>rfl
 have INP:∀(M1:Mem) (c1:Nat),Gr (c+1) X c1 M1→nF (da (iL Φ) F 61 [.g [vi]] M1 c1 (Φ 61)) fun r M' c'=>r= .b (eN p.inp)∧Gr (c+1) X c' M':=fun M1 c1 g=>(w61 Φ h61 h77 (g.ok okX) (hiX.grow g) hsi).mono (by rintro r M2 c2 ⟨h1,h2⟩;exact⟨h1,g.trans h2⟩)
 have OUT:∀(M1:Mem) (c1:Nat),Gr (c+1) X c1 M1→nF (da (iL Φ) F 61 [.g [vo]] M1 c1 (Φ 61)) fun r M' c'=>r= .b (eN p.out)∧Gr (c+1) X c' M':=fun M1 c1 g=>(w61 Φ h61 h77 (g.ok okX) (hoX.grow g) hso).mono (by rintro r M2 c2 ⟨h1,h2⟩;exact⟨h1,g.trans h2⟩)
 have gR:Gr (c+1) X (c+13) X:=(Gr.refl okX).up (by omega)
 have L3:∀(M1:Mem) (c1:Nat),Gr (c+1) X c1 M1→loadN F M1 c 3 1=some [vo]:=fun M1 c1 g=>(g.loadN (aA _) _ _).trans l3
 cases O with
 |false=>
  cases B with
  |true=>
   simp only[WX,pm,k4,k5,nc,di,do',dl,dg];exact⟨by rw[PO];rfl,gX⟩
  |false=>
   cases I with
   |false=>
    simp only[WX,k4,k5,nc,di,do',dl,dg];exact LAST X _ (X1 (G1 (X1 (G2 (cF (cH (ce (X8 (X2 []))))))))) gR (by rw[PO];rfl)
   |true=>
    simp only[WX,k4,k5,nc,di,do',dl,dg,l2];refine av ((INP _ _ gR).mono ?_);rintro r M2 c2 ⟨rfl,g2⟩;cases hf:eN p.inp with
    |true=>
     rw[hf]at PO;simp only[WX];exact LAST M2 c2 (X1 (G1 (X1 (G2 (cF (cH (ce (X8 (X2 []))))))))) g2 (by rw[PO];rfl)
    |false=>
     rw[hf]at PO;simp only[WX,pm];exact⟨by rw[PO];rfl,gX0.trans g2⟩
 |true=>
  have PO:kl p=(!(I&& !eN p.inp)&&(!!eN p.out&&p.cmds.all (yD p.cmds.length (I||true)))):=by rw[PO];cases B<;>rfl
  cases B
  all_goals
   cases I with
   |false=>
    simp only[WX,k4,k5,nc,di,do',dl,dg,l3];refine av ((OUT _ _ gR).mono ?_);rintro r M2 c2 ⟨rfl,g2⟩;cases hf:eN p.out with
    |true=>
     rw[hf]at PO;simp only[WX];exact LAST M2 c2 (X1 (G1 (X1 (G2 (cF (cH (ce (X8 (X2 []))))))))) g2 (by rw[PO];rfl)
    |false=>
     rw[hf]at PO;simp only[WX,pm];exact⟨by rw[PO];rfl,gX0.trans g2⟩
   |true=>
    simp only[WX,k4,k5,nc,di,do',dl,dg,l2];refine av ((INP _ _ gR).mono ?_);rintro r M2 c2 ⟨rfl,g2⟩;cases hf:eN p.inp with
    |true=>
     rw[hf]at PO;have l3':=L3 M2 c2 g2;simp only[WX,l3'];refine av ((OUT _ _ g2).mono ?_);rintro r M3 c3 ⟨rfl,g3⟩;cases hf:eN p.out with
     |true=>
      rw[hf]at PO;simp only[WX];exact LAST M3 c3 (X1 (G1 (X1 (G2 (cF (cH (ce (X8 (X2 []))))))))) g3 (by rw[PO];rfl)
     |false=>
      rw[hf]at PO;simp only[WX,pm];exact⟨by rw[PO];rfl,gX0.trans g3⟩
    |false=>
     rw[hf]at PO;simp only[WX,pm];exact⟨by rw[PO];rfl,gX0.trans g2⟩
abbrev b09(u:List (Option V))(x1 x2 x6 x7 x8:V):T:=(.n (.n (.n (.n (eg u 15) (some x7) (eg u 23)) (uO u 3) (ek u 19 11 27)) (some x1) (aJ u 17 9 25 5 21 13 29)) (uO u 0) (.n (.n (.n (eg u 16) (some x8) (eg u 24)) (uO u 4) (ek u 20 12 28)) (some x2) (.n (ek u 18 10 26) (some x6) (ek u 22 14 30))))
def TO:CC:=(.reg [(aa a0 (.al 76 [(.s 0 0),(.s 0 0),(.s 0 0),(.s 0 0)]))])
def TP:CC:=(.reg [(qq a1 (.bld [(.s 0 0),(.s 0 0),(.s 0 0),(.s 0 0)] [(0,1,(.c (.s 0 0))),(1,1,(.c (.s 1 59))),(2,1,(.c (.s 2 9766))),(3,1,(.c (.s 2 31868)))])),(ez (.st 4 z0 z1))])
def OV:CF:= .mk 2 [.cn a0 4] (.seq TO (.seq TP .ret))
theorem e33:bA 2 []=nI:=rfl
def B33:=ai @e33 (ai (wu TO.eq_1) (wu TP.eq_1))
def V2:CC:=(.reg [(qq a3 (.ld1 z1)),(qq a4 (.mv z0)),(ee a5 (.app 9 1 16 z3 z4)),(ez (.st 1 z1 z5))])
def wz:CF:= .mk 3 [] V2
theorem e57(v0 v1:V):bA 3 [v0,v1]=(.n (.n sk1 (some v1) sk1) (some v0) nI):=rfl
def B57:=ai @e57 (wu V2.eq_1)
def V3:CC:=(.reg [(qq a5 (.fa 0 z2)),(qq a6 (.ld1 z5)),(qq a7 (.ln .slice z6)),(qq a8 (.mv (x6 0)))])
def V4:CC:=(.reg [(qq a9 (.bi .lss z8 z7))])
def V5:CC:=(.reg [(qq dV (.iaS 1 z6 z8)),(qq fo (.ldn 1 fT)),(aa a4 (.al 36 [.l0])),(ez (.st 1 z4 ec))])
def V6:CC:=(.dreg 5 [(0,0,(qq fF (.ld1 z1))),(1,0,(qq eO (.ldn 1 z4))),(2,2,(ee gp (.call 59 [ej]))),(3,6,(aa eC (.bsl 9 1 1 [(.s 0 0)] [(0,i9)]))),(4,15,(ee i7 (.cv eP [i5])))])
def V7:CC:=(.reg [(qq fY (.bi .add z8 (x6 1))),(qq a8 (.mv gy))])
def V8:CC:=(.seq (.cond z9 .skip (.exit 0)) (.seq (.block 1 (.seq V5 V6)) V7))
def V9:CC:=(.seq (.reg [(aa a2 (.bx 42 1 z0))]) (.seq V3 (.block 0 (.loop (.seq V4 V8)))))
def PT:CF:= .mk 5 [] V9
theorem e58(v0 v1:V):bA 5 [v0,v1]=(.n (.n ir (some v1) ir) (some v0) j1):=rfl
def B58:=ai @e58 (ai (wu V3.eq_1) (ai (wu V4.eq_1) (ai (wu V5.eq_1) (ai (wu V6.eq_1) (ai (wu V7.eq_1) (ai (wu V8.eq_1) (wu V9.eq_1)))))))
def Ac:Nat→List UInt8
 |1=>[59]
 |2=>[38,38]
 |3=>[124,124]
 |_=>[]
def LZ:V:= .g [sV (Ac 0),sV (Ac 1),sV (Ac 2),sV (Ac 3)]
theorem w33(Φ:Nat→Option CF)(h:Φ 33=some OV){F:RO}{M:Mem}{c:Nat}(ok:cU F M c):Calls Φ F 33 [] M c fun r M' c'=>r=LZ∧Gr c M c' M':=by
 refine aM h ?_
 have hG:flatten (V.g [V.s 0 0,.s 1 59,.s 2 9766,.s 2 31868])=[V.s 0 0,.s 1 59,.s 2 9766,.s 2 31868]:=rfl
 have sn:bN (M.set c (af 76 [V.s 0 0,.s 0 0,.s 0 0,.s 0 0])) c 0 [V.s 0 0,.s 1 59,.s 2 9766,.s 2 31868]=some (M.set c (af 76 [V.s 0 0,.s 1 59,.s 2 9766,.s 2 31868])):=fh rfl rfl
 have ld:=bj (F:=F) (am M c (af 76 [V.s 0 0,.s 1 59,.s 2 9766,.s 2 31868])) 4 rfl
 have gX:=(Gr.refl ok).set c (af 76 [V.s 0 0,.s 1 59,.s 2 9766,.s 2 31868]) (ah _) (aA _) (aG _)
 simp only[WX,Nat.reduceAdd,Nat.reduceLeDiff,B33,hG,sn,ld]
 exact⟨rfl,gX⟩
structure nG(M0:Mem)(c:Nat)(M1:Mem)(c1:Nat)(ws:List (List UInt8)):Prop where
 gr:Gr c M0 c1 M1
 hc:c+3≤c1
 m1:∃v b,M1.get (c+1)=some (af 69 [v])∧bm M1 (c+3) c1 b 9 1 v (fQ ws)
 m2:M1.get (c+2)=some (af 105 [.f 57 [] [.p (c+1) 0]])
def Kp(c:Nat)(M1:Mem)(c1:Nat)(M2:Mem)(c2:Nat):Prop:=c1≤c2∧ ∀x ty l,x<c1→x≠c+1→ty≠9→M1.get x=some (af ty l)→M2.get x=some (af ty l)
theorem Kp.refl{c c1:Nat}{M1:Mem}:Kp c M1 c1 M1 c1:=⟨ah _,fun _ _ _ _ _ _ h=>h⟩
theorem Kp.trans{c c1 c2 c3:Nat}{M1 M2 M3:Mem}(h:Kp c M1 c1 M2 c2)(h2:Kp c M2 c2 M3 c3):Kp c M1 c1 M3 c3:=⟨aY h.1 h2.1,fun x ty l h1 h3 h4 h5=>h2.2 x ty l (Nat.lt_of_lt_of_le h1 h.1) h3 h4 (h.2 x ty l h1 h3 h4 h5)⟩
theorem Kp.of{c c1 c2:Nat}{M1 M2:Mem}(g:Gr c1 M1 c2 M2):Kp c M1 c1 M2 c2:=⟨g.le,fun x _ _ h1 _ _ h=>(g.old x h1).trans h⟩
theorem nG.grow{M0 M1 M2:Mem}{c c1 c2:Nat}{ws:List (List UInt8)}(h:nG M0 c M1 c1 ws)(g:Gr c1 M1 c2 M2):nG M0 c M2 c2 ws:=by
 obtain⟨gr,hc,⟨v,b,h1,h2⟩,m2⟩:=h
 exact⟨⟨aY gr.le g.le,fun x hx=>(g.old x (by omega)).trans (gr.old x hx),g.new⟩,aY hc g.le,⟨v,b,(g.old _ (by omega)).trans h1,h2.gr g⟩,(g.old _ (by omega)).trans m2⟩
theorem Nv(a b:List (List UInt8)):fQ (a++b)=fQ a++fQ b:=List.map_append ..
theorem RH(l:List (List UInt8)):aE (fQ l).flatten=true:=by
 induction l with
 |nil=>rfl
 |cons w r ih=>show aE (sV w::(fQ r).flatten)=true;rw[aD,ih];rfl
theorem Rt{ty ty':Nat}{l l':List V}(h:ty≠ty'):pH ty l≠af ty' l':=by
 intro e;unfold pH af at e;injection e with e;exact h e
theorem w57(Φ:Nat→Option CF)(h:Φ 57=some wz){F:RO}{M0 M1:Mem}{c c1:Nat}{ws xs:List (List UInt8)}{vs:V}(hW:nG M0 c M1 c1 ws)(hv:cB F M1 c1 1 vs (fQ xs))(hz:dq (ws++xs)≤1000000):
 Calls Φ F 57 [vs,.p (c+1) 0] M1 c1 fun _ M' c'=>nG M0 c M' c' (ws++xs)∧Kp c M1 c1 M' c':=by
 refine aM h ?_
 obtain⟨gr,hc,⟨v,b0,h1,h2⟩,m2⟩:=hW
 obtain⟨b,h2,hbk⟩:∃b,bm M1 (c+3) c1 b 9 1 v (fQ ws)∧ ∀x ty l,x<c1→ty≠9→M1.get x=some (af ty l)→x≠b:=by
  rcases h2 with⟨a0,⟨a1,a2⟩|⟨a1,a2,a3,a4⟩⟩
  ·exact⟨c1,⟨a0,.inl ⟨a1,a2⟩⟩,fun x _ _ hx _ _=>by omega⟩
  ·refine⟨b0,⟨a0,.inr ⟨a1,a2,a3,a4⟩⟩,fun x ty l hx hty hm e=>?_⟩;subst e;rw[a4]at hm;exact Rt (Ne.symm hty) (ae hm)
 have l1:load1 F M1 (c+1) 0=some v:=aq h1 0
 have gA:Gr (c+3) M1 c1 M1:=⟨hc,fun _ _=>rfl,gr.new⟩
 have hll:=vz (ws++xs)
 have hn:(fQ ws).length+(fQ xs).length≤1000000:=by
  rw[aO]at hll;unfold fQ;rw[List.length_map,List.length_map];omega
 simp only[WX,B57,l1]
 refine av ((j5 (bytes:=16) h2 gA (by decide) hv (RH xs) (gk (by omega) (by omega))).mono ?_)
 rintro v' M2 c2 ⟨b',hA,g2,hle,hfr,hb'⟩
 have w3:bD v'=true∧flatten v'=[v']∧aE [v']=true:=by
  rcases hA with⟨_,⟨_,rfl⟩|⟨_,_,rfl,_⟩⟩<;>exact⟨rfl,rfl,rfl⟩
 obtain⟨w1,w2,w3⟩:=w3
 have st:=aK ((g2.old (c+1) (by omega)).trans h1) 0 [v'] (by simp) w3
 simp only[WX,w2,st]
 refine⟨⟨⟨by have:=gr.le;omega,fun x hx=>by rw[ag _ _ (by omega)];exact(g2.old x (by omega)).trans (gr.old x hx),fun x hx=>by rw[ag _ _ (by omega)];exact g2.new x hx⟩,by omega,⟨v',b',am _ _ _,?_⟩,by rw[ag _ _ (by omega)];exact(g2.old _ (by omega)).trans m2⟩,hle,fun x ty l hx hn hty hm=>?_⟩
 ·rw[Nv];exact jQ hA (by omega)
 ·rw[ag _ _ hn,hfr x hx (hbk x ty l hx hty hm)];exact hm
theorem mi{F:RO}{M:Mem}{c b:Nat}(xs:List (List UInt8))(h:M.get b=some (bK [V.s 0 0] 9 (xs.map sV)))(hb:b<c):cB F M c 1 (.l b 0 xs.length xs.length) (fQ xs):=by
 have e:(fQ xs).flatten=xs.map sV:=by
  clear h
  induction xs with
  |nil=>rfl
  |cons w r ih=>show sV w::(fQ r).flatten=_;rw[ih];rfl
 exact Nl (d:=[V.s 0 0]) (ty:=9) (by rw[h,e]) hb (fun e he=>by obtain⟨x,_,rfl⟩:=List.mem_map.1 he;rfl) (by unfold fQ;rw[List.length_map])
theorem Ny{a b c:List (List UInt8)}(h:dq (a++(b++c))≤1000000):dq (a++b)≤1000000:=by rw[bO]at *;rw[bO]at h;omega
theorem w58(Φ:Nat→Option CF)(h:Φ 58=some PT)(h57:Φ 57=some wz)(h59:Φ 59=some C3)(h77:Φ 77=some (.orc (bh h77)))(h52:Φ 52=some yB)(h54:Φ 54=some yC)(h71:Φ 71=some vW){F:RO}{M0 M1:Mem}{c c1:Nat}{ws:List (List UInt8)}(ok0:cU F M0 c)(hW:nG M0 c M1 c1 ws){x:V}{l:hU}(hl:eM F M0 c x l)(hs:Gh l)(hz:dq (ws++l.map dm)≤1000000):
 Calls Φ F 58 [.g [x],.p (c+2) 0] M1 c1 fun _ M' c'=>nG M0 c M' c' (ws++l.map dm)∧Kp c M1 c1 M' c':=by
 refine aM h ?_
 obtain⟨y1,y2,y3⟩:=hl.one
 have hG:∀v,flatten (V.g [v])=[v]:=fun _=>rfl
 have ok1:=hW.gr.ok ok0
 have gX:=(Gr.refl ok1).set c1 (af 42 [x]) (ah _) (aA _) (aG _)
 have k0:load1 F (M1.set c1 (af 42 [x])) c1 0=some x:=aq (am _ _ _) 0
 have n1:=hl.len
 have mx:=hl.max
 simp only[WX,B58,hG,y3,k0,n1]
 have hWX:=hW.grow gX
 have KX:Kp c M1 c1 (M1.set c1 (af 42 [x])) (c1+1):=Kp.of gX
 generalize M1.set c1 (af 42 [x])=X at gX hWX KX⊢
 clear k0
 obtain⟨I,hI⟩:∃I:Nat→St→Prop,∀n s',I n s'↔(∃(i c2:Nat) (M2:Mem) (u:List (Option V)),n=l.length-i∧i≤l.length∧s'= .mk ((b09 u (.p (c+2) 0) (.p c1 0) x (.i .i64 (l.length:Int)) (.i .i64 (i:Int)))) [] M2 c2∧nG M0 c M2 c2 (ws++(l.take i).map dm)∧Kp c M1 c1 M2 c2):=⟨fun n s'=>_,fun _ _=>Iff.rfl⟩
 refine bS I ?_ l.length _ ((hI _ _).2 ⟨0,_,_,(X1 (G2 (X2 (X1 (G2 (G1 (ce (X4 (X2 []))))))))),rfl,az _,rfl,by simpa using hWX,KX⟩)
 intro n s' hIs
 obtain⟨i,c2,M2,u,rfl,hle,rfl,hW2,K2⟩:=(hI _ _).1 hIs
 clear hIs
 by_cases hlt:i<l.length
 ·have q8:cZ .add (.i .i64 (i:Int)) (.i .i64 1)=some (.i .i64 ((i+1:Nat):Int)):=by rw[bF _ _ (by omega) (by omega)];simp
  have d1:decide ((i:Int)<(l.length:Int))=true:=aj (by omega);have ok2:=hW2.gr.ok ok0;obtain⟨b,o,y,hbx,ia,_,ld,hw⟩:=cA.at1 (hl.grow hW2.gr) i hlt;have ia:=ia .i64;have hw0:dt F M2 c2 y l[i]:=hw;have htk:(l.take (i+1)).map dm=(l.take i).map dm++[dm l[i]]:=by rw[List.take_succ_eq_append_getElem hlt,List.map_append];rfl
  have hz1:dq (ws++((l.take i).map dm++[dm l[i]]))≤1000000:=by
   rw[←htk];have e:=(List.take_append_drop (i+1) l)
   have:l.map dm=(l.take (i+1)).map dm++(l.drop (i+1)).map dm:=by rw[←List.map_append,e]
   rw[this]at hz;exact Ny hz
  have hsi:=hs l[i] (List.getElem_mem _);generalize l[i]=w at hw0 htk hz1 hsi;rw[←bM]at hz1;have hwl:(dm w).length≤1000000:=by
   rw[bO]at hz1;simp only[dq]at hz1;omega
  obtain⟨z1,z2,z3⟩:=hw0.one;have gY:=(Gr.refl ok2).set c2 (af 36 [y]) (ah _) (aA _) (aG _);have sn:bN (M2.set c2 (af 36 [.l0])) c2 0 [y]=some (M2.set c2 (af 36 [y])):=fh rfl z3;have kY:loadN F (M2.set c2 (af 36 [y])) c2 0 1=some [y]:=bj (am _ _ _) 1 rfl;have hWY:=hW2.grow gY;have KY:=K2.trans (Kp.of gY);generalize(l.take i).map dm=T at htk hz1 hW2 hWY;generalize hYe:M2.set c2 (af 36 [y])=Y at gY sn kY hWY KY;have okY:=gY.ok ok2;have hfr:=okY.free;have b2:load1 F Y (c+2) 0=some (.f 57 [] [.p (c+1) 0]):=aq hWY.m2 0;simp only[WX,Nat.reduceAdd,B58,d1,ia,ld,hG,sn,kY,b2];have g5:Gr (c2+1) Y (c2+6) Y:=(Gr.refl okY).up (by omega);have ok5:=g5.ok okY;have hwY:=(hw0.grow gY).grow g5;refine u7 _ _ _ _ _ _ _ _ _ _ _ ok5 ?_;intro F1 N1 okn hlk;refine(show nF (da (iL Φ) F1 59 [.g [y]] N1 (c2+6) (Φ 59)) _ from(w59 Φ h59 h77 h52 h54 h71 okn (hwY.lk hlk) hsi hwl).mono ?_);rintro r M3 c3 ⟨rfl,g3⟩;refine⟨g3,fun M4 g4 _=>?_⟩;have hle3:=g4.le;have lk:(look F M4 (c2+4)).isNone=true:=by rw[cz (g4.old _ (by omega)),okY.look (by omega)];rfl
  have hc2:=hW2.hc;have rf:bQ (c2+4) [(1,c2),(0,c+2)]=true:=by rw[bv _ _ _ _ (by omega),bv _ _ _ _ (by omega),cI]
  have gZ:=(g5.trans g4).set (c2+4) (bK [V.s 0 0] 9 [sV (dm w)]) (by omega) (by omega) (ah _);have hF:flatten (sV (dm w))=[sV (dm w)]:=rfl;have hO:bD (sV (dm w))=true:=rfl;simp only[WX,Nat.reducePow,Nat.reduceDiv,Nat.reduceMod,Nat.reduceBEq,Nat.reduceAdd,lk,rf,vF,ng,rV,hF,hO];refine fe ((w57 Φ h57 (hWY.grow gZ) (mi [dm w] (am _ _ _) (by omega)) hz1).mono ?_);rintro _ M5 c5 ⟨hW5,K5⟩;refine⟨(hW5.gr.ok ok0).free,?_⟩;simp only[WX,B58,q8];exact⟨l.length-(i+1),by omega,(hI _ _).2 ⟨i+1,_,_,(X1 (G2 (X2 (X1 (G2 (G1 (ce (X4 (X2 []))))))))),rfl,hlt,rfl,by rw[htk,←bM];exact hW5,(KY.trans (Kp.of gZ)).trans K5⟩⟩
 ·obtain rfl:i=l.length:=by omega
  have d1:decide ((l.length:Int)<(l.length:Int))=false:=ak (by omega);rw[List.take_length]at hW2;simp only[WX,B58,d1];exact⟨hW2,K2⟩
abbrev kv(u:List (Option V))(x1 x3 x4 x5 x7 x13 x14 x15:V):T:=(.n (.n (.n (.n (.n (ek u 63 31 95) (some x15) (ek u 79 47 111)) (some x7) (aJ u 71 39 103 23 87 55 119)) (some x3) (.n (aJ u 67 35 99 19 83 51 115) (uO u 11) (aJ u 75 43 107 27 91 59 123))) (some x1) (.n (.n (aJ u 65 33 97 17 81 49 113) (uO u 9) (aJ u 73 41 105 25 89 57 121)) (some x5) (.n (aJ u 69 37 101 21 85 53 117) (some x13) (aJ u 77 45 109 29 93 61 125)))) (uO u 0) (.n (.n (.n (aJ u 64 32 96 16 80 48 112) (uO u 8) (aJ u 72 40 104 24 88 56 120)) (some x4) (.n (aJ u 68 36 100 20 84 52 116) (uO u 12) (aJ u 76 44 108 28 92 60 124))) (uO u 2) (.n (.n (aJ u 66 34 98 18 82 50 114) (uO u 10) (aJ u 74 42 106 26 90 58 122)) (uO u 6) (.n (aJ u 70 38 102 22 86 54 118) (some x14) (aJ u 78 46 110 30 94 62 126)))))
abbrev Yr(u:List (Option V))(x1 x3 x4 x5 x7 x8 x13 x14 x15 x35 x36 x37:V):T:=(.n (.n (.n (.n (.n (ek u 63 31 95) (some x15) (ek u 79 47 111)) (some x7) (aJ u 71 39 103 23 87 55 119)) (some x3) (.n (.n (.n (eg u 67) (some x35) (eg u 99)) (uO u 19) (ek u 83 51 115)) (uO u 11) (aJ u 75 43 107 27 91 59 123))) (some x1) (.n (.n (aJ u 65 33 97 17 81 49 113) (uO u 9) (aJ u 73 41 105 25 89 57 121)) (some x5) (.n (.n (.n (eg u 69) (some x37) (eg u 101)) (uO u 21) (ek u 85 53 117)) (some x13) (aJ u 77 45 109 29 93 61 125)))) (uO u 0) (.n (.n (.n (aJ u 64 32 96 16 80 48 112) (some x8) (aJ u 72 40 104 24 88 56 120)) (some x4) (.n (.n (.n (eg u 68) (some x36) (eg u 100)) (uO u 20) (ek u 84 52 116)) (uO u 12) (aJ u 76 44 108 28 92 60 124))) (uO u 2) (.n (.n (aJ u 66 34 98 18 82 50 114) (uO u 10) (aJ u 74 42 106 26 90 58 122)) (uO u 6) (.n (aJ u 70 38 102 22 86 54 118) (some x14) (aJ u 78 46 110 30 94 62 126)))))
def TQ:CC:=(.reg [(aa a1 (.bx 25 1 z0)),(qq a2 (.mv (.c (.s 0 0))))])
def b52:=wu TQ.eq_1
def TR:CC:=(.reg [(qq dV (.mkf 57 [] [z3])),(aa a4 (.al 105 [.f0])),(ez (.st 1 z4 fT))])
def b53:=wu TR.eq_1
def TS:CC:=(.reg [(qq fo (.mkf 58 [] [z4])),(qq a5 (.mv ec))])
def b54:=wu TS.eq_1
def TU:CC:=(.reg [(qq fF (.fa 0 z1)),(qq eO (.ld1 eP)),(qq gp (.ln .slice ej)),(qq eC (.mv (x6 0)))])
def b55:=wu TU.eq_1
def TV:CC:=(.reg [(qq i7 (.bi .lss i5 i9))])
def YE:=wu TV.eq_1
def TW:CC:=(.reg [(qq fY (.iaS 6 ej i5)),(qq gG (.ldn 6 gy)),(aa a7 (.al 39 [(.i .i64 0),(.b false),.l0,.l0,(.b false),.l0])),(ez (.st 6 z7 ju))])
def YF:=wu TW.eq_1
def TX:CC:=(.reg [(qq kG (.fa 0 z7)),(qq jI (.ld1 mA)),(qq i4 (.bi .gtr mB (x6 0)))])
def b56:=wu TX.eq_1
def TY:CC:=(.dreg 7 [(0,0,(qq lw (.ld1 z4))),(2,0,(qq jJ (.fa 0 z7))),(3,4,(qq mq (.ld1 oJ))),(1,0,(ee kH (.call 33 []))),(4,14,(qq lL (.ixA1 4 1 mC qh))),(5,30,(aa iH (.bsl 9 1 1 [(.s 0 0)] [(0,pL)]))),(6,63,(ee nO (.cv nL [nE])))])
def b57:=wu TY.eq_1
def Ii:CC:=(.seq TX (.cond nK TY .skip))
def b58:=wu Ii.eq_1
def HU:CC:=(.reg [(qq kI (.fa 1 z7)),(qq lM (.ld1 qj))])
def aq6:=wu HU.eq_1
def HV:CC:=(.reg [(qq mr (.ld1 z4)),(aa sf (.bsl 9 1 1 [(.s 0 0)] [(0,(.c (.s 1 33)))])),(ee sg (.cv sk [vN]))])
def aq7:=wu HV.eq_1
def zk:CC:=(.seq HU (.cond rZ HV .skip))
def aq8:=wu zk.eq_1
def HW:CC:=(.reg [(qq pM (.fa 5 z7)),(qq lm (.ld1 vO)),(qq sP (.ln .slice vP)),(qq po (.mv (x6 0)))])
def NR:=wu HW.eq_1
def zl:CC:=(.reg [(qq mt (.bi .lss ua yp))])
def NS:=wu zl.eq_1
def HX:CC:=(.reg [(qq nP (.mv ua)),(qq sQ (.iaS 1 vP ua)),(qq sw (.ldn 1 yq)),(aa a9 (.al 42 [.l0])),(qq a8 (.mv w7)),(ez (.st 1 z9 vQ))])
def NT:=wu HX.eq_1
def HY:CC:=(.reg [(qq sR (.mv z8)),(qq sS (.bi .gtr yr (x6 0)))])
def aq9:=wu HY.eq_1
def HZ:CC:=(.reg [(qq qy (.ld1 z4)),(aa ui (.bsl 9 1 1 [(.s 0 0)] [(0,(.c (.s 1 124)))])),(ee nQ (.cv w8 [yI]))])
def ar0:=wu HZ.eq_1
def zm:CC:=(.seq HY (.cond yt HZ .skip))
def ar1:=wu zm.eq_1
def I0:CC:=(.reg [(qq uj (.mv z5)),(qq vR (.ldn 1 z9)),(ee wh (.cv yJ [BA]))])
def NU:=wu I0.eq_1
def I3:CC:=(.reg [(qq wj (.mv z8)),(qq wl (.bi .eql FJ (x6 0))),(qq sy (.mv Dj)),(aR yQ (.fa 2 z7) sy),(aR BG (.fa 0 G5) sy),(aR BH (.ld1 G6) sy),(aR yR (.ln .slice Ow) sy),(aR BI (.bi .gtr FK (x6 0)) sy),(qq BJ (.pk Dk Ox xF))])
def NW:=wu I3.eq_1
def zn:CC:=(.dreg 6 [(0,0,(qq vT (.ld1 z4))),(1,0,(qq BK (.fa 2 z7))),(2,2,(qq vU (.ldn 1 OA))),(3,6,(ee BL (.call 59 [P4]))),(4,14,(aa vV (.bsl 9 2 1 [(.s 0 0)] [(0,(.c (.s 1 60))),(1,OB)]))),(5,31,(ee BM (.cv Oz [FL])))])
def ar2:=wu zn.eq_1
def I4:CC:=(.seq I3 (.cond Oy zn .skip))
def NX:=wu I4.eq_1
def I5:CC:=(.reg [(qq yS (.bi .add ua (x6 1))),(qq po (.mv FM))])
def ar3:=wu I5.eq_1
def I6:CC:=(.seq (.block 3 (.seq HX (.seq zm (.seq I0 I4)))) I5)
def NY:=wu I6.eq_1
def zo:CC:=(.seq (.cond w6 .skip (.exit 2)) I6)
def NZ:=wu zo.eq_1
def I7:CC:=(.reg [(qq uk (.fa 4 z7)),(qq yT (.ld1 G9)),(qq qz (.mv FN))])
def Bi:=wu I7.eq_1
def zp:CC:=(.dreg 6 [(0,0,(qq yU (.ld1 z4))),(1,0,(qq yV (.fa 3 z7))),(2,2,(qq yz (.ldn 1 OC))),(3,6,(ee yW (.call 59 [Gb]))),(4,14,(aa fG (.bsl 9 2 1 [(.s 0 0)] [(0,(.c (.s 2 15934))),(1,OD)]))),(5,31,(ee yA (.cv Ga [w9])))])
def ar4:=wu zp.eq_1
def I8:CC:=(.reg [(qq BO (.fa 3 z7)),(qq BP (.fa 0 OG)),(qq BQ (.ld1 OH)),(qq BR (.ln .slice OI)),(qq DK (.bi .gtr Gd (x6 0))),(qq BN (.mv P6))])
def O0:=wu I8.eq_1
def zq:CC:=(.dreg 6 [(0,0,(qq DL (.ld1 z4))),(1,0,(qq qA (.fa 3 z7))),(2,2,(qq ul (.ldn 1 P8))),(3,6,(ee DM (.call 59 [P9]))),(4,14,(aa DN (.bsl 9 2 1 [(.s 0 0)] [(0,(.c (.s 1 62))),(1,Pa)]))),(5,31,(ee DO (.cv P7 [OJ])))])
def ar5:=wu zq.eq_1
def I9:CC:=(.seq I8 (.cond OE zq .skip))
def O1:=wu I9.eq_1
def zr:CC:=(.seq I7 (.cond G7 zp I9))
def Bj:=wu zr.eq_1
def Ia:CC:=(.seq (.seq HW (.block 2 (.loop (.seq zl zo)))) (.block 4 zr))
def O2:=wu Ia.eq_1
def Ib:CC:=(.reg [(qq DP (.bi .add i5 (x6 1))),(qq eC (.mv Pb))])
def O3:=wu Ib.eq_1
def Ic:CC:=(.seq (.block 1 (.seq TW (.seq Ii (.seq zk Ia)))) Ib)
def O4:=wu Ic.eq_1
def Id:CC:=(.seq (.cond j3 .skip (.exit 0)) Ic)
def O5:=wu Id.eq_1
def Ie:CC:=(.reg [(qq um (.ld1 z3)),(ee DQ (.call 60 [Pd,(.c (.s 1 32))])),(qq a2 (.mv Pe))])
def O6:=wu Ie.eq_1
def Ig:CC:=(.seq (.seq TU (.block 0 (.loop (.seq TV Id)))) (.seq Ie .ret))
def ar6:=wu Ig.eq_1
def Ih:CC:=(.seq (.reg [(aa a3 (.al 69 [.l0]))]) (.seq TR (.seq TS Ig)))
def ar7:=wu Ih.eq_1
def c39:CF:= .mk 7 [.t a2] (.seq TQ Ih)
theorem e39(v0:V):bA 7 [v0]=(.n Nk (some v0) Nk):=rfl
def wb:=ai @e39 (ai @b52 (ai @b53 (ai @b54 (ai @b55 (ai @YE (ai @YF (ai @b56 (ai @b57 (ai @b58 (ai @aq6 (ai @aq7 (ai @aq8 (ai @NR (ai @NS (ai @NT (ai @aq9 (ai @ar0 (ai @ar1 (ai @NU (ai @NW (ai @ar2 (ai @NX (ai @ar3 (ai @NY (ai @NZ (ai @Bi (ai @ar4 (ai @O0 (ai @ar5 (ai @O1 (ai @Bj (ai @O2 (ai @O3 (ai @O4 (ai @O5 (ai @O6 (ai @ar6 (@ar7))))))))))))))))))))))))))))))))))))))
theorem Qc{F:RO}(len sz:Nat)(x i:X)(M:Mem)(t:T):jL (.ixA1 len sz x i) F M t=oV (pa len sz (x.ev t) (i.ev t)):=by
 refine(eX ?_).trans (congrArg oV (NN (F:=F) len sz x i M t))
 intro F' M'
 refine iT ?_
 show((Ar (x.ev t) QR.f fun cs=>mT len sz cs (lO (i.ev t)))= .f∨ ∃y,(Ar (x.ev t) QR.f fun cs=>mT len sz cs (lO (i.ev t)))= .v y)
 cases x.ev t with
 |g cs=>
  show(mT len sz cs (lO (i.ev t))= .f∨ ∃y,mT len sz cs (lO (i.ev t))= .v y);cases lO (i.ev t)with
  |none=>exact .inl rfl
  |some m=>
   show((bif Nat.blt m len then qr (mX cs (Nat.mul m sz))else QR.f)= .f∨ ∃y,(bif Nat.blt m len then qr (mX cs (Nat.mul m sz))else QR.f)= .v y);cases Nat.blt m len with
   |false=>exact .inl rfl
   |true=>
    show(qr (mX cs (Nat.mul m sz))= .f∨ ∃y,qr (mX cs (Nat.mul m sz))= .v y);cases mX cs (Nat.mul m sz)with
    |none=>exact .inl rfl
    |some y=>exact .inr ⟨y,rfl⟩
 |_=>exact .inl rfl
def jK(inp:List Pc):Nat→List hU→List (List UInt8)
 |_,[]=>[]
 |k,c::r=>(if 0<k then[[124]]else[])++(c.map dm++((if(decide (k=0)&&hasW inp)=true then[[60],dm inp]else[])++jK inp (k+1) r))
def n7(beh:Bool)(out:List Pc):List (List UInt8):=if beh=true then[[62,62],dm out]else if hasW out=true then[[62],dm out]else[]
def R5(p:fm):List (List UInt8):=(if 0<p.join then[Ac p.join.toNat]else[])++((if p.nt=true then[[33]]else[])++(jK p.inp 0 p.cmds++n7 p.beh p.out))
def nJ:List fm→List (List UInt8)
 |[]=>[]
 |p::r=>R5 p++nJ r
theorem bi8(Φ:Nat→Option CF)(h33:Φ 33=some OV)(h57:Φ 57=some wz){F:RO}{M0 M2:Mem}{c c2 pb N i:Nat}{cur:List (List UInt8)}{vl vi vo vc:V}{j:Int}{nt beh:Bool}(ok0:cU F M0 c)(hW:nG M0 c M2 c2 cur)(mb:M2.get pb=some (af 39 [.i .i64 j,.b nt,vi,vo,.b beh,vc]))(hp1:c+3≤pb)(hp2:pb<c2)(hj0:0≤j)(hj3:j≤3)(hz:dq (cur++(if 0<j then[Ac j.toNat]else[]))≤1000000)(u:List (Option V))(Q:Ex→St→Prop)
 (hQ:∀(u:List (Option V)) M' c',nG M0 c M' c' (cur++(if 0<j then[Ac j.toNat]else[]))→Kp c M2 c2 M' c'→Q .nrm (.mk ((kv u (.p c 0) (.p (c+1) 0) (.p (c+2) 0) (.f 58 [] [.p (c+2) 0]) (.p pb 0) vl (.i .i64 (N:Int)) (.i .i64 (i:Int)))) [] M' c')):
 Wp Ii (K Φ none 39 F) (.mk ((kv u (.p c 0) (.p (c+1) 0) (.p (c+2) 0) (.f 58 [] [.p (c+2) 0]) (.p pb 0) vl (.i .i64 (N:Int)) (.i .i64 (i:Int)))) [] M2 c2) Q:=by
 have ok2:=hW.gr.ok ok0
 have l0:load1 F M2 pb 0=some (.i .i64 j):=aq mb 0
 by_cases hj:0<j
 ·have dj:decide ((0:Int)<j)=true:=aj hj;rw[ac hj]at hz hQ;have b2:load1 F M2 (c+2) 0=some (.f 57 [] [.p (c+1) 0]):=aq hW.m2 0;have hfr:=ok2.free;simp only[WX,wb,l0,dj,b2,aW];have g5:Gr c2 M2 (c2+7) M2:=(Gr.refl ok2).up (by omega);have ok5:=g5.ok ok2;refine u7 _ _ _ _ _ _ _ _ _ _ _ ok5 ?_;intro F1 N1 okn hlk;refine(show nF (da (iL Φ) F1 33 [] N1 (c2+7) (Φ 33)) _ from(w33 Φ h33 okn).mono ?_);rintro r M3 c3 ⟨rfl,g3⟩;refine⟨g3,fun M4 g4 _=>?_⟩;have hle3:=g4.le;have lk:(look F M4 (c2+5)).isNone=true:=by rw[cz (g4.old _ (by omega)),ok2.look (by omega)];rfl
  have hc2:=hW.hc;have rf:bQ (c2+5) [(3,pb),(0,c+2)]=true:=by rw[bv _ _ _ _ (by omega),bv _ _ _ _ (by omega),cI]
  have gZ:=(g5.trans g4).set (c2+5) (bK [V.s 0 0] 9 [sV (Ac j.toNat)]) (by omega) (by omega) (ah _);have hF:flatten (sV (Ac j.toNat))=[sV (Ac j.toNat)]:=rfl;have hO:bD (sV (Ac j.toNat))=true:=rfl;have hix:pa 4 1 LZ (.i .i64 j)=some (sV (Ac j.toNat)):=by
   unfold LZ;rw[o5,ac ⟨by omega,by omega⟩];have:j=1∨j=2∨j=3:=by omega
   rcases this with rfl|rfl|rfl<;>rfl
  simp only[WX,Nat.reducePow,Nat.reduceDiv,Nat.reduceMod,Nat.reduceBEq,lk,rf,vF,ng,rV,hF,hO,Qc,hix];refine fe ((w57 Φ h57 (hW.grow gZ) (mi [Ac j.toNat] (am _ _ _) (by omega)) hz).mono ?_);rintro _ M5 c5 ⟨hW5,K5⟩;refine⟨(hW5.gr.ok ok0).free,?_⟩;simp only[WX];exact hQ (X1 (G1 (X1 (G2 (G1 (X1 (G1 (X4 (X1 (G2 (G1 (cF (cH (X8 (X4 (X2 (X1 []))))))))))))))))) _ _ hW5 ((Kp.of gZ).trans K5)
 ·have dj:decide ((0:Int)<j)=false:=ak hj;rw[ab hj,bP]at hQ;simp only[WX,wb,l0,dj,aW];exact hQ (X1 (G1 (X1 (G2 (G1 (X1 (G1 (X4 (X1 (G2 (G1 (cF (cH (X8 (X4 (X2 (X1 []))))))))))))))))) _ _ hW Kp.refl
theorem bi9(Φ:Nat→Option CF)(h57:Φ 57=some wz){F:RO}{M0 M2:Mem}{c c2 pb N i:Nat}{cur:List (List UInt8)}{vl vi vo vc:V}{j:Int}{nt beh:Bool}(ok0:cU F M0 c)(hW:nG M0 c M2 c2 cur)(mb:M2.get pb=some (af 39 [.i .i64 j,.b nt,vi,vo,.b beh,vc]))(hz:dq (cur++(if nt=true then[[33]]else[]))≤1000000)(u:List (Option V))(Q:Ex→St→Prop)
 (hQ:∀(u:List (Option V)) M' c',nG M0 c M' c' (cur++(if nt=true then[[33]]else[]))→Kp c M2 c2 M' c'→Q .nrm (.mk ((kv u (.p c 0) (.p (c+1) 0) (.p (c+2) 0) (.f 58 [] [.p (c+2) 0]) (.p pb 0) vl (.i .i64 (N:Int)) (.i .i64 (i:Int)))) [] M' c')):
 Wp zk (K Φ none 39 F) (.mk ((kv u (.p c 0) (.p (c+1) 0) (.p (c+2) 0) (.f 58 [] [.p (c+2) 0]) (.p pb 0) vl (.i .i64 (N:Int)) (.i .i64 (i:Int)))) [] M2 c2) Q:=by
 have ok2:=hW.gr.ok ok0
 have l1:load1 F M2 pb 1=some (.b nt):=aq mb 1
 cases nt with
 |true=>
  rw[ac rfl]at hz hQ;have b2:load1 F M2 (c+2) 0=some (.f 57 [] [.p (c+1) 0]):=aq hW.m2 0;have gZ:=(Gr.refl ok2).set c2 (bK [V.s 0 0] 9 [sV [33]]) (ah _) (aA _) (aG _);simp only[WX,wb,l1,b2];refine av ((w57 Φ h57 (hW.grow gZ) (mi [[33]] (am _ _ _) (aA _)) hz).mono ?_);rintro _ M5 c5 ⟨hW5,K5⟩;simp only[WX];exact hQ (X1 (G1 (X1 (G2 (G1 (X1 (G1 (X4 (X1 (G2 (G1 (cF (cH (X8 (X4 (X2 (X1 []))))))))))))))))) _ _ hW5 ((Kp.of gZ).trans K5)
 |false=>
  rw[ab (by simp),bP]at hQ;simp only[WX,wb,l1];exact hQ (X1 (G1 (X1 (G2 (G1 (X1 (G1 (X4 (X1 (G2 (G1 (cF (cH (X8 (X4 (X2 (X1 []))))))))))))))))) _ _ hW Kp.refl
theorem bi7(Φ:Nat→Option CF)(h57:Φ 57=some wz)(h59:Φ 59=some C3)(h77:Φ 77=some (.orc (bh h77)))(h52:Φ 52=some yB)(h54:Φ 54=some yC)(h71:Φ 71=some vW){F:RO}{M0 M2:Mem}{c c2 pb N i k n:Nat}{cur:List (List UInt8)}{vl vi vo vc:V}{j:Int}{nt beh:Bool}{w:List Pc}(ok0:cU F M0 c)(hW:nG M0 c M2 c2 cur)(mb:M2.get pb=some (af 39 [.i .i64 j,.b nt,vi,vo,.b beh,vc]))(hp1:c+3≤pb)(hp2:pb<c2)(hw:dt F M0 c vi w)(hs:∀q∈w,q.1.length≤1000000)(hz:dq (cur++[[60],dm w])≤1000000)(u:List (Option V))(Q:Ex→St→Prop)
 (hQ:∀(u:List (Option V)) M' c',nG M0 c M' c' (cur++[[60],dm w])→Kp c M2 c2 M' c'→Q .nrm (.mk ((Yr u (.p c 0) (.p (c+1) 0) (.p (c+2) 0) (.f 58 [] [.p (c+2) 0]) (.p pb 0) (.i .i64 (k:Int)) vl (.i .i64 (N:Int)) (.i .i64 (i:Int)) vc (.i .i64 (n:Int)) (.i .i64 (k:Int)))) [] M' c')):
 Wp zn (K Φ none 39 F) (.mk ((Yr u (.p c 0) (.p (c+1) 0) (.p (c+2) 0) (.f 58 [] [.p (c+2) 0]) (.p pb 0) (.i .i64 (k:Int)) vl (.i .i64 (N:Int)) (.i .i64 (i:Int)) vc (.i .i64 (n:Int)) (.i .i64 (k:Int)))) [] M2 c2) Q:=by
 have ok2:=hW.gr.ok ok0
 obtain⟨z1,z2,z3⟩:=hw.one
 have hG:∀v,flatten (V.g [v])=[v]:=fun _=>rfl
 have lf:loadN F M2 pb 2 1=some [vi]:=by rw[cX mb,cV _ _ _ _ _ _ (by simp)];rfl
 have b2:load1 F M2 (c+2) 0=some (.f 57 [] [.p (c+1) 0]):=aq hW.m2 0
 have hfr:=ok2.free
 simp only[WX,wb,lf,b2]
 have g5:Gr c2 M2 (c2+6) M2:=(Gr.refl ok2).up (by omega)
 have ok5:=g5.ok ok2
 have hwl:(dm w).length≤1000000:=by
  rw[bO]at hz;simp only[dq]at hz;omega
 refine u7 _ _ _ _ _ _ _ _ _ _ _ ok5 ?_
 intro F1 N1 okn hlk
 refine(show nF (da (iL Φ) F1 59 [.g [vi]] N1 (c2+6) (Φ 59)) _ from(w59 Φ h59 h77 h52 h54 h71 okn (((hw.grow hW.gr).grow g5).lk hlk) hs hwl).mono ?_)
 rintro r M3 c3 ⟨rfl,g3⟩
 refine⟨g3,fun M4 g4 _=>?_⟩
 have hle3:=g4.le
 have lk:(look F M4 (c2+4)).isNone=true:=by rw[cz (g4.old _ (by omega)),ok2.look (by omega)];rfl
 have hc2:=hW.hc
 have rf:bQ (c2+4) [(2,pb),(0,c+2)]=true:=by rw[bv _ _ _ _ (by omega),bv _ _ _ _ (by omega),cI]
 have gZ:=(g5.trans g4).set (c2+4) (bK [V.s 0 0] 9 [sV [60],sV (dm w)]) (by omega) (by omega) (ah _)
 have hF:flatten (sV (dm w))=[sV (dm w)]:=rfl
 have hO:bD (sV (dm w))=true:=rfl
 simp only[WX,Nat.reducePow,Nat.reduceDiv,Nat.reduceMod,Nat.reduceBEq,Nat.reduceAdd,lk,rf,vF,ng,rV,hF,hO]
 refine fe ((w57 Φ h57 (hW.grow gZ) (mi [[60],dm w] (am _ _ _) (by omega)) hz).mono ?_)
 rintro _ M5 c5 ⟨hW5,K5⟩
 refine⟨(hW5.gr.ok ok0).free,?_⟩
 simp only[WX]
 exact hQ (X1 (G1 (X1 (G2 (G1 (X1 (G2 (X4 (G2 (G1 (ce (X2 (X1 (G2 (G1 (cF (ce (X8 (X1 []))))))))))))))))))) _ _ hW5 ((Kp.of gZ).trans K5)
theorem bi4(Φ:Nat→Option CF)(h57:Φ 57=some wz)(h59:Φ 59=some C3)(h77:Φ 77=some (.orc (bh h77)))(h52:Φ 52=some yB)(h54:Φ 54=some yC)(h71:Φ 71=some vW){F:RO}{M0 M2:Mem}{c c2 pb N i:Nat}{cur:List (List UInt8)}{vl vi vo vc:V}{j:Int}{nt beh:Bool}{w:List Pc}(ok0:cU F M0 c)(hW:nG M0 c M2 c2 cur)(mb:M2.get pb=some (af 39 [.i .i64 j,.b nt,vi,vo,.b beh,vc]))(hp1:c+3≤pb)(hp2:pb<c2)(hw:dt F M0 c vo w)(hs:∀q∈w,q.1.length≤1000000)(hz:dq (cur++[[62,62],dm w])≤1000000)(u:List (Option V))(Q:Ex→St→Prop)
 (hQ:∀(u:List (Option V)) M' c',nG M0 c M' c' (cur++[[62,62],dm w])→Kp c M2 c2 M' c'→Q .nrm (.mk ((kv u (.p c 0) (.p (c+1) 0) (.p (c+2) 0) (.f 58 [] [.p (c+2) 0]) (.p pb 0) vl (.i .i64 (N:Int)) (.i .i64 (i:Int)))) [] M' c')):
 Wp zp (K Φ none 39 F) (.mk ((kv u (.p c 0) (.p (c+1) 0) (.p (c+2) 0) (.f 58 [] [.p (c+2) 0]) (.p pb 0) vl (.i .i64 (N:Int)) (.i .i64 (i:Int)))) [] M2 c2) Q:=by
 have ok2:=hW.gr.ok ok0
 obtain⟨z1,z2,z3⟩:=hw.one
 have hG:∀v,flatten (V.g [v])=[v]:=fun _=>rfl
 have lf:loadN F M2 pb 3 1=some [vo]:=by rw[cX mb,cV _ _ _ _ _ _ (by simp)];rfl
 have b2:load1 F M2 (c+2) 0=some (.f 57 [] [.p (c+1) 0]):=aq hW.m2 0
 have hfr:=ok2.free
 simp only[WX,wb,lf,b2]
 have g5:Gr c2 M2 (c2+6) M2:=(Gr.refl ok2).up (by omega)
 have ok5:=g5.ok ok2
 have hwl:(dm w).length≤1000000:=by
  rw[bO]at hz;simp only[dq]at hz;omega
 refine u7 _ _ _ _ _ _ _ _ _ _ _ ok5 ?_
 intro F1 N1 okn hlk
 refine(show nF (da (iL Φ) F1 59 [.g [vo]] N1 (c2+6) (Φ 59)) _ from(w59 Φ h59 h77 h52 h54 h71 okn (((hw.grow hW.gr).grow g5).lk hlk) hs hwl).mono ?_)
 rintro r M3 c3 ⟨rfl,g3⟩
 refine⟨g3,fun M4 g4 _=>?_⟩
 have hle3:=g4.le
 have lk:(look F M4 (c2+4)).isNone=true:=by rw[cz (g4.old _ (by omega)),ok2.look (by omega)];rfl
 have hc2:=hW.hc
 have rf:bQ (c2+4) [(2,pb),(0,c+2)]=true:=by rw[bv _ _ _ _ (by omega),bv _ _ _ _ (by omega),cI]
 have gZ:=(g5.trans g4).set (c2+4) (bK [V.s 0 0] 9 [sV [62,62],sV (dm w)]) (by omega) (by omega) (ah _)
 have hF:flatten (sV (dm w))=[sV (dm w)]:=rfl
 have hO:bD (sV (dm w))=true:=rfl
 simp only[WX,Nat.reducePow,Nat.reduceDiv,Nat.reduceMod,Nat.reduceBEq,Nat.reduceAdd,lk,rf,vF,ng,rV,hF,hO]
 refine fe ((w57 Φ h57 (hW.grow gZ) (mi [[62,62],dm w] (am _ _ _) (by omega)) hz).mono ?_)
 rintro _ M5 c5 ⟨hW5,K5⟩
 refine⟨(hW5.gr.ok ok0).free,?_⟩
 simp only[WX]
 exact hQ (X1 (G1 (X1 (G2 (G1 (X1 (G1 (X4 (X1 (G2 (G1 (cF (cH (X8 (X4 (X2 (X1 []))))))))))))))))) _ _ hW5 ((Kp.of gZ).trans K5)
theorem bi5(Φ:Nat→Option CF)(h57:Φ 57=some wz)(h59:Φ 59=some C3)(h77:Φ 77=some (.orc (bh h77)))(h52:Φ 52=some yB)(h54:Φ 54=some yC)(h71:Φ 71=some vW){F:RO}{M0 M2:Mem}{c c2 pb N i:Nat}{cur:List (List UInt8)}{vl vi vo vc:V}{j:Int}{nt beh:Bool}{w:List Pc}(ok0:cU F M0 c)(hW:nG M0 c M2 c2 cur)(mb:M2.get pb=some (af 39 [.i .i64 j,.b nt,vi,vo,.b beh,vc]))(hp1:c+3≤pb)(hp2:pb<c2)(hw:dt F M0 c vo w)(hs:∀q∈w,q.1.length≤1000000)(hz:dq (cur++[[62],dm w])≤1000000)(u:List (Option V))(Q:Ex→St→Prop)
 (hQ:∀(u:List (Option V)) M' c',nG M0 c M' c' (cur++[[62],dm w])→Kp c M2 c2 M' c'→Q .nrm (.mk ((kv u (.p c 0) (.p (c+1) 0) (.p (c+2) 0) (.f 58 [] [.p (c+2) 0]) (.p pb 0) vl (.i .i64 (N:Int)) (.i .i64 (i:Int)))) [] M' c')):
 Wp zq (K Φ none 39 F) (.mk ((kv u (.p c 0) (.p (c+1) 0) (.p (c+2) 0) (.f 58 [] [.p (c+2) 0]) (.p pb 0) vl (.i .i64 (N:Int)) (.i .i64 (i:Int)))) [] M2 c2) Q:=by
 have ok2:=hW.gr.ok ok0
 obtain⟨z1,z2,z3⟩:=hw.one
 have hG:∀v,flatten (V.g [v])=[v]:=fun _=>rfl
 have lf:loadN F M2 pb 3 1=some [vo]:=by rw[cX mb,cV _ _ _ _ _ _ (by simp)];rfl
 have b2:load1 F M2 (c+2) 0=some (.f 57 [] [.p (c+1) 0]):=aq hW.m2 0
 have hfr:=ok2.free
 simp only[WX,wb,lf,b2]
 have g5:Gr c2 M2 (c2+6) M2:=(Gr.refl ok2).up (by omega)
 have ok5:=g5.ok ok2
 have hwl:(dm w).length≤1000000:=by
  rw[bO]at hz;simp only[dq]at hz;omega
 refine u7 _ _ _ _ _ _ _ _ _ _ _ ok5 ?_
 intro F1 N1 okn hlk
 refine(show nF (da (iL Φ) F1 59 [.g [vo]] N1 (c2+6) (Φ 59)) _ from(w59 Φ h59 h77 h52 h54 h71 okn (((hw.grow hW.gr).grow g5).lk hlk) hs hwl).mono ?_)
 rintro r M3 c3 ⟨rfl,g3⟩
 refine⟨g3,fun M4 g4 _=>?_⟩
 have hle3:=g4.le
 have lk:(look F M4 (c2+4)).isNone=true:=by rw[cz (g4.old _ (by omega)),ok2.look (by omega)];rfl
 have hc2:=hW.hc
 have rf:bQ (c2+4) [(2,pb),(0,c+2)]=true:=by rw[bv _ _ _ _ (by omega),bv _ _ _ _ (by omega),cI]
 have gZ:=(g5.trans g4).set (c2+4) (bK [V.s 0 0] 9 [sV [62],sV (dm w)]) (by omega) (by omega) (ah _)
 have hF:flatten (sV (dm w))=[sV (dm w)]:=rfl
 have hO:bD (sV (dm w))=true:=rfl
 simp only[WX,Nat.reducePow,Nat.reduceDiv,Nat.reduceMod,Nat.reduceBEq,Nat.reduceAdd,lk,rf,vF,ng,rV,hF,hO]
 refine fe ((w57 Φ h57 (hW.grow gZ) (mi [[62],dm w] (am _ _ _) (by omega)) hz).mono ?_)
 rintro _ M5 c5 ⟨hW5,K5⟩
 refine⟨(hW5.gr.ok ok0).free,?_⟩
 simp only[WX]
 exact hQ (X1 (G1 (X1 (G2 (G1 (X1 (G1 (X4 (X1 (G2 (G1 (cF (cH (X8 (X4 (X2 (X1 []))))))))))))))))) _ _ hW5 ((Kp.of gZ).trans K5)
abbrev Ys(u:List (Option V))(x1 x3 x4 x5 x7 x8 x9 x13 x14 x15 x35 x36 x37:V):T:=(.n (.n (.n (.n (.n (ek u 63 31 95) (some x15) (ek u 79 47 111)) (some x7) (aJ u 71 39 103 23 87 55 119)) (some x3) (.n (.n (.n (eg u 67) (some x35) (eg u 99)) (uO u 19) (ek u 83 51 115)) (uO u 11) (aJ u 75 43 107 27 91 59 123))) (some x1) (.n (.n (aJ u 65 33 97 17 81 49 113) (some x9) (aJ u 73 41 105 25 89 57 121)) (some x5) (.n (.n (.n (eg u 69) (some x37) (eg u 101)) (uO u 21) (ek u 85 53 117)) (some x13) (aJ u 77 45 109 29 93 61 125)))) (uO u 0) (.n (.n (.n (aJ u 64 32 96 16 80 48 112) (some x8) (aJ u 72 40 104 24 88 56 120)) (some x4) (.n (.n (.n (eg u 68) (some x36) (eg u 100)) (uO u 20) (ek u 84 52 116)) (uO u 12) (aJ u 76 44 108 28 92 60 124))) (uO u 2) (.n (.n (aJ u 66 34 98 18 82 50 114) (uO u 10) (aJ u 74 42 106 26 90 58 122)) (uO u 6) (.n (aJ u 70 38 102 22 86 54 118) (some x14) (aJ u 78 46 110 30 94 62 126)))))
abbrev NC(u:List (Option V))(x1 x3 x4 x5 x7 x13 x14 x15 x35 x36 x37:V):T:=(.n (.n (.n (.n (.n (ek u 63 31 95) (some x15) (ek u 79 47 111)) (some x7) (aJ u 71 39 103 23 87 55 119)) (some x3) (.n (.n (.n (eg u 67) (some x35) (eg u 99)) (uO u 19) (ek u 83 51 115)) (uO u 11) (aJ u 75 43 107 27 91 59 123))) (some x1) (.n (.n (aJ u 65 33 97 17 81 49 113) (uO u 9) (aJ u 73 41 105 25 89 57 121)) (some x5) (.n (.n (.n (eg u 69) (some x37) (eg u 101)) (uO u 21) (ek u 85 53 117)) (some x13) (aJ u 77 45 109 29 93 61 125)))) (uO u 0) (.n (.n (.n (aJ u 64 32 96 16 80 48 112) (uO u 8) (aJ u 72 40 104 24 88 56 120)) (some x4) (.n (.n (.n (eg u 68) (some x36) (eg u 100)) (uO u 20) (ek u 84 52 116)) (uO u 12) (aJ u 76 44 108 28 92 60 124))) (uO u 2) (.n (.n (aJ u 66 34 98 18 82 50 114) (uO u 10) (aJ u 74 42 106 26 90 58 122)) (uO u 6) (.n (aJ u 70 38 102 22 86 54 118) (some x14) (aJ u 78 46 110 30 94 62 126)))))
abbrev b11(u:List (Option V))(x1 x3 x4 x5 x13 x14 x15:V):T:=(.n (.n (.n (.n (.n (ek u 63 31 95) (some x15) (ek u 79 47 111)) (uO u 7) (aJ u 71 39 103 23 87 55 119)) (some x3) (.n (aJ u 67 35 99 19 83 51 115) (uO u 11) (aJ u 75 43 107 27 91 59 123))) (some x1) (.n (.n (aJ u 65 33 97 17 81 49 113) (uO u 9) (aJ u 73 41 105 25 89 57 121)) (some x5) (.n (aJ u 69 37 101 21 85 53 117) (some x13) (aJ u 77 45 109 29 93 61 125)))) (uO u 0) (.n (.n (.n (aJ u 64 32 96 16 80 48 112) (uO u 8) (aJ u 72 40 104 24 88 56 120)) (some x4) (.n (aJ u 68 36 100 20 84 52 116) (uO u 12) (aJ u 76 44 108 28 92 60 124))) (uO u 2) (.n (.n (aJ u 66 34 98 18 82 50 114) (uO u 10) (aJ u 74 42 106 26 90 58 122)) (uO u 6) (.n (aJ u 70 38 102 22 86 54 118) (some x14) (aJ u 78 46 110 30 94 62 126)))))
theorem js{a b:List (List UInt8)}{n:Nat}(h:dq (a++b)≤n):dq a≤n:=by rw[bO]at h;omega
theorem bj1(Φ:Nat→Option CF)(h57:Φ 57=some wz){F:RO}{M0 M2:Mem}{c c2 pb N i k n qb:Nat}{cur:List (List UInt8)}{vl vc:V}(ok0:cU F M0 c)(hW:nG M0 c M2 c2 cur)(hz:dq (cur++(if 0<k then[[124]]else[]))≤1000000)(u:List (Option V))(Q:Ex→St→Prop)
 (hQ:∀(u:List (Option V)) M' c',nG M0 c M' c' (cur++(if 0<k then[[124]]else[]))→Kp c M2 c2 M' c'→Q .nrm (.mk ((Ys u (.p c 0) (.p (c+1) 0) (.p (c+2) 0) (.f 58 [] [.p (c+2) 0]) (.p pb 0) (.i .i64 (k:Int)) (.p qb 0) vl (.i .i64 (N:Int)) (.i .i64 (i:Int)) vc (.i .i64 (n:Int)) (.i .i64 (k:Int)))) [] M' c')):
 Wp zm (K Φ none 39 F) (.mk ((Ys u (.p c 0) (.p (c+1) 0) (.p (c+2) 0) (.f 58 [] [.p (c+2) 0]) (.p pb 0) (.i .i64 (k:Int)) (.p qb 0) vl (.i .i64 (N:Int)) (.i .i64 (i:Int)) vc (.i .i64 (n:Int)) (.i .i64 (k:Int)))) [] M2 c2) Q:=by
 have ok2:=hW.gr.ok ok0
 by_cases hk:0<k
 ·have dk:decide ((0:Int)<(k:Int))=true:=aj (by omega);rw[ac hk]at hz hQ;have b2:load1 F M2 (c+2) 0=some (.f 57 [] [.p (c+1) 0]):=aq hW.m2 0;have gZ:=(Gr.refl ok2).set c2 (bK [V.s 0 0] 9 [sV [124]]) (ah _) (aA _) (aG _);simp only[WX,wb,dk,b2];refine av ((w57 Φ h57 (hW.grow gZ) (mi [[124]] (am _ _ _) (aA _)) hz).mono ?_);rintro _ M5 c5 ⟨hW5,K5⟩;simp only[WX];exact hQ (X1 (G1 (X1 (G2 (G1 (X1 (G2 (G1 (X2 (X1 (G2 (G1 (ce (X2 (X1 (G2 (G1 (cF (ce (X8 (X1 []))))))))))))))))))))) _ _ hW5 ((Kp.of gZ).trans K5)
 ·have dk:decide ((0:Int)<(k:Int))=false:=ak (by omega);rw[ab hk,bP]at hQ;simp only[WX,wb,dk];exact hQ (X1 (G1 (X1 (G2 (G1 (X1 (G2 (G1 (X2 (X1 (G2 (G1 (ce (X2 (X1 (G2 (G1 (cF (ce (X8 (X1 []))))))))))))))))))))) _ _ hW Kp.refl
theorem m39(Φ:Nat→Option CF)(h57:Φ 57=some wz)(h58:Φ 58=some PT)(h59:Φ 59=some C3)(h77:Φ 77=some (.orc (bh h77)))(h52:Φ 52=some yB)(h54:Φ 54=some yC)(h71:Φ 71=some vW){F:RO}{M0 M2:Mem}{c c2 pb N i:Nat}{cur:List (List UInt8)}{vl vi vo vc:V}{j:Int}{nt beh:Bool}{wi:List Pc}{cs:List hU}(ok0:cU F M0 c)(hW:nG M0 c M2 c2 cur)(mb:M2.get pb=some (af 39 [.i .i64 j,.b nt,vi,vo,.b beh,vc]))(hp1:c+3≤pb)(hp2:pb<c2)(hw:dt F M0 c vi wi)(hs:∀q∈wi,q.1.length≤1000000)(hc:iw F M0 c vc cs)(hsc:∀x∈cs,Gh x)(hz:dq (cur++jK wi 0 cs)≤1000000)(u:List (Option V))(Q:Ex→St→Prop)
 (hQ:∀(u:List (Option V)) M' c',nG M0 c M' c' (cur++jK wi 0 cs)→Kp c M2 c2 M' c'→Q (.ext 2) (.mk ((kv u (.p c 0) (.p (c+1) 0) (.p (c+2) 0) (.f 58 [] [.p (c+2) 0]) (.p pb 0) vl (.i .i64 (N:Int)) (.i .i64 (i:Int)))) [] M' c')):
 Wp (.loop (.seq zl zo)) (K Φ none 39 F) (.mk ((NC u (.p c 0) (.p (c+1) 0) (.p (c+2) 0) (.f 58 [] [.p (c+2) 0]) (.p pb 0) vl (.i .i64 (N:Int)) (.i .i64 (i:Int)) vc (.i .i64 (cs.length:Int)) (.i .i64 0))) [] M2 c2) Q:=by
 have n1:=hc.len
 have mx:=hc.max
 obtain⟨I,hI⟩:∃I:Nat→St→Prop,∀n s',I n s'↔(∃(k c3:Nat) (M3:Mem) (cu:List (List UInt8)) (u:List (Option V)),n=cs.length-k∧k≤cs.length∧s'= .mk ((NC u (.p c 0) (.p (c+1) 0) (.p (c+2) 0) (.f 58 [] [.p (c+2) 0]) (.p pb 0) vl (.i .i64 (N:Int)) (.i .i64 (i:Int)) vc (.i .i64 (cs.length:Int)) (.i .i64 (k:Int)))) [] M3 c3∧nG M0 c M3 c3 cu∧Kp c M2 c2 M3 c3∧cu++jK wi k (cs.drop k)=cur++jK wi 0 cs):=⟨fun n s'=>_,fun _ _=>Iff.rfl⟩
 refine bS I ?_ cs.length _ ((hI _ _).2 ⟨0,_,_,_,(X1 (G1 (X1 (G2 (G1 (X1 (G1 (X4 (X1 (G2 (G1 (ce (X2 (X1 (G2 (G1 (cF (ce (X8 (X1 [])))))))))))))))))))),rfl,az _,rfl,hW,Kp.refl,rfl⟩)
 intro n s' hIs
 obtain⟨k,c3,M3,cu,u,rfl,hk,rfl,hW3,K3,he⟩:=(hI _ _).1 hIs
 clear hIs
 by_cases hlt:k<cs.length
 ·have q8:cZ .add (.i .i64 (k:Int)) (.i .i64 1)=some (.i .i64 ((k+1:Nat):Int)):=by rw[bF _ _ (by omega) (by omega)];simp
  have d1:decide ((k:Int)<(cs.length:Int))=true:=aj (by omega);obtain⟨b,o,x,hbx,ia,_,ld0,hw0⟩:=cA.at1 hc k hlt;have ia:=ia .i64;have ld:loadN F M3 b o 1=some [x]:=(hW3.gr.loadN hbx _ _).trans ld0;have hw1:eM F M0 c x cs[k]:=hw0;have hd:cs.drop k=cs[k]::cs.drop (k+1):=cQ hlt;rw[hd,jK]at he;have hsk:=hsc cs[k] (List.getElem_mem _);generalize cs[k]=w at hw1 hsk he;generalize hR:jK wi (k+1) (cs.drop (k+1))=R at he;obtain⟨A,hA⟩:∃A,(if 0<k then[[(124:UInt8)]]else[])=A:=⟨_,rfl⟩
  obtain⟨C,hC⟩:∃C,(if(decide (k=0)&&hasW wi)=true then[[60],dm wi]else[])=C:=⟨_,rfl⟩
  rw[hA,hC]at he;have hzA:dq (cu++A)≤1000000:=js (b:=w.map dm++(C++R)) (by rw[bM,he];exact hz);have hzB:dq (cu++A++w.map dm)≤1000000:=js (b:=C++R) (by rw[bM,bM,he];exact hz);have hzC:dq (cu++A++w.map dm++C)≤1000000:=js (b:=R) (by rw[bM,bM,bM,he];exact hz);obtain⟨y1,y2,y3⟩:=hw1.one;have hG:∀v,flatten (V.g [v])=[v]:=fun _=>rfl;have ok3:=hW3.gr.ok ok0;have sn:bN (M3.set c3 (af 42 [.l0])) c3 0 [x]=some (M3.set c3 (af 42 [x])):=fh rfl y3;have gY:=(Gr.refl ok3).set c3 (af 42 [x]) (ah _) (aA _) (aG _);have my:(M3.set c3 (af 42 [x])).get c3=some (af 42 [x]):=am _ _ _;have hWY:=hW3.grow gY;have KY:=K3.trans (Kp.of gY);generalize M3.set c3 (af 42 [x])=Y at sn gY my hWY KY;have hc3:=hW3.hc;simp only[WX,NS,NT,NY,NZ,d1,ia,ld,hG,sn];refine bj1 Φ h57 ok0 hWY (by rw[hA];exact hzA) (X1 (G1 (X1 (G2 (G1 (X1 (G2 (G1 (X2 (X1 (G2 (G1 (ce (X2 (X1 (G2 (G1 (cF (ce (X8 (X1 []))))))))))))))))))))) _ ?_;intro u M4 c4 hW4 K4;rw[hA]at hW4;have kx:loadN F M4 c3 0 1=some [x]:=bj (K4.2 c3 42 [x] (aA _) (by omega) (by omega) my) 1 rfl;simp only[WX,NU,kx];refine av ((w58 Φ h58 h57 h59 h77 h52 h54 h71 ok0 hW4 hw1 hsk hzB).mono ?_);rintro _ M5 c5 ⟨hW5,K5⟩;have K6:=KY.trans (K4.trans K5);have mb6:=K6.2 pb 39 _ hp2 (by omega) (by omega) mb;have hle6:=K6.1;have m62:load1 F M5 pb 2=some vi:=aq mb6 2;have ni:=hw.len;have di:=C7 wi;have NXT:∀(u:List (Option V)) M' c',nG M0 c M' c' (cu++A++w.map dm++C)→Kp c M5 c5 M' c'→I (cs.length-(k+1)) (.mk ((NC u (.p c 0) (.p (c+1) 0) (.p (c+2) 0) (.f 58 [] [.p (c+2) 0]) (.p pb 0) vl (.i .i64 (N:Int)) (.i .i64 (i:Int)) vc (.i .i64 (cs.length:Int)) (.i .i64 ((k+1:Nat):Int)))) [] M' c'):=by
   intro u M' c' hW' K';exact(hI _ _).2 ⟨k+1,_,_,_,(X1 (G1 (X1 (G2 (G1 (X1 (G1 (X4 (X1 (G2 (G1 (ce (X2 (X1 (G2 (G1 (cF (ce (X8 (X1 [])))))))))))))))))))),rfl,hlt,rfl,hW',K6.trans K',by rw[hR,←he];simp only[bM]⟩
  by_cases hk0:k=0
  ·have d0:decide ((k:Int)=0)=true:=aj (by omega);rw[aj hk0,Bool.true_and]at hC;cases hI0:hasW wi with
   |true=>
    rw[hI0]at di;rw[ac hI0]at hC;subst hC;simp only[WX,NW,NX,d0,m62,ni,di,aW];refine bi7 Φ h57 h59 h77 h52 h54 h71 ok0 hW5 mb6 hp1 (by omega) hw hs hzC (X1 (G1 (X1 (G2 (G1 (X1 (G2 (X4 (G2 (G1 (ce (X2 (X1 (G2 (G1 (cF (ce (X8 (X1 []))))))))))))))))))) _ ?_;intro u M7 c7 hW7 K7;simp only[WX,wb,q8];exact⟨cs.length-(k+1),by omega,NXT (X1 (G1 (X1 (G2 (G1 (X1 (G1 (X4 (X1 (G2 (G1 (ce (X2 (X1 (G2 (G1 (cF (ce (X8 (X1 [])))))))))))))))))))) _ _ hW7 K7⟩
   |false=>
    rw[hI0]at di;rw[ab (by rw[hI0];simp)]at hC;subst hC;simp only[WX,wb,d0,m62,ni,di,aW,q8];exact⟨cs.length-(k+1),by omega,NXT (X1 (G1 (X1 (G2 (G1 (X1 (G1 (X4 (X1 (G2 (G1 (ce (X2 (X1 (G2 (G1 (cF (ce (X8 (X1 [])))))))))))))))))))) _ _ (by rw[bP];exact hW5) Kp.refl⟩
  ·have d0:decide ((k:Int)=0)=false:=ak (by omega);rw[ak hk0,Bool.false_and,ab (by simp)]at hC;subst hC;simp only[WX,wb,d0,q8];exact⟨cs.length-(k+1),by omega,NXT (X1 (G1 (X1 (G2 (G1 (X1 (G1 (X4 (X1 (G2 (G1 (ce (X2 (X1 (G2 (G1 (cF (ce (X8 (X1 [])))))))))))))))))))) _ _ (by rw[bP];exact hW5) Kp.refl⟩
 ·obtain rfl:k=cs.length:=by omega
  have d1:decide ((cs.length:Int)<(cs.length:Int))=false:=ak (by omega);rw[dG,jK,bP]at he;subst he;simp only[WX,wb,d1];exact hQ (X1 (G1 (X1 (G2 (G1 (X1 (G1 (X4 (X1 (G2 (G1 (cF (cH (X8 (X4 (X2 (X1 []))))))))))))))))) _ _ hW3 K3
theorem bj0(Φ:Nat→Option CF)(h57:Φ 57=some wz)(h59:Φ 59=some C3)(h77:Φ 77=some (.orc (bh h77)))(h52:Φ 52=some yB)(h54:Φ 54=some yC)(h71:Φ 71=some vW){F:RO}{M0 M2:Mem}{c c2 pb N i:Nat}{cur:List (List UInt8)}{vl vi vo vc:V}{j:Int}{nt beh:Bool}{w:List Pc}(ok0:cU F M0 c)(hW:nG M0 c M2 c2 cur)(mb:M2.get pb=some (af 39 [.i .i64 j,.b nt,vi,vo,.b beh,vc]))(hp1:c+3≤pb)(hp2:pb<c2)(hw:dt F M0 c vo w)(hs:∀q∈w,q.1.length≤1000000)(hz:dq (cur++n7 beh w)≤1000000)(u:List (Option V))(Q:Ex→St→Prop)
 (hQ:∀(u:List (Option V)) M' c',nG M0 c M' c' (cur++n7 beh w)→Q .nrm (.mk ((kv u (.p c 0) (.p (c+1) 0) (.p (c+2) 0) (.f 58 [] [.p (c+2) 0]) (.p pb 0) vl (.i .i64 (N:Int)) (.i .i64 (i:Int)))) [] M' c')):
 Wp zr (K Φ none 39 F) (.mk ((kv u (.p c 0) (.p (c+1) 0) (.p (c+2) 0) (.f 58 [] [.p (c+2) 0]) (.p pb 0) vl (.i .i64 (N:Int)) (.i .i64 (i:Int)))) [] M2 c2) Q:=by
 have l4:load1 F M2 pb 4=some (.b beh):=aq mb 4
 have l3:load1 F M2 pb 3=some vo:=aq mb 3
 have no:=hw.len
 have do':=C7 w
 unfold n7 at hz hQ
 cases beh with
 |true=>
  rw[ac rfl]at hz hQ;simp only[WX,Bi,Bj,l4];exact bi4 Φ h57 h59 h77 h52 h54 h71 ok0 hW mb hp1 hp2 hw hs hz (X1 (G1 (X1 (G2 (G1 (X1 (G1 (X4 (X1 (G2 (G1 (cF (cH (X8 (X4 (X2 (X1 []))))))))))))))))) _ fun u M' c' h _=>hQ u M' c' h
 |false=>
  rw[ab (by simp)]at hz hQ;cases hO:hasW w with
  |true=>
   rw[hO]at do'
   rw[ac hO]at hz hQ;simp only[WX,Bi,O0,O1,Bj,l4,l3,no,do',aW];exact bi5 Φ h57 h59 h77 h52 h54 h71 ok0 hW mb hp1 hp2 hw hs hz (X1 (G1 (X1 (G2 (G1 (X1 (G1 (X4 (X1 (G2 (G1 (cF (cH (X8 (X4 (X2 (X1 []))))))))))))))))) _ fun u M' c' h _=>hQ u M' c' h
  |false=>
   rw[hO]at do'
   rw[ab (by rw[hO];simp),bP]at hQ;simp only[WX,wb,l4,l3,no,do',aW];exact hQ (X1 (G1 (X1 (G2 (G1 (X1 (G1 (X4 (X1 (G2 (G1 (cF (cH (X8 (X4 (X2 (X1 []))))))))))))))))) _ _ hW
theorem w39(Φ:Nat→Option CF)(h:Φ 39=some c39)(h33:Φ 33=some OV)(h57:Φ 57=some wz)(h58:Φ 58=some PT)(h59:Φ 59=some C3)(h60:Φ 60=some OX)(h79:Φ 79=some PW)(h89:Φ 89=some OZ)(h77:Φ 77=some (.orc (bh h77)))(h52:Φ 52=some yB)(h54:Φ 54=some yC)(h71:Φ 71=some vW){F:RO}{M:Mem}{c:Nat}(ok:cU F M c){vl:V}{l:List fm}(hl:iG F M c vl l)(hj:∀p∈l,0≤p.join∧p.join≤3)(hS:∀p∈l,Gl p)(hz:dq (nJ l)≤1000000):
 Calls Φ F 39 [.g [vl]] M c fun r M' c'=>r=sV (dM [32] (nJ l))∧Gr c M c' M':=by
 refine aM h ?_
 obtain⟨y1,y2,y3⟩:=hl.one
 have hG:∀v,flatten (V.g [v])=[v]:=fun _=>rfl
 have n1:=hl.len
 have mx:=hl.max
 have sn:bN (((M.set c (af 25 [vl])).set (c+1) (af 69 [.l0])).set (c+2) (af 105 [.f0])) (c+2) 0 [.f 57 [] [.p (c+1) 0]]=some (((M.set c (af 25 [vl])).set (c+1) (af 69 [.l0])).set (c+2) (af 105 [.f 57 [] [.p (c+1) 0]])):=fh rfl rfl
 have g3:Gr c M (c+3) (((M.set c (af 25 [vl])).set (c+1) (af 69 [.l0])).set (c+2) (af 105 [.f 57 [] [.p (c+1) 0]])):=(((Gr.refl ok).set c _ (ah _) (aA _) (aG _)).set (c+1) _ (by omega) (show c+1<c+2 by omega) (by omega)).set (c+2) _ (by omega) (by omega) (by omega)
 have k0:load1 F (((M.set c (af 25 [vl])).set (c+1) (af 69 [.l0])).set (c+2) (af 105 [.f 57 [] [.p (c+1) 0]])) c 0=some vl:=aq (ty:=25) (l:=[vl]) (by rw[ag _ _ (by omega),ag _ _ (by omega),am]) 0
 have hW0:nG M c (((M.set c (af 25 [vl])).set (c+1) (af 69 [.l0])).set (c+2) (af 105 [.f 57 [] [.p (c+1) 0]])) (c+3) []:=⟨g3,ah _,⟨.l0,0,by rw[ag _ _ (by omega),am],bm.nil⟩,am _ _ _⟩
 have hfn:∀a b c,flatten (V.f a b c)=[V.f a b c]:=fun _ _ _=>rfl
 simp only[WX,Nat.reduceAdd,wb,hG,y3,sn,hfn,k0,n1,aW]
 generalize((M.set c (af 25 [vl])).set (c+1) (af 69 [.l0])).set (c+2) (af 105 [.f 57 [] [.p (c+1) 0]])=X at g3 hW0⊢
 clear k0 sn
 obtain⟨I,hI⟩:∃I:Nat→St→Prop,∀n s',I n s'↔(∃(i c1:Nat) (M1:Mem) (cur:List (List UInt8)) (u:List (Option V)),n=l.length-i∧i≤l.length∧s'= .mk ((b11 u (.p c 0) (.p (c+1) 0) (.p (c+2) 0) (.f 58 [] [.p (c+2) 0]) vl (.i .i64 (l.length:Int)) (.i .i64 (i:Int)))) [] M1 c1∧nG M c M1 c1 cur∧cur++nJ (l.drop i)=nJ l):=⟨fun n s'=>_,fun _ _=>Iff.rfl⟩
 refine bS I ?_ l.length _ ((hI _ _).2 ⟨0,_,_,_,(X1 (G1 (X1 (G2 (G1 (X4 (X2 (X1 (G2 (G1 (cF (cH (X8 (X4 (X2 (X1 [])))))))))))))))),rfl,az _,rfl,hW0,rfl⟩)
 intro n s' hIs
 obtain⟨i,c1,M1,cur,u,rfl,hi,rfl,hW,he⟩:=(hI _ _).1 hIs
 clear hIs
 by_cases hlt:i<l.length
 ·have q8:cZ .add (.i .i64 (i:Int)) (.i .i64 1)=some (.i .i64 ((i+1:Nat):Int)):=by rw[bF _ _ (by omega) (by omega)];simp
  have d1:decide ((i:Int)<(l.length:Int))=true:=aj (by omega);obtain⟨b,o,e,hbx,ia,ld0,el,hp⟩:=hl.at (by decide) i hlt;have ia:=ia .i64;have ld:loadN F M1 b o 6=some e:=(hW.gr.loadN hbx _ _).trans ld0;have hd:l.drop i=l[i]::l.drop (i+1):=cQ hlt;rw[hd,nJ]at he;obtain⟨hj0,hj3⟩:=hj l[i] (List.getElem_mem _);obtain⟨hsi,hso,hsc,_,_⟩:=hS l[i] (List.getElem_mem _);generalize l[i]=p at hp he hj0 hj3 hsi hso hsc;generalize hR:nJ (l.drop (i+1))=R at he;unfold R5 at he;obtain⟨A,hA⟩:∃A,(if 0<p.join then[Ac p.join.toNat]else[])=A:=⟨_,rfl⟩
  obtain⟨B,hB⟩:∃B,(if p.nt=true then[[(33:UInt8)]]else[])=B:=⟨_,rfl⟩
  rw[hA,hB]at he;obtain⟨vi,vo,vc,rfl,a1,a2,a3⟩:=hp;have he2:cur++(A++(B++(jK p.inp 0 p.cmds++(n7 p.beh p.out++R))))=nJ l:=by rw[←he];simp only[bM]
  have hzA:dq (cur++A)≤1000000:=js (b:=B++(jK p.inp 0 p.cmds++(n7 p.beh p.out++R))) (by rw[bM,he2];exact hz);have hzB:dq (cur++A++B)≤1000000:=js (b:=jK p.inp 0 p.cmds++(n7 p.beh p.out++R)) (by rw[bM,bM,he2];exact hz);have hzC:dq (cur++A++B++jK p.inp 0 p.cmds)≤1000000:=js (b:=n7 p.beh p.out++R) (by rw[bM,bM,bM,he2];exact hz);have hzD:dq (cur++A++B++jK p.inp 0 p.cmds++n7 p.beh p.out)≤1000000:=js (b:=R) (by rw[bM,bM,bM,bM,he2];exact hz);obtain⟨p1,p2,p3⟩:=a1.one;obtain⟨o1,o2,o3⟩:=a2.one;obtain⟨r1,r2,r3⟩:=a3.one;have hG6:flatten (V.g [.i .i64 p.join,.b p.nt,vi,vo,.b p.beh,vc])=[.i .i64 p.join,.b p.nt,vi,vo,.b p.beh,vc]:=rfl;have hA6:aE [.i .i64 p.join,.b p.nt,vi,vo,.b p.beh,vc]=true:=by
   rw[aD,aD,aD,aD,aD,aD,cg,p1,o1,r1];rfl
  have ok1:=hW.gr.ok ok;have sn:bN (M1.set c1 (af 39 [.i .i64 0,.b false,.l0,.l0,.b false,.l0])) c1 0 [.i .i64 p.join,.b p.nt,vi,vo,.b p.beh,vc]=some (M1.set c1 (af 39 [.i .i64 p.join,.b p.nt,vi,vo,.b p.beh,vc])):=fh rfl hA6;have gY:=(Gr.refl ok1).set c1 (af 39 [.i .i64 p.join,.b p.nt,vi,vo,.b p.beh,vc]) (ah _) (aA _) (aG _);have my:(M1.set c1 (af 39 [.i .i64 p.join,.b p.nt,vi,vo,.b p.beh,vc])).get c1=some (af 39 [.i .i64 p.join,.b p.nt,vi,vo,.b p.beh,vc]):=am _ _ _;have hWY:=hW.grow gY;generalize M1.set c1 (af 39 [.i .i64 p.join,.b p.nt,vi,vo,.b p.beh,vc])=Y at sn gY my hWY;have hc1:=hW.hc;simp only[WX,Nat.reduceAdd,YE,YF,O4,O5,d1,ia,ld,hG6,Bool.and_self,sn];refine bi8 Φ h33 h57 ok hWY my (by omega) (aA _) hj0 hj3 (by rw[hA];exact hzA) (X1 (G1 (X1 (G2 (G1 (X1 (G1 (X4 (X1 (G2 (G1 (cF (cH (X8 (X4 (X2 (X1 []))))))))))))))))) _ ?_;intro u M2 c2 hW2 K2;rw[hA]at hW2;have m2:=K2.2 c1 39 _ (aA _) (by omega) (by omega) my;have hle2:=K2.1;simp only[WX];refine bi9 Φ h57 ok hW2 m2 (by rw[hB];exact hzB) (X1 (G1 (X1 (G2 (G1 (X1 (G1 (X4 (X1 (G2 (G1 (cF (cH (X8 (X4 (X2 (X1 []))))))))))))))))) _ ?_;intro u M3 c3 hW3 K3;rw[hB]at hW3;have m3:=K3.2 c1 39 _ (by omega) (by omega) (by omega) m2;have hle3:=K3.1;have k5:load1 F M3 c1 5=some vc:=aq m3 5;have nc:=a3.len;simp only[WX,NR,O2,k5,nc];refine m39 Φ h57 h58 h59 h77 h52 h54 h71 ok hW3 m3 (by omega) (by omega) a1 hsi a3 hsc hzC (X1 (G1 (X1 (G2 (G1 (X1 (G1 (X4 (X1 (G2 (G1 (ce (X2 (X1 (G2 (G1 (cF (ce (X8 (X1 [])))))))))))))))))))) _ ?_;intro u M4 c4 hW4 K4;have m4:=K4.2 c1 39 _ (by omega) (by omega) (by omega) m3;have hle4:=K4.1;simp only[WX,Nat.reduceEqDiff,reduceCtorEq,O3,O6];refine bj0 Φ h57 h59 h77 h52 h54 h71 ok hW4 m4 (by omega) (by omega) a2 hso hzD (X1 (G1 (X1 (G2 (G1 (X1 (G1 (X4 (X1 (G2 (G1 (cF (cH (X8 (X4 (X2 (X1 []))))))))))))))))) _ ?_;intro u M5 c5 hW5;simp only[WX,wb,q8];exact⟨l.length-(i+1),by omega,(hI _ _).2 ⟨i+1,_,_,_,(X1 (G1 (X1 (G2 (G1 (X4 (X2 (X1 (G2 (G1 (cF (cH (X8 (X4 (X2 (X1 [])))))))))))))))),rfl,hlt,rfl,hW5,by rw[hR,←he2];simp only[bM]⟩⟩
 ·obtain rfl:i=l.length:=by omega
  have d1:decide ((l.length:Int)<(l.length:Int))=false:=ak (by omega);rw[dG,nJ,bP]at he;subst he;obtain⟨gr,hc,⟨v,b,h1,h2⟩,m2⟩:=hW;have l1:load1 F M1 (c+1) 0=some v:=aq h1 0;simp only[WX,wb,d1,l1];have e32:V.s 1 32=sV [32]:=rfl;rw[e32];refine av ((r60 Φ h60 h79 h52 h54 h71 h89 (gr.ok ok) h2.sl hz (by decide) (by decide)).mono ?_);rintro r M2 c2 ⟨rfl,g2⟩;simp only[WX];exact gr.trans g2
def Br:Nat→hU→List UInt8
 |_,[]=>[]
 |m,w::r=>(if 0<m then[32]else[])++(dm w++Br (m+1) r)
def inR(k:Nat)(inp:List Pc):List UInt8:=if(decide (k=0)&&hasW inp)=true then[32,60,32]++dm inp else[]
def Ef(inp:List Pc):Nat→List hU→List UInt8
 |_,[]=>[]
 |k,c::r=>(if 0<k then[32,124,32]else[])++(Br 0 c++(inR k inp++Ef inp (k+1) r))
def EW(beh:Bool)(out:List Pc):List UInt8:=if hasW out=true then(if beh=true then[32,62,62,32]else[32,62,32])++dm out else[]
def jnS:Nat→List UInt8
 |1=>[32,59,32]
 |2=>[32,38,38,32]
 |3=>[32,124,124,32]
 |_=>[]
def Zg:Nat→List fm→List UInt8
 |_,[]=>[]
 |i,p::r=>(if 0<i then jnS p.join.toNat else[])++((if p.nt=true then[33,32]else[])++(Ef p.inp 0 p.cmds++(EW p.beh p.out++Zg (i+1) r)))
abbrev b12(u:List (Option V))(x1 x16 x17 x18:V):T:=(.n (.n (.n (aJ u 31 15 47 7 39 23 55) (uO u 3) (aJ u 35 19 51 11 43 27 59)) (some x1) (.n (.n (.n (eg u 33) (some x17) (eg u 49)) (uO u 9) (ek u 41 25 57)) (uO u 5) (aJ u 37 21 53 13 45 29 61))) (uO u 0) (.n (.n (.n (.n (eg u 32) (some x16) (eg u 48)) (uO u 8) (ek u 40 24 56)) (uO u 4) (aJ u 36 20 52 12 44 28 60)) (uO u 2) (.n (.n (.n (eg u 34) (some x18) (eg u 50)) (uO u 10) (ek u 42 26 58)) (uO u 6) (aJ u 38 22 54 14 46 30 62))))
def SE:CC:=(.reg [(aa a1 (.bx 25 1 z0)),(qq a2 (.mv (x6 0)))])
def SF:CC:=(.reg [(qq a5 (.fa 0 z1)),(qq a6 (.ld1 z5)),(qq a7 (.ln .slice z6)),(qq a8 (.bi .lss z7 (x6 1))),(qq a9 (.mv z8)),(aH dV (.fa 0 z1) a9),(aH fo (.ld1 fT) a9),(aH fF (.ln .slice ec) a9),(aH eO (.bi .gtr eP (x6 16)) a9),(qq gp (.pk z9 xT ej))])
def SG:CC:=(.seq (.reg [(qq a2 (.mv (x6 2)))]) .ret)
def SH:CC:=(.reg [(qq eC (.fa 0 z1)),(qq i7 (.ld1 i5)),(qq fY (.ln .slice j3)),(qq gG (.mv (x6 0)))])
def SI:CC:=(.reg [(qq kG (.bi .lss ju gy))])
def SJ:CC:=(.reg [(qq jI (.mv ju)),(qq i4 (.iaS 6 j3 ju)),(qq lw (.ldn 6 nK)),(aa a4 (.al 39 [(.i .i64 0),(.b false),.l0,.l0,(.b false),.l0])),(qq a3 (.mv mB)),(ez (.st 6 z4 nL))])
def SK:CC:=(.reg [(qq kH (.mv z3)),(qq jJ (.bi .eql mC (x6 0))),(qq mq (.fa 0 z4)),(qq lL (.ld1 qh)),(qq iH (.bi .eql pL (x6 0))),(qq nO (.eq true .bool false oJ nE)),(qq kI (.mv qi)),(aH lM (.fa 0 z4) kI),(aH mr (.ld1 rZ) kI),(aH sf (.bi .lss sk (x6 0)) kI),(qq sg (.pk qj xT vN)),(qq pM (.mv yo)),(aH lm (.fa 0 z4) pM),(aH sP (.ld1 vP) pM),(aH po (.bi .gtr yp (x6 3)) pM),(qq mt (.pk vO xT ua)),(qq nP (.mv w6)),(aH sQ (.ldn 6 z4) nP),(gK sw (.call 40 [yq]) nP),(aH sR (.un .not vQ) nP),(qq sS (.pk w7 xT yr))])
def SL:CC:=(.seq (.reg [(qq a2 (.mv (x6 2)))]) .ret)
def SN:CC:=(.seq SK (.cond yt SL .skip))
def HA:CC:=(.reg [(qq qy (.bi .add ju (x6 1))),(qq gG (.mv w8))])
def HB:CC:=(.seq (.cond mA .skip (.exit 0)) (.seq (.block 1 (.seq SJ SN)) HA))
def HC:CC:=(.reg [(qq ui (.ldn 1 z1)),(ee nQ (.call 39 [yI])),(qq uj (.ln .str FH)),(qq vR (.bi .gtr yJ (x6 4096)))])
def HD:CC:=(.seq (.reg [(qq a2 (.mv (x6 2)))]) .ret)
def HE:CC:=(.seq HC (.cond BA HD .skip))
def HF:CC:=(.seq (.reg [(qq a2 (.mv (x6 0)))]) .ret)
def HG:CC:=(.seq (.seq SH (.block 0 (.loop (.seq SI HB)))) (.seq HE HF))
def HH:CC:=(.seq (.seq SF (.cond i9 SG .skip)) HG)
def KV:CF:= .mk 6 [.t a2] (.seq SE HH)
theorem e17(v0:V):bA 6 [v0]=(.n AZ (some v0) AZ):=rfl
def Dl:=ai @e17 (ai (wu SE.eq_1) (ai (wu SF.eq_1) (ai (wu SG.eq_1) (ai (wu SH.eq_1) (ai (wu SI.eq_1) (ai (wu SJ.eq_1) (ai (wu SK.eq_1) (ai (wu SL.eq_1) (ai (wu SN.eq_1) (ai (wu HA.eq_1) (ai (wu HB.eq_1) (ai (wu HC.eq_1) (ai (wu HD.eq_1) (ai (wu HE.eq_1) (ai (wu HF.eq_1) (ai (wu HG.eq_1) (wu HH.eq_1)))))))))))))))))
def aN0:CC:=(.reg [(aa a1 (.bx 25 1 z0)),(qq a2 (.mv (.c (.s 0 0)))),(qq a3 (.mv (x6 0)))])
def aN1:CC:=(.reg [(qq a5 (.ldn 1 z1)),(ee a6 (.call 17 [z5])),(qq a4 (.mv z6))])
def aN2:CC:=(.reg [(qq a7 (.mv z4)),(qq a8 (.bi .neq z7 (x6 0)))])
def aN3:CC:=(.reg [(qq a9 (.mv z4)),(qq a2 (.mv (.c (.s 0 0)))),(qq a3 (.mv z9))])
def aN4:CC:=(.seq aN2 (.cond z8 (.seq aN3 .ret) .skip))
def aN5:CC:=(.reg [(qq dV (.ldn 1 z1)),(ee fo (.call 39 [fT])),(qq a2 (.mv ec)),(qq a3 (.mv (x6 0)))])
def c16:CF:= .mk 4 [.t a2,.t a3] (.seq aN0 (.seq (.seq aN1 aN4) (.seq aN5 .ret)))
def jOk(i:Nat)(j:Int):Bool:=(decide (i=0)==decide (j=0))&&(!decide (j<0)&& !decide (3<j))
def dJ:Nat→List fm→Bool
 |_,[]=>true
 |i,p::r=>(jOk i p.join&&kl p)&&dJ (i+1) r
def pN(l:List fm):Bool:= !decide (l.length<1)&&(!decide (16<l.length)&&(dJ 0 l&& !decide (4096<(dM [32] (nJ l)).length)))
def Q5(b:Bool):V:= .i .i64 (if b=true then 0 else 2)
theorem tN:∀(l:List fm) (i:Nat),dJ i l=true→ ∀p∈l,0≤p.join∧p.join≤3
 |[],_,_,p,hp=>by cases hp
 |q::r,i,h,p,hp=>by
  rw[dJ,aX,aX]at h;rcases be.1 hp with rfl|hp
  ·have:=h.1.1;unfold jOk at this;rw[aX,aX]at this;have a:=this.2.1;have b:=this.2.2;simp only[Bool.not_eq_true',decide_eq_false_iff_not]at a b;omega
  ·exact tN r _ h.2 p hp
theorem ab6(n:Nat):decide ((16:Int)<(n:Int))=decide (16<n):=by congr 1;exact propext (by omega)
theorem Lh(n:Nat):decide ((4096:Int)<(n:Int))=decide (4096<n):=by congr 1;exact propext (by omega)
theorem bh3(n:Nat):decide ((n:Int)=0)=decide (n=0):=by congr 1;exact propext (by omega)
theorem w17(Φ:Nat→Option CF)(h:Φ 17=some KV)(h40:Φ 40=some c40)(h63:Φ 63=some PU)(h62:Φ 62=some KW)(h80:Φ 80=some L0)(h81:Φ 81=some L4)(h82:Φ 82=some OY)(h90:Φ 90=some L5)(h83:Φ 83=some FX)(h61:Φ 61=some Ec)(h39:Φ 39=some c39)(h33:Φ 33=some OV)(h57:Φ 57=some wz)(h58:Φ 58=some PT)(h59:Φ 59=some C3)(h60:Φ 60=some OX)(h79:Φ 79=some PW)(h89:Φ 89=some OZ)(h77:Φ 77=some (.orc (bh h77)))(h52:Φ 52=some yB)(h54:Φ 54=some yC)(h71:Φ 71=some vW){F:RO}{M:Mem}{c:Nat}(ok:cU F M c){vl:V}{l:List fm}(hl:iG F M c vl l)(hS:∀p∈l,Gl p)(hz:dq (nJ l)≤1000000):
 Calls Φ F 17 [.g [vl]] M c fun r M' c'=>r=Q5 (pN l)∧Gr c M c' M':=by
 refine aM h ?_
 obtain⟨y1,y2,y3⟩:=hl.one
 have hG:∀v,flatten (V.g [v])=[v]:=fun _=>rfl
 have n1:=hl.len
 have mx:=hl.max
 have gX:=(Gr.refl ok).set c (af 25 [vl]) (ah _) (aA _) (aG _)
 have m0:(M.set c (af 25 [vl])).get c=some (af 25 [vl]):=am _ _ _
 have kX:load1 F (M.set c (af 25 [vl])) c 0=some vl:=aq m0 0
 have lX:loadN F (M.set c (af 25 [vl])) c 0 1=some [vl]:=bj m0 1 rfl
 have hX:=hl.grow gX
 simp only[WX,Dl,hG,y3,kX,n1,aW]
 generalize M.set c (af 25 [vl])=X at gX m0 hX kX lX⊢
 have okX:=gX.ok ok
 have dl:=XO l.length
 have dg:=ab6 l.length
 have BAD:∀b,pN l=b→(b=false→(V.i IntKind.i64 2)=Q5 (pN l)):=by intro b hb h0;rw[hb,h0];rfl
 by_cases hl1:l.length<1
 ·rw[aj hl1]at dl;simp only[WX,Dl,dl];exact⟨BAD _ rfl (by unfold pN;rw[aj hl1];rfl),gX⟩
 rw[ak hl1]at dl
 by_cases hl16:16<l.length
 ·rw[aj hl16]at dg;simp only[WX,Dl,dl,dg,kX,n1,aW];exact⟨BAD _ rfl (by unfold pN;rw[aj hl16];simp),gX⟩
 rw[ak hl16]at dg
 simp only[WX,Dl,dl,dg,kX,n1,aW]
 have CH:pN l=(dJ 0 l&& !decide (4096<(dM [32] (nJ l)).length)):=by unfold pN;rw[ak hl1,ak hl16];rfl
 obtain⟨I,hI⟩:∃I:Nat→St→Prop,∀n s',I n s'↔(∃(i c1:Nat) (M1:Mem) (u:List (Option V)),n=l.length-i∧i≤l.length∧s'= .mk ((b12 u (.p c 0) vl (.i .i64 (l.length:Int)) (.i .i64 (i:Int)))) [] M1 c1∧Gr (c+1) X c1 M1∧dJ 0 l=dJ i (l.drop i)):=⟨fun n s'=>_,fun _ _=>Iff.rfl⟩
 refine bS I ?_ l.length _ ((hI _ _).2 ⟨0,_,_,(X1 (G1 (X8 (X4 (X2 (G2 (G1 (cH (X8 (X4 [])))))))))),rfl,az _,rfl,Gr.refl okX,rfl⟩)
 intro n s' hIs
 obtain⟨i,c1,M1,u,rfl,hi,rfl,gr,he⟩:=(hI _ _).1 hIs
 clear hIs
 by_cases hlt:i<l.length
 ·have q8:cZ .add (.i .i64 (i:Int)) (.i .i64 1)=some (.i .i64 ((i+1:Nat):Int)):=by rw[bF _ _ (by omega) (by omega)];simp
  have d1:decide ((i:Int)<(l.length:Int))=true:=aj (by omega);obtain⟨b,o,e,hbx,ia,ld,el,hp⟩:=(hX.grow gr).at (by decide) i hlt;have ia:=ia .i64;have hd:l.drop i=l[i]::l.drop (i+1):=cQ hlt;rw[hd,dJ]at he;have hSi:=hS l[i] (List.getElem_mem _);generalize l[i]=p at hp he hSi;have hp':=hp;obtain⟨vi,vo,vc,rfl,a1,a2,a3⟩:=hp;obtain⟨p1,p2,p3⟩:=a1.one;obtain⟨o1,o2,o3⟩:=a2.one;obtain⟨r1,r2,r3⟩:=a3.one;have hG6:flatten (V.g [.i .i64 p.join,.b p.nt,vi,vo,.b p.beh,vc])=[.i .i64 p.join,.b p.nt,vi,vo,.b p.beh,vc]:=rfl;have hA6:aE [.i .i64 p.join,.b p.nt,vi,vo,.b p.beh,vc]=true:=by
   rw[aD,aD,aD,aD,aD,aD,cg,p1,o1,r1];rfl
  have ok1:=gr.ok okX;have sn:bN (M1.set c1 (af 39 [.i .i64 0,.b false,.l0,.l0,.b false,.l0])) c1 0 [.i .i64 p.join,.b p.nt,vi,vo,.b p.beh,vc]=some (M1.set c1 (af 39 [.i .i64 p.join,.b p.nt,vi,vo,.b p.beh,vc])):=fh rfl hA6;have gY:=(Gr.refl ok1).set c1 (af 39 [.i .i64 p.join,.b p.nt,vi,vo,.b p.beh,vc]) (ah _) (aA _) (aG _);have my:(M1.set c1 (af 39 [.i .i64 p.join,.b p.nt,vi,vo,.b p.beh,vc])).get c1=some (af 39 [.i .i64 p.join,.b p.nt,vi,vo,.b p.beh,vc]):=am _ _ _;have k0:load1 F (M1.set c1 (af 39 [.i .i64 p.join,.b p.nt,vi,vo,.b p.beh,vc])) c1 0=some (.i .i64 p.join):=aq my 0;have k6:loadN F (M1.set c1 (af 39 [.i .i64 p.join,.b p.nt,vi,vo,.b p.beh,vc])) c1 0 6=some [.i .i64 p.join,.b p.nt,vi,vo,.b p.beh,vc]:=bj my 6 rfl;generalize M1.set c1 (af 39 [.i .i64 p.join,.b p.nt,vi,vo,.b p.beh,vc])=Y at sn gY my k0 k6;have okY:=gY.ok ok1;have gXY:=gX.trans (gr.trans gY);simp only[WX,Nat.reduceAdd,Dl,d1,ia,ld,hG6,Bool.and_self,sn,k0,aW];have dz:=bh3 i;unfold jOk at he;obtain⟨a,ha⟩:∃a,decide (i=0)=a:=⟨_,rfl⟩
  obtain⟨z,hz'⟩:∃z,decide (p.join=0)=z:=⟨_,rfl⟩
  obtain⟨x,hx⟩:∃x,decide (p.join<0)=x:=⟨_,rfl⟩
  obtain⟨w,hw⟩:∃w,decide (3<p.join)=w:=⟨_,rfl⟩
  rw[ha,hz',hx,hw]at he;rw[ha]at dz;have NO:dJ 0 l=false→ ∀M' c',Gr c M c' M'→(V.i IntKind.i64 2)=Q5 (pN l)∧Gr c M c' M':=fun hn M' c' g=>⟨BAD _ rfl (by rw[CH,hn];rfl),g⟩;by_cases haz:a=z
  ·have dz2:decide (a=z)=true:=aj haz;have az2:(a==z)=true:=by rw[haz];simp
   rw[az2]at he;cases x with
   |true=>
    simp only[WX,Dl,dz,hz',hx,dz2,k0,aW];exact NO (by rw[he];rfl) _ _ gXY
   |false=>
    cases w with
    |true=>
     simp only[WX,Dl,dz,hz',hx,hw,dz2,k0,aW];exact NO (by rw[he];rfl) _ _ gXY
    |false=>
     simp only[WX,dz,hz',hx,hw,dz2,k0,k6,aW];refine av ((w40 Φ h40 h63 h62 h80 h81 h82 h90 h83 h61 h77 okY (P1.grow gY _ _ hp') hSi).mono ?_);rintro r M2 c2 ⟨rfl,g2⟩;cases hpo:kl p with
     |false=>
      rw[hpo]at he;simp only[WX,Dl];exact NO (by rw[he];rfl) _ _ (gXY.trans g2)
     |true=>
      rw[hpo]at he;simp only[WX,Dl,q8];exact⟨l.length-(i+1),by omega,(hI _ _).2 ⟨i+1,_,_,(X1 (G1 (X8 (X4 (X2 (G2 (G1 (cH (X8 (X4 [])))))))))),rfl,hlt,rfl,gr.trans (gY.trans g2),by rw[he];rfl⟩⟩
  ·have dz2:decide (a=z)=false:=ak haz;have az2:(a==z)=false:=by simpa using haz
   rw[az2]at he;simp only[WX,Dl,dz,hz',dz2];exact NO (by rw[he];rfl) _ _ gXY
 ·obtain rfl:i=l.length:=by omega
  have d1:decide ((l.length:Int)<(l.length:Int))=false:=ak (by omega);rw[dG,dJ]at he;have lx:loadN F M1 c 0 1=some [vl]:=(gr.loadN (aA _) _ _).trans lX;simp only[WX,Dl,d1,lx];refine av ((w39 Φ h39 h33 h57 h58 h59 h60 h79 h89 h77 h52 h54 h71 (gr.ok okX) (hX.grow gr) (tN l 0 he) hS hz).mono ?_);rintro r M2 c2 ⟨rfl,g2⟩;have dW:=Lh (dM [32] (nJ l)).length;rw[he,Bool.true_and]at CH;cases hW:decide (4096<(dM [32] (nJ l)).length)with
  |true=>
   rw[hW]at dW CH;simp only[WX,Dl,dW];exact⟨BAD _ rfl CH,gX.trans (gr.trans g2)⟩
  |false=>
   rw[hW]at dW CH;simp only[WX,Dl,dW];exact⟨by rw[CH];rfl,gX.trans (gr.trans g2)⟩
end
end Go.Proofs.YtmbpllipombieaaDoor.Ev
