/- What is proved here: pieces of the evaluator's soundness: if the evaluator comes to a value, the model's run comes to it, for every world and tape; no conditions beyond the hypotheses of each theorem. -/
import Derived.Test.YtmbpllipombieaaDoorEv5
set_option linter.unusedSimpArgs false
set_option linter.unusedVariables false
set_option linter.defProp false
set_option maxRecDepth 10000
set_option maxHeartbeats 16000000
namespace Go.Proofs.YtmbpllipombieaaDoor.Ev
open Go
noncomputable section
theorem r56(Φ:Nat→Option CF)(h:Φ 56=some c56)(h55:Φ 55=some (.orc (aO h55)))(h73:Φ 73=some (.orc (aO h73)))(h75:Φ 75=some (.orc (aO h75)))(h76:Φ 76=some (.orc (aO h88)))(h77:Φ 77=some (.orc (aO h77)))(h74:Φ 74=some W6){F:RO}{M:Mem}{c:Nat}(ok:cK F M c)(s:List UInt8)(hs:s.length≤400000):
 Calls Φ F 56 [sV s] M c fun r M' c'=>WdP F s c r M' c'∧Gr c M c' M':=by
 refine aN h ?_
 have hF:∀w,flatten (sV w)=[sV w]:=fun _=>rfl
 have aS:∀w,aL [sV w]=true:=fun _=>rfl
 simp only[WX,Nat.reduceAdd,J7,hF,aS]
 obtain⟨I,hI⟩:∃I:Nat→Nat→St→Prop,∀n l st,I n l st↔(∃(i:Nat) (M1:Mem) (c1:Nat) (w:List Pc) (text:List UInt8) (sm:Bool) (u:List (Option V)),i≤s.length∧st= .mk ((jN u (.p c 0) (.p (c+1) 0) (.p (c+2) 0) (.p (c+3) 0) (.p (c+4) 0) (.p (c+5) 0) (Vp c))) [] M1 c1∧w.length≤2*i∧text.length≤i∧WS M c s M1 c1 w text sm i∧iP s [] [] false 0=iP (s.drop i) w text sm i∧((l=1∧n=2*(s.length-i)+2)∨(l=2∧n=2*(s.length-i)+1∧ ∃hi:i<s.length,s[i]=39)∨(l=0∧n=0∧stW (s.drop i)=none))):=⟨fun n l st=>_,fun _ _ _=>Iff.rfl⟩
 have FIN:∀(u:List (Option V)) (M':Mem) (c':Nat) (v:V) (p i:Nat) (w:List Pc),i≤s.length→iP s [] [] false 0=some (w,i)→Gr c M c' M'→c+6≤c'→M'.get (c+1)=some (af 36 [v])→bm M' (c+6) c' p 64 2 v (jm w)→nk F [.cn (.r .h) 1,.t (.l (.l .h))] (fun r M' c'=>WdP F s c r M' c'∧Gr c M c' M') .ret (.mk ((wG u (.p (c+1) 0) (.i .i64 (i:Int)))) [] M' c'):=by
  intro u M' c' v p i w hi hr g h6 hm hA;obtain⟨w1,w2,w3⟩:=kf hA;have hld:=aY (F:=F) hm 1 rfl;simp only[WX,hld];exact⟨.inl ⟨w,i,v,hr,hi,rfl,p,EX hA (by omega)⟩,g⟩
 have BAD:∀(u:List (Option V)) (M':Mem) (c':Nat),iP s [] [] false 0=none→Gr c M c' M'→c+6≤c'→M'.get (c+1)=some (af 36 [.l0])→nk F [.cn (.r .h) 1,.t (.l (.l .h))] (fun r M' c'=>WdP F s c r M' c'∧Gr c M c' M') .ret (.mk ((wG u (.p (c+1) 0) (.i .i64 0))) [] M' c'):=by
  intro u M' c' hr g h6 hm;have hld:=aY (F:=F) hm 1 rfl;simp only[WX,hld];exact⟨.inr ⟨hr,rfl⟩,g⟩
 have L1:∀(i:Nat) (M1:Mem) (c1:Nat) (w:List Pc) (text:List UInt8) (sm:Bool) (u:List (Option V)),i≤s.length→w.length≤2*i→text.length≤i→WS M c s M1 c1 w text sm i→iP s [] [] false 0=iP (s.drop i) w text sm i→Wp (.seq .skip (.seq xD xG)) (K Φ none 56 F) (.mk ((jN u (.p c 0) (.p (c+1) 0) (.p (c+2) 0) (.p (c+3) 0) (.p (c+4) 0) (.p (c+5) 0) (Vp c))) [] M1 c1) (kF I (2*(s.length-i)+2) (nk F [.cn (.r .h) 1,.t (.l (.l .h))] (fun r M' c'=>WdP F s c r M' c'∧Gr c M c' M'))):=by
  intro i M1 c1 w text sm u hi hw ht hW hr;refine bC5 Φ h55 h73 h75 h74 ok hi hs (by omega) (by omega) hW (X1 (G2 (X1 (G4 (X1 (G1 (bD (bK (bB (X4 (X1 []))))))))))) _ ?_ ?_ ?_ ?_
  ·intro hst u;rw[kG];exact⟨0,by omega,(hI _ _ _).2 ⟨i,M1,c1,w,text,sm,_,hi,rfl,hw,ht,hW,hr,.inr (.inr ⟨rfl,rfl,hst⟩)⟩⟩
  ·intro hlt h39 u;rw[kG];exact⟨2*(s.length-i)+1,by omega,(hI _ _ _).2 ⟨i,M1,c1,w,text,sm,_,hi,rfl,hw,ht,hW,hr,.inr (.inl ⟨rfl,rfl,hlt,h39⟩)⟩⟩
  ·intro u M' c' j w' text' sm' h1 h2 h3 h4 h5 h6;rw[kG];exact⟨2*(s.length-j)+2,by omega,(hI _ _ _).2 ⟨j,M',c',w',text',sm',_,h2,rfl,by omega,by omega,h6,hr.trans h5,.inl ⟨rfl,rfl⟩⟩⟩
  ·intro hst u M' c' g h6 hm;rw[dR];exact BAD _ M' c' (hr.trans (FT hst)) g h6 hm
 have L2:∀(i:Nat) (M1:Mem) (c1:Nat) (w:List Pc) (text:List UInt8) (sm:Bool) (u:List (Option V)),i≤s.length→w.length≤2*i→text.length≤i→WS M c s M1 c1 w text sm i→iP s [] [] false 0=iP (s.drop i) w text sm i→Wp OT (K Φ none 56 F) (.mk ((jN u (.p c 0) (.p (c+1) 0) (.p (c+2) 0) (.p (c+3) 0) (.p (c+4) 0) (.p (c+5) 0) (Vp c))) [] M1 c1) (gJ Cv (K Φ none 56 F) (kF I (2*(s.length-i)+2) (nk F [.cn (.r .h) 1,.t (.l (.l .h))] (fun r M' c'=>WdP F s c r M' c'∧Gr c M c' M')))):=by
  intro i M1 c1 w text sm u hi hw ht hW hr;have:=L1 i M1 c1 w text sm u hi hw ht hW hr;rw[EG,Gx,AE,EG]at this;exact this
 refine wL I ?_ (2*(s.length-0)+2) _ _ ?_
 ·intro n l st hIs;obtain⟨i,M1,c1,w,text,sm,u,hi,rfl,hw,ht,hW,hr,hcs⟩:=(hI _ _ _).1 hIs;clear hIs;rcases hcs with⟨rfl,rfl⟩|⟨rfl,rfl,hlt,h39⟩|⟨rfl,rfl,hst⟩
  ·exact⟨_,rfl,L1 i M1 c1 w text sm u hi hw ht hW hr⟩
  ·refine⟨_,rfl,?_⟩;refine bC6 Φ h76 h77 ok hlt hs (by omega) (by omega) h39 hW u _ ?_ ?_
   ·intro u M' c' k hst hj hW';rw[kG];refine⟨2*(s.length-(i+(k+2)))+2,by omega,(hI _ _ _).2 ⟨i+(k+2),M',c',w,_,true,_,hj,rfl,by omega,?_,hW',?_,.inl ⟨rfl,rfl⟩⟩⟩
    ·rw[aG,List.length_take];omega
    ·rw[hr,p9 hst,List.drop_drop]
   ·intro hst u M' c' g h6 hm;rw[dR];exact BAD _ M' c' (hr.trans (FT hst)) g h6 hm
  ·refine⟨_,rfl,?_⟩;refine bC4 Φ h74 ok hi hs (by omega) (by omega) hst hW u _ ?_;intro u M' c' v p g h6 hm hA;rw[dR];exact FIN _ M' c' v p i _ hi (hr.trans (u4 hst)) g h6 hm hA
 ·simp only[WX,Nat.reduceAdd,Nat.reduceLeDiff,aJ6,aJ7,aJ8,UH,UI,UJ];have g:=((((((Gr.refl ok).set c (af 9 [sV s]) (aj _) (ay _) (aH _)).set (c+1) (af 36 [V.l0]) (by omega) (show c+1<c+2 by omega) (by omega)).set (c+2) (af 34 [V.l0]) (by omega) (show c+2<c+3 by omega) (by omega)).set (c+3) (af 96 [V.l0]) (by omega) (show c+3<c+4 by omega) (by omega)).set (c+4) (af 4 [V.b false]) (by omega) (show c+4<c+5 by omega) (by omega)).set (c+5) (af 3 [V.i IntKind.i64 0]) (by omega) (show c+5<c+6 by omega) (by omega);have hW0:WS M c s ((((((M.set c (af 9 [sV s])).set (c+1) (af 36 [V.l0])).set (c+2) (af 34 [V.l0])).set (c+3) (af 96 [V.l0])).set (c+4) (af 4 [V.b false])).set (c+5) (af 3 [V.i IntKind.i64 0])) (c+6) [] [] false 0:=by
   refine⟨.l0,.l0,0,0,g,aj _,?_,?_,?_,?_,?_,am _ _ _,bm.nil,bm.nil⟩
   ·rw[ak _ _ (by omega),ak _ _ (by omega),ak _ _ (by omega),ak _ _ (by omega),ak _ _ (by omega)];exact am _ _ _
   ·rw[ak _ _ (by omega),ak _ _ (by omega),ak _ _ (by omega),ak _ _ (by omega)];exact am _ _ _
   ·rw[ak _ _ (by omega),ak _ _ (by omega),ak _ _ (by omega)];exact am _ _ _
   ·rw[ak _ _ (by omega),ak _ _ (by omega)];exact am _ _ _
   ·rw[ak _ _ (by omega)];exact am _ _ _
  exact L2 0 _ (c+6) [] [] false (X1 (G2 (X1 (G4 (X1 (G1 (bD (bK (bB (X4 (X1 []))))))))))) (ax _) (ax _) (ax _) hW0 (by rw[List.drop_zero])
abbrev Tk:=Nat×List UInt8×List Pc
def AR:Nat→List UInt8→Nat→List Tk
 |0,_,_=>[]
 |_+1,[],_=>[]
 |f+1,x::t,i=>
  if x=32 then AR f t (i+1)
  else if cL (x::t)≠[]then(i,cL (x::t),[])::AR f ((x::t).drop (cL (x::t)).length) (i+(cL (x::t)).length)
  else match iP (x::t) [] [] false 0 with
   |none=>[]
   |some (ps,n)=>if n=0 then[]else(i,[],ps)::AR f ((x::t).drop n) (i+n)
theorem jb{l:List UInt8}(h:l≠[]):0<l.length:=by cases l with|nil=>exact absurd rfl h|cons a l=>simp
theorem jO:∀(f g:Nat) (r:List UInt8) (i:Nat),r.length<f→r.length<g→AR f r i=AR g r i
 |0,_,_,_,h,_=>by omega
 |_,0,_,_,_,h=>by omega
 |f+1,g+1,[],_,_,_=>rfl
 |f+1,g+1,x::t,i,h1,h2=>by
  rw[av]at h1 h2;unfold AR;split
  ·exact jO f g t _ (by omega) (by omega)
  ·split
   ·rename_i hs;have:=jb hs;rw[jO f g _ _ (by rw[bC,av];omega) (by rw[bC,av];omega)]
   ·split
    ·rfl
    ·split
     ·rfl
     ·rename_i hn;rw[jO f g _ _ (by rw[bC,av];omega) (by rw[bC,av];omega)]
def tk(r:List UInt8)(i:Nat):List Tk:=AR (r.length+1) r i
theorem aF3{t:List UInt8}(i:Nat):tk (32::t) i=tk t (i+1):=by
 unfold tk;rw[AR,ac rfl]
 exact jO _ _ _ _ (by rw[av];omega) (by omega)
theorem Ei{x:UInt8}{t:List UInt8}(i:Nat)(hx:x≠32)(hs:cL (x::t)≠[]):tk (x::t) i=(i,cL (x::t),[])::tk ((x::t).drop (cL (x::t)).length) (i+(cL (x::t)).length):=by
 have:=jb hs
 unfold tk;rw[AR,ab hx,ac hs,jO _ _ _ _ ?_ (ay _)]
 rw[bC,av];omega
theorem aF4{x:UInt8}{t:List UInt8}{ps:List Pc}{n:Nat}(i:Nat)(hx:x≠32)(hs:cL (x::t)=[])(hr:iP (x::t) [] [] false 0=some (ps,n))(hn:n≠0):tk (x::t) i=(i,[],ps)::tk ((x::t).drop n) (i+n):=by
 unfold tk;rw[AR,ab hx,ab (fun h=>h hs),hr]
 dsimp only
 rw[ab hn,jO _ _ _ _ ?_ (ay _)]
 rw[bC,av];omega
theorem TA{x:UInt8}{t:List UInt8}(i:Nat)(hx:x≠32)(hs:cL (x::t)=[])(hr:∀ps n,iP (x::t) [] [] false 0=some (ps,n)→n=0):tk (x::t) i=[]:=by
 unfold tk;rw[AR,ab hx,ab (fun h=>h hs)]
 split
 ·rfl
 ·rename_i ps n h;rw[ac (hr ps n h)]
def uq:Nat→List UInt8→Bool
 |0,_=>true
 |_+1,[]=>true
 |f+1,x::t=>
  if x=32 then uq f t
  else if cL (x::t)≠[]then uq f ((x::t).drop (cL (x::t)).length)
  else match iP (x::t) [] [] false 0 with
   |none=>false
   |some (_,n)=>if n=0 then false else uq f ((x::t).drop n)
theorem iz:∀(f g:Nat) (r:List UInt8),r.length<f→r.length<g→uq f r=uq g r
 |0,_,_,h,_=>by omega
 |_,0,_,_,h=>by omega
 |f+1,g+1,[],_,_=>rfl
 |f+1,g+1,x::t,h1,h2=>by
  rw[av]at h1 h2;unfold uq;split
  ·exact iz f g t (by omega) (by omega)
  ·split
   ·rename_i hs;have:=jb hs;rw[iz f g _ (by rw[bC,av];omega) (by rw[bC,av];omega)]
   ·split
    ·rfl
    ·split
     ·rfl
     ·rename_i hn;rw[iz f g _ (by rw[bC,av];omega) (by rw[bC,av];omega)]
def rS(r:List UInt8):Bool:=uq (r.length+1) r
theorem Tx{t:List UInt8}:rS (32::t)=rS t:=by
 unfold rS;rw[uq,ac rfl]
 exact iz _ _ _ (by rw[av];omega) (by omega)
theorem yN{x:UInt8}{t:List UInt8}(hx:x≠32)(hs:cL (x::t)≠[]):rS (x::t)=rS ((x::t).drop (cL (x::t)).length):=by
 have:=jb hs
 unfold rS;rw[uq,ab hx,ac hs,iz _ _ _ ?_ (ay _)]
 rw[bC,av];omega
theorem Tz{x:UInt8}{t:List UInt8}{ps:List Pc}{n:Nat}(hx:x≠32)(hs:cL (x::t)=[])(hr:iP (x::t) [] [] false 0=some (ps,n))(hn:n≠0):rS (x::t)=rS ((x::t).drop n):=by
 unfold rS;rw[uq,ab hx,ab (fun h=>h hs),hr]
 dsimp only
 rw[ab hn,iz _ _ _ ?_ (ay _)]
 rw[bC,av];omega
theorem Gk{x:UInt8}{t:List UInt8}(hx:x≠32)(hs:cL (x::t)=[])(hr:∀ps n,iP (x::t) [] [] false 0=some (ps,n)→n=0):rS (x::t)=false:=by
 unfold rS;rw[uq,ab hx,ab (fun h=>h hs)]
 split
 ·rfl
 ·rename_i ps n h;rw[ac (hr ps n h)]
theorem uc(l:List UInt8):(cL l).length≤l.length:=by
 match l with
 |[]=>exact aj _
 |[a]=>rw[G7];split<;>simp
 |a::b::r=>rw[pl];split
           ·simp
           ·split<;>simp
theorem sw:∀(f:Nat) (r:List UInt8) (i:Nat),(AR f r i).length≤r.length
 |0,_,_=>ax _
 |_+1,[],_=>aj _
 |f+1,x::t,i=>by
  unfold AR;split
  ·have:=sw f t (i+1);rw[av];omega
  ·split
   ·rename_i hs;have:=jb hs;have:=sw f ((x::t).drop (cL (x::t)).length) (i+(cL (x::t)).length);rw[bC]at this;have:=uc (x::t);simp only[av]at *;omega
   ·split
    ·exact ax _
    ·split
     ·exact ax _
     ·rename_i ps n h hn;have:=sw f ((x::t).drop n) (i+n);rw[bC]at this;simp only[av]at *;omega
theorem aY4(r:List UInt8)(i:Nat):(tk r i).length≤r.length:=sw _ _ _
abbrev bG3(u:List (Option V))(x0 x1 x5:V):T:=(.n (.n (.n (aq u 31 15 47 7 39 23 55) (uO u 3) (aq u 35 19 51 11 43 27 59)) (some x1) (.n (aq u 33 17 49 9 41 25 57) (some x5) (aq u 37 21 53 13 45 29 61))) (some x0) (.n (.n (aq u 32 16 48 8 40 24 56) (uO u 4) (aq u 36 20 52 12 44 28 60)) (uO u 2) (.n (aq u 34 18 50 10 42 26 58) (uO u 6) (aq u 38 22 54 14 46 30 62))))
def ZN:CC:=(.reg [(qq a4 (.mv xF))])
def ZO:CC:=(.reg [(qq a5 (.mv (x6 0)))])
def ZP:CC:=(.reg [(qq a8 (.mv z5)),(qq a9 (.mv z0)),(qq dT (.ln .str z9)),(qq eP (.bi .lss z8 ft))])
def ZQ:CC:=(.reg [(qq fg (.mv z0)),(qq eQ (.mv z5)),(qq fh (.ixS eN ed)),(qq dM (.bi .eql gb (.c (.i .u8 32))))])
def ZR:CC:=(.reg [(qq fu (.mv z5)),(qq gL (.bi .add iA (x6 1))),(qq a5 (.mv iB))])
def ZS:CC:=(.cond gK (.seq ZR (.exit 1)) .skip)
def ZT:CC:=(.reg [(qq fy (.mv z0)),(qq jr (.mv z5)),(qq gH (.slS iC (some l8) none)),(ee fY (.call 55 [la])),(qq jt (.bld [(.s 0 0),.l0] [(0,1,kL)])),(aa a6 (.al 59 [(.s 0 0),.l0])),(ez (.st 2 z6 lA)),(qq a7 (.mv (x6 0)))])
def ZU:CC:=(.reg [(qq gU (.fa 0 z6)),(qq jX (.ld1 lg)),(qq gv (.ln .str kM)),(qq a7 (.mv lB))])
def ZV:CC:=(.reg [(qq kd (.mv z7)),(qq gV (.bi .eql nl (x6 0)))])
def MC:CC:=(.reg [(qq ip (.mv z0)),(qq ke (.mv z5)),(qq lj (.slS ot (some oz) none)),(ee np (.call 56 [pq])),(qq lE (.mv pz)),(qq nM (.ex 0 nK)),(qq jY (.ex 1 nK)),(qq jZ (.fa 1 z6)),(ez (.st 1 rx ru)),(qq a7 (.mv rv))])
def MD:CC:=(.seq ZV (.cond nn MC .skip))
def ME:CC:=(.reg [(qq nN (.mv z7)),(qq k8 (.bi .eql sC (x6 0))),(qq nq (.mv qF)),(aA mN (.mv z1) nq),(aA pC (.mv z5) nq),(aA js (.ldn 2 z6) nq),(lV lF (.cv rV [sD,ry]) nq),(aA pD (.un .not sE) nq),(qq ng (.pk rU xT sF))])
def MF:CC:=(.reg [(qq a4 (.mv xF))])
def MG:CC:=(.cond rW (.seq MF .ret) .skip)
def MH:CC:=(.reg [(qq pE (.mv z5)),(qq lG (.mv z7)),(qq pF (.bi .add rX vm)),(qq a5 (.mv sG))])
def MI:CC:=(.seq (.seq ZU MD) (.seq (.seq ME MG) MH))
def MJ:CC:=(.seq (.seq ZP (.cond dL .skip (.exit 0))) (.block 1 (.seq (.seq ZQ ZS) (.seq ZT MI))))
def MK:CC:=(.reg [(qq a4 (.mv xT))])
def ML:CC:=(.seq ZO (.seq (.block 0 (.loop MJ)) (.seq MK .ret)))
def c28:CF:= .mk 6 [.t a4] (.seq ZN ML)
theorem e28(v0 v1:V):bz 6 [v0,v1]=(.n (.n ow (some v1) ow) (some v0) qw):=rfl
def IP:=ai @e28 (ai (wu ZN.eq_1) (ai (wu ZO.eq_1) (ai (wu ZP.eq_1) (ai (wu ZQ.eq_1) (ai (wu ZR.eq_1) (ai (wu ZS.eq_1) (ai (wu ZT.eq_1) (ai (wu ZU.eq_1) (ai (wu ZV.eq_1) (ai (wu MC.eq_1) (ai (wu MD.eq_1) (ai (wu ME.eq_1) (ai (wu MF.eq_1) (ai (wu MG.eq_1) (ai (wu MH.eq_1) (ai (wu MI.eq_1) (ai (wu MJ.eq_1) (ai (wu MK.eq_1) (wu ML.eq_1)))))))))))))))))))
theorem ce3(Φ:Nat→Option CF)(h:Φ 28=some c28)(h56:Φ 56=some c56)(h55:Φ 55=some (.orc (aO h55)))(h73:Φ 73=some (.orc (aO h73)))(h75:Φ 75=some (.orc (aO h75)))(h76:Φ 76=some (.orc (aO h88)))(h77:Φ 77=some (.orc (aO h77)))(h74:Φ 74=some W6){F:RO}{M:Mem}{c:Nat}{yv:V}{s:List UInt8}(hs:s.length≤400000){I:Nat→Mem→Nat→Prop}{J:Mem→Nat→Prop}(h0:I 0 M c)
 (hOk:∀k M1 c1,I k M1 c1→cK F M1 c1∧c≤c1) (hGr:∀k M1 c1 M2 c2,I k M1 c1→Gr c1 M1 c2 M2→I k M2 c2)
 (hY:∀k M1 c1 pv b,(hk:k<(tk s 0).length)→I k M1 c1→bO pv=true→bm M1 c c1 b 64 2 pv (jm (tk s 0)[k].2.2)→lw (oI (K Φ none 28 F) yv [.i .i64 ((tk s 0)[k].1:Int),.g [sV (tk s 0)[k].2.1,pv]] M1 c1) fun r M' c'=>(r= .b true∧I (k+1) M' c')∨(r= .b false∧J M' c')):
 Calls Φ F 28 [sV s,yv] M c fun r M' c'=>(r= .b (rS s)∧I (tk s 0).length M' c')∨(r= .b false∧J M' c'):=by
 refine aN h ?_
 simp only[WX,IP]
 obtain⟨Iv,hIv⟩:∃Iv:Nat→St→Prop,∀n s',Iv n s'↔(∃(i k:Nat) (M1:Mem) (c1:Nat) (u:List (Option V)),n=s.length-i∧i≤s.length∧k≤(tk s 0).length∧s'= .mk ((bG3 u (sV s) yv (.i .i64 (i:Int)))) [] M1 c1∧tk (s.drop i) i=(tk s 0).drop k∧I k M1 c1∧rS s=rS (s.drop i)):=⟨fun n s'=>_,fun _ _=>Iff.rfl⟩
 refine bw Iv ?_ s.length _ ((hIv _ _).2 ⟨0,0,_,_,(G2 (X2 (X1 (G1 (bK (bB (X8 (X1 [])))))))),rfl,ax _,ax _,rfl,rfl,h0,rfl⟩)
 intro n s' hIs
 obtain⟨i,k,M1,c1,u,rfl,hi,hk,rfl,hpre,hik,hto⟩:=(hIv _ _).1 hIs
 clear hIs
 obtain⟨ok1,hc1⟩:=hOk _ _ _ hik
 have hF:∀w,flatten (sV w)=[sV w]:=fun _=>rfl
 have hO:∀w,bO (sV w)=true:=fun _=>rfl
 have FIN:tk (s.drop i) i=[]→k=(tk s 0).length:=by
  intro ht;rw[ht]at hpre;have:=List.drop_eq_nil_iff.1 hpre.symm;omega
 by_cases hlt:i<s.length
 ·have d1:decide ((i:Int)<(s.length:Int))=true:=ah (by omega);have hix:rK (sV s) (.i .i64 (i:Int))=some (.i .u8 ((s[i]).toNat:Int)):=ye s .i64 i hlt;have hdr:s.drop i=s[i]::s.drop (i+1):=bX hlt;have hsl:yH (sV s) (some (.i .i64 (i:Int))) none=some (sV (s[i]::s.drop (i+1))):=by rw[←hdr];exact Ta s .i64 i hi
  have hsg:=RD (s[i]::s.drop (i+1));rw[T3]at hsg;have hxn:∀k:UInt8,decide (((s[i]).toNat:Int)=(k.toNat:Int))=decide (s[i]=k):=fun k=>by congr 1;exact propext ⟨fun e=>UInt8.toNat_inj.1 (by omega),fun e=>by rw[e]⟩
  have x32:=hxn 32;simp only[UInt8.reduceToNat,Int.cast_ofNat_Int]at x32;clear hxn;by_cases h32:s[i]=32
  ·rw[ah h32]at x32;have q1:cz .add (.i .i64 (i:Int)) (.i .i64 1)=some (.i .i64 ((i+1:Nat):Int)):=by rw[aX _ _ (by omega) (by omega)];simp
   simp only[WX,reduceCtorEq,IP,d1,hix,x32,q1];exact⟨s.length-(i+1),by omega,(hIv _ _).2 ⟨i+1,k,M1,c1,(G2 (X2 (X1 (G1 (bK (bB (X8 (X1 [])))))))),rfl,hlt,hk,rfl,by rw[←hpre,hdr,h32,aF3],hik,by rw[hto,hdr,h32,Tx]⟩⟩
  ·rw[ag h32]at x32;have fS:=hF;have a2:∀w v,bO v=true→aL [sV w,v]=true:=fun w v hv=>by rw[aw,aw,bZ,hv];rfl
   by_cases hsn:cL (s[i]::s.drop (i+1))=[]
   ·rw[hsn]at hsg;have d0:decide (((([]:List UInt8).length:Nat):Int)=0)=true:=rfl;have e0:sV []=V.s 0 0:=rfl;simp only[WX,Nat.reduceAdd,Nat.reduceLeDiff,IP,d1,hix,x32,hsl,h55,hsg,hF,hO,Int.ofNat_zero];have gX:=(Gr.refl ok1).set c1 (af 59 [sV [],V.l0]) (aj _) (ay _) (aH _);have okX:=gX.ok ok1;refine aD ((r56 Φ h56 h55 h73 h75 h76 h77 h74 okX (s[i]::s.drop (i+1)) (by rw[←hdr,bC];omega)).mono ?_);rintro r M2 c2 ⟨hwd,g2⟩;have hG:∀v,flatten (V.g [v])=[v]:=fun _=>rfl;have m1:=(g2.old c1 (by omega)).trans (am M1 c1 (af 59 [sV [],V.l0]));have hle2:=g2.le;rcases hwd with⟨ps,n,v2,hrd,hn,rfl,b2,hA2⟩|⟨hrd,rfl⟩
    ·obtain⟨w1,w2,w3⟩:=kf hA2;have st1:=aJ m1 1 [v2] (by simp) w3;have gF:Gr c1 M1 c2 (M2.set c1 (af 59 (over [sV [],V.l0] 1 [v2]))):=(gX.trans g2).set c1 _ (aj _) (by omega) (aj _);have ldx:=aY (F:=F) (am M2 c1 (af 59 [sV [],v2])) 2 rfl;have hov:over [sV [],V.l0] 1 [v2]=[sV [],v2]:=rfl;rw[hov]at st1 gF;by_cases hn0:n=0
     ·have dn:decide ((n:Int)=0)=true:=ah (by omega);simp only[WX,IP,hG,st1,dn];exact .inl ⟨by rw[hto,hdr,Gk h32 hsn (fun ps' n' e=>by rw[hrd]at e;injection e with e;injection e with e1 e2;omega)],FIN (by rw[hdr];exact TA i h32 hsn (fun ps' n' e=>by rw[hrd]at e;injection e with e;injection e with e1 e2;omega))▸hGr _ _ _ _ _ hik gF⟩
     ·have dn:decide ((n:Int)=0)=false:=ag (by omega);obtain⟨j,hj⟩:∃j,j=i+n:=⟨_,rfl⟩
      have hjl:j≤s.length:=by rw[←hdr,bC]at hn;omega
      have q2:cz .add (.i .i64 (i:Int)) (.i .i64 (n:Int))=some (.i .i64 (j:Int)):=by rw[aX _ _ (by omega) (by omega),hj];simp
      have ht:=aF4 i h32 hsn hrd hn0;rw[←hdr,hpre,List.drop_drop,←hj]at ht;have hklt:k<(tk s 0).length:=by
       by_cases hh:k<(tk s 0).length
       ·exact hh
       ·rw[List.drop_eq_nil_of_le (by omega)]at ht;cases ht
      rw[bX hklt]at ht;injection ht with g1 g2'
      have hy:=hY k _ c2 v2 b2 hklt (hGr _ _ _ _ _ hik gF) w1 (by rw[g1];exact EX (lH hA2 (by omega)) (by omega));rw[g1]at hy;simp only[WX,IP,hG,st1,dn,ldx];refine aD (hy.mono ?_);rintro b M3 c3 (⟨rfl,hi3⟩|⟨rfl,hj3⟩)
      ·simp only[WX,IP,q2];exact⟨s.length-j,by omega,(hIv _ _).2 ⟨j,k+1,M3,c3,(G2 (X2 (X1 (G1 (bK (bB (X8 (X1 [])))))))),rfl,hjl,hklt,rfl,g2'.symm,hi3,by rw[hto,hdr,Tz h32 hsn hrd hn0,hj,←hdr,List.drop_drop]⟩⟩
      ·simp only[WX,IP];exact .inr hj3
    ·have st1:=aJ m1 1 [V.l0] (by simp) rfl;have gF:Gr c1 M1 c2 (M2.set c1 (af 59 (over [sV [],V.l0] 1 [V.l0]))):=(gX.trans g2).set c1 _ (aj _) (by omega) (aj _);have dn:decide ((0:Int)=0)=true:=rfl;simp only[WX,Nat.reduceAdd,IP,hG,st1];exact .inl ⟨by rw[hto,hdr,Gk h32 hsn (fun ps' n' e=>by rw[hrd]at e;cases e)],FIN (by rw[hdr];exact TA i h32 hsn (fun ps' n' e=>by rw[hrd]at e;cases e))▸hGr _ _ _ _ _ hik gF⟩
   ·have dg:decide (((cL (s[i]::s.drop (i+1))).length:Int)=0)=false:=ag (by have:=jb hsn;omega);simp only[WX,Nat.reduceAdd,Nat.reduceLeDiff,IP,d1,hix,x32,hsl,h55,hsg,hF,hO,dg];have gX:=(Gr.refl ok1).set c1 (af 59 [sV (cL (s[i]::s.drop (i+1))),V.l0]) (aj _) (ay _) (aH _);obtain⟨j,hj⟩:∃j,j=i+(cL (s[i]::s.drop (i+1))).length:=⟨_,rfl⟩
    have hgl:=uc (s[i]::s.drop (i+1));have hgp:=jb hsn;have hjl:j≤s.length:=by rw[←hdr,bC,hdr]at hgl;omega
    have q2:cz .add (.i .i64 (i:Int)) (.i .i64 ((cL (s[i]::s.drop (i+1))).length:Int))=some (.i .i64 (j:Int)):=by rw[aX _ _ (by omega) (by omega),hj];simp
    have ht:=Ei i h32 hsn;rw[←hj,show(s[i]::s.drop (i+1)).drop (cL (s[i]::s.drop (i+1))).length=s.drop j from by rw[hj,←hdr,List.drop_drop]]at ht;have ht2:=hpre;rw[hdr,ht]at ht2;have hklt:k<(tk s 0).length:=by
     by_cases hh:k<(tk s 0).length
     ·exact hh
     ·rw[show(tk s 0).drop k=[]from List.drop_eq_nil_of_le (by omega)]at ht2;cases ht2
    rw[bX hklt]at ht2;injection ht2 with g1 g2'
    have hy:=hY k _ (c1+1) .l0 0 hklt (hGr _ _ _ _ _ hik gX) rfl (by rw[←g1];exact bm.nil);rw[←g1]at hy;refine aD (hy.mono ?_);rintro b M3 c3 (⟨rfl,hi3⟩|⟨rfl,hj3⟩)
    ·simp only[WX,IP,q2];exact⟨s.length-j,by omega,(hIv _ _).2 ⟨j,k+1,M3,c3,(G2 (X2 (X1 (G1 (bK (bB (X8 (X1 [])))))))),rfl,hjl,hklt,rfl,g2',hi3,by rw[hto,hdr,yN h32 hsn,hj,←hdr,List.drop_drop]⟩⟩
    ·simp only[WX,IP];exact .inr hj3
 ·obtain rfl:i=s.length:=by omega
  have d1:decide ((s.length:Int)<(s.length:Int))=false:=ag (by omega);simp only[WX,IP,d1];exact .inl ⟨by rw[hto,cm];rfl,FIN (by rw[cm];rfl)▸hik⟩
abbrev bG4(u:List (Option V))(x2 x3 x5:V):T:=(.n (.n (.n (fq u 15 7 23) (some x3) (fq u 19 11 27)) (uO u 1) (.n (fq u 17 9 25) (some x5) (fq u 21 13 29))) (uO u 0) (.n (aq u 16 8 24 4 20 12 28) (some x2) (aq u 18 10 26 6 22 14 30)))
def ZE:CC:=(.reg [(aa a2 (.bx 36 1 z0)),(aa a3 (.bx 36 1 z1)),(qq a4 (.mv xF))])
def ZF:CC:=(.reg [(qq a6 (.fa 0 z2)),(qq a7 (.ld1 z6)),(qq a8 (.ln .slice z7)),(qq a9 (.fa 0 z3)),(qq dT (.ld1 z9)),(qq eP (.ln .slice ft)),(qq fg (.bi .neq z8 dL))])
def ZG:CC:=(.reg [(qq a4 (.mv xF))])
def ZH:CC:=(.seq ZF (.cond eN (.seq ZG .ret) .skip))
def ZI:CC:=(.reg [(qq a5 (.mv (x6 0)))])
def ZJ:CC:=(.reg [(qq eQ (.mv z5)),(qq fh (.fa 0 z2)),(qq dM (.ld1 gb)),(qq fu (.ln .slice gK)),(qq gL (.bi .lss ed iA))])
def ZK:CC:=(.seq ZJ (.cond iB .skip (.exit 0)))
def ZL:CC:=(.dreg 11 [(0,0,(qq gH (.fa 0 z2))),(1,1,(qq fY (.ld1 la))),(2,0,(qq jt (.mv z5))),(3,7,(qq gU (.iaS 2 kL lA))),(4,15,(qq jX (.ldn 2 lg))),(5,0,(qq gv (.fa 0 z3))),(6,32,(qq kd (.ld1 lB))),(7,0,(qq gV (.mv z5))),(8,224,(qq lE (.iaS 2 nl nn))),(9,480,(qq ip (.ldn 2 nK))),(10,1023,(qq ke (.eq true (.agg [(0,.str),(1,.bool)]) false kM ot)))])
def ZM:CC:=(.reg [(qq a4 (.mv xF))])
def Mx:CC:=(.seq ZL (.cond oz (.seq ZM .ret) .skip))
def My:CC:=(.reg [(qq fy (.mv z5)),(qq jr (.bi .add iC (x6 1))),(qq a5 (.mv l8))])
def Mz:CC:=(.block 0 (.loop (.seq ZK (.seq (.block 1 Mx) My))))
def MA:CC:=(.reg [(qq a4 (.mv xT))])
def MB:CC:=(.seq ZE (.seq ZH (.seq (.seq ZI Mz) (.seq MA .ret))))
def c22:CF:= .mk 5 [.t a4] MB
theorem e22(v0 v1:V):bz 5 [v0,v1]=(.n (.n jp (some v1) jp) (some v0) ow):=rfl
def B22:=ai @e22 (ai (wu ZE.eq_1) (ai (wu ZF.eq_1) (ai (wu ZG.eq_1) (ai (wu ZH.eq_1) (ai (wu ZI.eq_1) (ai (wu ZJ.eq_1) (ai (wu ZK.eq_1) (ai (wu ZL.eq_1) (ai (wu ZM.eq_1) (ai (wu Mx.eq_1) (ai (wu My.eq_1) (ai (wu Mz.eq_1) (ai (wu MA.eq_1) (wu MB.eq_1))))))))))))))
theorem wj{F:RO}{M:Mem}{c:Nat}{v:V}{ps:List Pc}(h:cA F M c 2 v (jm ps))(i:Nat)(hi:i<ps.length):∃b o,b<c∧(∀k,fF 2 v (.i k (i:Int))=some (.p b o))∧loadN F M b o 2=some (ve ps[i]):=by
 obtain⟨b,o,h1,h2,h3⟩:=h.at i (by rw[dv];exact hi)
 have e:(jm ps)[i]'(by rw[dv];exact hi)=ve ps[i]:=by simp[jm]
 rw[e]at h3
 exact⟨b,o,h1,h2,h3.load (by simp[ve])⟩
def ar7:CC:=(.reg [(qq a2 (.mv z0)),(qq a3 (.nck z2)),(qq a4 (.fa 0 z3)),(qq a5 (.ld1 z4)),(qq a6 (.eq false .ptr true z5 (.c .p0)))])
def ar8:CC:=(.reg [(qq a7 (.mv z0)),(qq a8 (.mv z0)),(qq a9 (.up z8)),(qq dT (.mv z9)),(qq eP (.dn 99 2 ft)),(qq fg (.nck z7)),(qq eQ (.fa 0 eN)),(ez (.st 1 ed dL))])
def ar9:CC:=(.reg [(qq fh (.mv z0)),(qq dM (.nck gb)),(qq fu (.fa 0 gK)),(qq gL (.ld1 iA)),(qq fy (.mv z0)),(qq jr (.eq true .ptr false iB iC))])
def as0:CC:=(.cond z6 ar8 (.seq ar9 (.cond l8 .bad .skip)))
def xN:CF:= .mk 5 [] (.seq ar7 as0)
theorem e71(v0:V):bz 5 [v0]=(.n ow (some v0) ow):=rfl
def B71:=ai @e71 (ai (wu ar7.eq_1) (ai (wu ar8.eq_1) (ai (wu ar9.eq_1) (wu as0.eq_1))))
def ax5:CC:=(.dreg 16 [(0,0,(qq a5 (.mv z0))),(1,1,(qq a6 (.nck z5))),(2,3,(qq a7 (.fa 1 z6))),(3,7,(qq a8 (.ld1 z7))),(4,15,(qq a9 (.cp z8))),(5,31,(qq dT (.bi .mul (x6 2) z9))),(6,0,(qq eP (.mv z1))),(7,127,(qq fg (.bi .add ft dL))),(8,255,(aa eQ (.nz 5 eN))),(9,0,(qq fh (.mv z0))),(10,512,(qq dM (.nck gb))),(11,1536,(qq fu (.fa 1 gK))),(12,3584,(qq gL (.ld1 iA))),(13,7680,(qq fy (.ln .slice iB))),(14,16383,(qq jr (.slL 1 ed none (some iC) none))),(15,32767,(qq a4 (.mv l8)))])
def ax6:CC:=(.reg [(qq gH (.mv z4)),(qq fY (.mv z0)),(qq jt (.nck kL)),(qq gU (.fa 1 lA)),(qq jX (.ld1 lg)),(ee gv (.cpy 1 la kM))])
def ax7:CC:=(.reg [(qq kd (.mv z0)),(qq gV (.mv z4)),(qq lE (.nck nl)),(qq ip (.fa 1 nK)),(ez (.st 1 ot nn))])
def QU:CF:= .mk 5 [] (.seq ax5 (.seq ax6 ax7))
theorem e89(v0 v1:V):bz 5 [v0,v1]=(.n (.n jp (some v1) jp) (some v0) ow):=rfl
def B89:=ai @e89 (ai (wu ax5.eq_1) (ai (wu ax6.eq_1) (wu ax7.eq_1)))
def au4:CC:=(.reg [(qq a4 (.mv z0)),(ee a5 (.call 71 [z4]))])
def au5:CC:=(.reg [(qq a6 (.mv z1)),(qq a7 (.bi .lss z6 (x6 0)))])
def au6:CC:=(.reg [(qq a8 (.mki 9 (.c (.s 36 226187813140227768008177986391742176399534891738691412630441701833056540972817830802547)))),⟨none,.q (.bad),none⟩])
def au7:CC:=(.dreg 13 [(0,0,(qq a9 (.mv z0))),(1,1,(qq dT (.nck z9))),(2,3,(qq eP (.fa 1 ft))),(3,7,(qq fg (.ld1 dL))),(4,15,(qq eQ (.cp eN))),(5,0,(qq fh (.mv z0))),(6,32,(qq dM (.nck gb))),(7,96,(qq fu (.fa 1 gK))),(8,224,(qq gL (.ld1 iA))),(9,480,(qq fy (.ln .slice iB))),(10,1023,(qq jr (.bi .sub ed iC))),(11,0,(qq gH (.mv z1))),(12,4095,(qq fY (.bi .lss l8 la)))])
def au8:CC:=(.reg [(qq jt (.mv z0)),(qq gU (.mv z1)),(ee jX (.call 89 [lA,lg]))])
def au9:CC:=(.seq au7 (.cond kL au8 .skip))
def av0:CC:=(.seq (.seq au5 (.cond z7 au6 .skip)) au9)
def Vo:CF:= .mk 5 [] (.seq au4 av0)
theorem e79(v0 v1:V):bz 5 [v0,v1]=(.n (.n jp (some v1) jp) (some v0) ow):=rfl
def B79:=ai @e79 (ai (wu au4.eq_1) (ai (wu au5.eq_1) (ai (wu au6.eq_1) (ai (wu au7.eq_1) (ai (wu au8.eq_1) (ai (wu au9.eq_1) (wu av0.eq_1)))))))
def ah8:CC:=(.reg [(qq a4 (.mv (x6 0))),(qq a5 (.mv (.c .a0)))])
def ah9:CC:=(.reg [(qq a6 (.mv z0)),(ee a7 (.call 71 [z6]))])
def ai0:CC:=(.reg [(qq a8 (.mv z0)),(qq a9 (.mv z0)),(qq dT (.nck z9)),(qq eP (.fa 1 ft)),(qq fg (.ld1 dL)),(qq eQ (.mv z1)),(ee fh (.app 5 1 1 eN ed)),(qq dM (.nck z8)),(qq fu (.fa 1 gK)),(ez (.st 1 iA gb))])
def ai1:CC:=(.reg [(qq gL (.mv z1)),(qq fy (.ln .str iB)),(qq a4 (.mv iC)),(qq a5 (.mv (.c .a0)))])
def zL:CF:= .mk 5 [.t a4,.t a5] (.seq ah8 (.seq ah9 (.seq ai0 (.seq ai1 .ret))))
theorem e52(v0 v1:V):bz 5 [v0,v1]=(.n (.n jp (some v1) jp) (some v0) ow):=rfl
def B52:=ai @e52 (ai (wu ah8.eq_1) (ai (wu ah9.eq_1) (ai (wu ai0.eq_1) (wu ai1.eq_1))))
def ai2:CC:=(.dreg 12 [(0,0,(qq a3 (.mv z0))),(1,1,(qq a4 (.nck z3))),(2,3,(qq a5 (.fa 1 z4))),(3,7,(qq a6 (.ld1 z5))),(4,15,(qq a7 (.sd z6))),(5,0,(qq a8 (.mv z0))),(6,32,(qq a9 (.nck z8))),(7,96,(qq dT (.fa 1 z9))),(8,224,(qq eP (.ld1 ft))),(9,480,(qq fg (.ln .slice dL))),(10,1023,(ee eQ (.us 5 z7 eN))),(11,2047,(qq a2 (.mv ed)))])
def ai3:CC:=(.seq (.reg [(qq a2 (.mv (.c (.s 0 0))))]) (.seq ai2 .ret))
def zM:CF:= .mk 4 [.t a2] ai3
theorem e54(v0:V):bz 4 [v0]=(.n jp (some v0) jp):=rfl
def B54:=ai @e54 (ai (wu ai2.eq_1) (wu ai3.eq_1))
def kN(M:Mem)(c0 c b bb:Nat)(l:List UInt8):Prop:=
 c0≤b∧b<c∧b≠bb∧ ∃a v,M.get b=some (af 99 [a,v])∧(a= .p0∨a= .p b 0)∧qG M c0 c bb v l
theorem kN.up{M M':Mem}{c0 c c' b bb:Nat}{l:List UInt8}(h:kN M c0 c b bb l)(hc:c≤c')(hb:∀x,x<c→M'.get x=M.get x):kN M' c0 c' b bb l:=by
 obtain⟨h1,h2,h1003,a,v,h1004,h1005,h1006⟩:=h
 exact⟨h1,by omega,h1003,a,v,by rw[hb b h2];exact h1004,h1005,h1006.up hc (hb bb)⟩
theorem aR4{F:RO}(lit:Bool)(M:Mem):zh F M .ptr lit .p0 .p0=some true:=Eq.trans rfl (Eq.refl _)
theorem aR5{F:RO}(lit:Bool)(M:Mem)(b o:Nat):zh F M .ptr lit (.p b o) .p0=some false:=Eq.trans rfl (Eq.refl _)
theorem aR6{F:RO}(lit:Bool)(M:Mem)(b o:Nat):zh F M .ptr lit (.p b o) (.p b o)=some true:=by
 show Ap F M b o b o=_
 unfold Ap
 rw[bR,ah rfl,cond_true,Nat.beq_refl]
theorem F4{M:Mem}{c0 c b:Nat}{v:V}{l:List UInt8}(h:qG M c0 c b v l):bO v=true∧flatten v=[v]∧uK v=some (.i .i64 (l.length:Int)):=by
 rcases h with⟨rfl,rfl⟩|⟨_,_,n,_,rfl,_⟩
 ·exact⟨rfl,rfl,Dv⟩
 ·exact⟨rfl,rfl,S2 _ _ _ _ _⟩
theorem r71(Φ:Nat→Option CF)(h:Φ 71=some xN){F:RO}{M:Mem}{c b:Nat}{a v:V}(hM:M.get b=some (af 99 [a,v]))(ha:a= .p0∨a= .p b 0):
 Calls Φ F 71 [.p b 0] M c fun _ M' c'=>M'=M.set b (af 99 [.p b 0,v])∧c'=c:=by
 refine aN h ?_
 have l0:load1 F M b 0=some a:=au hM 0
 rcases ha with rfl|rfl
 ·have hu:upV F M (.p b 0)=some (.p b 0):=XX hM (by simp);have hd:dnV 99 2 F M (.p b 0)=some (.p b 0):=Wm hM;have hst:=aJ hM 0 [.p b 0] (by simp) rfl;simp only[WX,B71,wJ,jj,l0,aR4,cf9,cf6,hu,hd,hst]
 ·simp only[WX,B71,wJ,jj,l0,aR5,aR6];exact cO hM
theorem r89(Φ:Nat→Option CF)(h:Φ 89=some QU){F:RO}{M:Mem}{c b:Nat}(ok:cK F M c)(hb:b<c)(hM:M.get b=some (af 99 [.p b 0,.l0]))(n:Nat)(hn:n≤1099511627776):
 Calls Φ F 89 [.p b 0,.i .i64 (n:Int)] M c fun _ M' c'=>M'=(M.set (c+8) (qm 5 n [])).set b (af 99 [.p b 0,.u (c+8) 0 0 0 n])∧c'=c+16:=by
 refine aN h ?_
 have l1:load1 F M b 1=some .l0:=au hM 1
 have hlk:(look F M (c+8)).isNone=true:=by rw[ok.look (show c≤c+8 by omega)];rfl
 have hne:b≠c+8:=by omega
 have m2:cz .mul (.i .i64 2) (.i .i64 0)=some (.i .i64 0):=Fj 2 0 (by omega) (by omega)
 have a2:cz .add (.i .i64 0) (.i .i64 (n:Int))=some (.i .i64 (n:Int)):=by rw[aX _ _ (by omega) (by omega)];simp
 have hsl:vh 1 (.u (c+8) 0 n 0 n) none (some (.i .i64 0)) none=some (.u (c+8) 0 0 0 n):=by
  show(nG 1 (c+8) 0 0 n 0 0).val=_;unfold nG;rw[cB,cB,ah (ax n),ah (ax 0)];show(mkU (c+8) 0 0 0 n).val=_;rw[yi];rfl
 have l2:load1 F (M.set (c+8) (qm 5 n [])) b 1=some .l0:=by rw[Ah _ _ _ hne];exact l1
 have hg2:(M.set (c+8) (qm 5 n [])).get b=some (af 99 [.p b 0,.l0]):=by rw[ak _ _ hne];exact hM
 have hst:=aJ hg2 1 [.u (c+8) 0 0 0 n] (by simp) rfl
 simp only[WX,Nat.reduceAdd,B89,pP,jj,wJ,l1,Rf,CX,m2,a2,aM7,uw,mj,bD0,hn,hlk,cF,aU,hne,ne_eq,not_false_eq_true,aQ8,hsl,eW,l2,V8,aP5,hst]
theorem kE{n:Nat}(h:n≤1073741824):mA n 1=true:=fP (by omega) (by omega)
theorem r79(Φ:Nat→Option CF)(h:Φ 79=some Vo)(h71:Φ 71=some xN)(h89:Φ 89=some QU){F:RO}{M0 M:Mem}{c0 c b:Nat}(ok:cK F M c)(hg:Gr c0 M0 c M)(k1:c0≤b)(k2:b<c)(hM:M.get b=some (af 99 [.p0,.l0]))(n:Nat)(hn:n≤1099511627776):
 Calls Φ F 79 [.p b 0,.i .i64 (n:Int)] M c fun _ M' c'=>∃bb',kN M' c0 c' b bb' []∧Gr c0 M0 c' M'∧c≤c'∧(∀x,x<c→x≠b→M'.get x=M.get x):=by
 refine aN h ?_
 simp only[WX,B79]
 refine aD ((r71 Φ h71 hM (.inl rfl)).mono ?_)
 rintro v1 M1 c1 ⟨rfl,rfl⟩
 have hg1:=hg.set b (af 99 [.p b 0,.l0]) k1 k2 (aj _)
 have ok1:=ok.put (y:=af 99 [.p b 0,.l0]) k2 hM
 have g1:(M.set b (af 99 [.p b 0,.l0])).get b=some (af 99 [.p b 0,.l0]):=am _ _ _
 have l1:load1 F (M.set b (af 99 [.p b 0,.l0])) b 1=some .l0:=au g1 1
 have d0:decide ((n:Int)<0)=false:=ag (by omega)
 have s0:cz .sub (.i .i64 0) (.i .i64 0)=some (.i .i64 0):=by rw[xL];rfl
 by_cases hz:n=0
 ·have d1:decide ((0:Int)<(n:Int))=false:=ag (by omega);simp only[WX,B79,d0,pP,jj,l1,Rf,CX,s0,d1];exact⟨c1,⟨k1,by omega,by omega,_,_,g1,.inr rfl,.inl ⟨rfl,rfl⟩⟩,hg1.up (by omega),by omega,fun x hx hxb=>ak _ _ hxb⟩
 ·have d1:decide ((0:Int)<(n:Int))=true:=ah (by omega);simp only[WX,B79,d0,pP,jj,l1,Rf,CX,s0,d1];have ok2:cK F (M.set b (af 99 [.p b 0,.l0])) (c1+13):=⟨fun x hx=>ok1.hiM x (by omega),fun x hx=>ok1.hiF x (by omega),ok1.ap,by have:=ok1.ge;omega⟩
  refine aD ((r89 Φ h89 ok2 (by omega) g1 n hn).mono ?_);rintro v2 M2 c2 ⟨rfl,rfl⟩;simp only[WX,Nat.reduceAdd];refine⟨c1+13+8,⟨k1,by omega,by omega,_,_,am _ _ _,.inr rfl,.inr ⟨by omega,by omega,n,⟨ax _,by omega⟩,rfl,?_⟩⟩,?_,by omega,fun x hx hxb=>?_⟩
  ·rw[ak _ _ (by omega),am];rfl
  ·exact((hg1.up (show c1≤c1+13 by omega)).set (c1+13+8) _ (by have:=hg.le;omega) (show c1+13+8<c1+13+16 by omega) (by omega)).set b _ k1 (by omega) (by omega)
  ·rw[ak _ _ hxb,ak _ _ (by omega),ak _ _ hxb]
theorem r52(Φ:Nat→Option CF)(h:Φ 52=some zL)(h71:Φ 71=some xN){F:RO}{M0 M:Mem}{c0 c b bb:Nat}{l:List UInt8}(ok:cK F M c)(hg:Gr c0 M0 c M)(hb:kN M c0 c b bb l)(s:List UInt8)(hr:mA (l.length+s.length) 1=true):
 Calls Φ F 52 [.p b 0,sV s] M c fun _ M' c'=>∃bb',kN M' c0 c' b bb' (l++s)∧Gr c0 M0 c' M'∧c≤c'∧(∀x,x<c→x≠b→x≠bb→M'.get x=M.get x)∧(bb'=bb∨c≤bb'):=by
 obtain⟨k1,k2,k3,a,v,hM,ha,hbuf⟩:=hb
 refine aN h ?_
 simp only[WX,B52]
 refine aD ((r71 Φ h71 hM ha).mono ?_)
 rintro v1 M1 c1 ⟨rfl,rfl⟩
 have hg1:=hg.set b (af 99 [.p b 0,v]) k1 k2 (aj _)
 have g1:(M.set b (af 99 [.p b 0,v])).get b=some (af 99 [.p b 0,v]):=am _ _ _
 have l1:load1 F (M.set b (af 99 [.p b 0,v])) b 1=some v:=au g1 1
 have hbuf1:qG (M.set b (af 99 [.p b 0,v])) c0 c1 bb v l:=by
  rcases hbuf with h|⟨a1,a2,n,a3,a4,a5⟩
  ·exact .inl h
  ·exact .inr ⟨a1,a2,n,a3,a4,by rw[ak _ _ (Ne.symm k3)];exact a5⟩
 simp only[WX,B52,wJ,jj,l1]
 refine aD ((aO2 (F:=F) (s:=s) hbuf1 hg1 hr).mono ?_)
 rintro v2 M2 c2 ⟨bb',hb2,hg2,hle,hfr,hbb⟩
 have g2:M2.get b=some (af 99 [.p b 0,v]):=by rw[hfr b (by omega) k3];exact g1
 obtain⟨o1,o2,_⟩:=F4 hb2
 have hst:=aJ g2 1 [v2] (by simp) (by rw[aw,o1];rfl)
 simp only[WX,Nat.reduceAdd,B52,wJ,jj,o2,hst]
 have hne:b≠bb':=by rcases hbb with h|h<;>omega
 refine⟨bb',⟨k1,by omega,hne,_,_,am _ _ _,.inr rfl,?_⟩,hg2.set b _ k1 (by omega) (aj _),hle,fun x hx hxb hxbb=>?_,hbb⟩
 ·rcases hb2 with h|⟨a1,a2,n,a3,a4,a5⟩
  ·exact .inl h
  ·exact .inr ⟨a1,a2,n,a3,a4,by rw[ak _ _ (Ne.symm hne)];exact a5⟩
 ·rw[ak _ _ hxb,hfr x hx hxbb,ak _ _ hxb]
def usE(F:RO)(M:Mem)(c ty:Nat)(x n:V):RC:=Rm ty (.c x) (.c n) F M c .e
theorem yW{Φ:Nat→Option CF}{rd:Option Nat}{fn:Nat}{F:RO}(ty:Nat)(x n:X)(M:Mem)(c:Nat)(t:T):eU (.us ty x n) (K Φ rd fn F) M c t=usE F M c ty (x.ev t) (n.ev t):=Eq.trans rfl (Eq.refl _)
theorem bI5{F:RO}(M:Mem)(c ty:Nat):usE F M c ty .p0 (.i .i64 0)= .k (.s 0 0) M c:=Eq.trans rfl (Eq.refl _)
theorem aZ1{F:RO}(M:Mem)(c ty b o:Nat):usE F M c ty (.p b o) (.i .i64 0)= .k (.s 0 0) M c:=Eq.trans rfl (Eq.refl _)
theorem XY{F:RO}{M:Mem}{b n:Nat}(c:Nat){l:List UInt8}(hM:M.get b=some (qm 5 n (l.map bV)))(hn:l.length≤n)(hl:l≠[])(hl2:l.length≤1099511627776):
 ∃y,usE F M c 5 (.p b 0) (.i .i64 (l.length:Int))= .k (sV l) (M.set b y) c:=by
 have hld:=(u6 (F:=F) hM (by rw[List.length_map];exact hn)).load (by
  intro e;rw[List.map_eq_nil_iff]at e;exact hl e)
 rw[List.length_map]at hld
 have h0:l.length≠0:=fun e=>hl (List.length_eq_zero_iff.1 e)
 refine⟨.cells 5 n false (if 0≤0+l.length then 0+l.length else 0) false [] (il (l.map bV)),?_⟩
 show Fe F M c 5 b 0 l.length=_
 unfold Fe
 rw[bR,ag h0,cond_false]
 have ht:TG M b 5=true:=by unfold TG;rw[hM];rfl
 rw[ht,cB,ah hl2]
 show(match loadN F M b 0 l.length with|some vs=>Ff M c b 0 (gh vs)|none=>RC.f)=_
 rw[hld]
 show Ff M c b 0 (gh (l.map bV))=_
 rw[sX]
 have hf:mS M b 0 l.length=some (M.set b (.cells 5 n false (if 0≤0+l.length then 0+l.length else 0) false [] (il (l.map bV)))):=by
  unfold mS;rw[hM];show(bif false then none else fN (bif Nat.ble 0 (Nat.add 0 l.length)then Nat.add 0 l.length else 0) fun fz=>some (M.set b (.cells 5 n false fz false [] (il (l.map bV)))))=_;rw[cond_false,bA,cB];by_cases h:0≤0+l.length
  ·rw[ah (show 0≤Nat.add 0 l.length from h),ac h];rfl
  ·exact absurd (ax _) h
 show(match mS M b 0 l.length with|some M=>fN l.length fun n=>fN (ce l) fun s=>RC.k (.s n s) M c|none=> .f)=_
 rw[hf]
 show(fN l.length fun n=>fN (ce l) fun s=>RC.k (.s n s) _ c)=_
 rw[bA,bA];rfl
theorem r54(Φ:Nat→Option CF)(h:Φ 54=some zM){F:RO}{M0 M:Mem}{c0 c b bb:Nat}{l:List UInt8}(ok:cK F M c)(hg:Gr c0 M0 c M)(hb:kN M c0 c b bb l)(hl:l.length≤1099511627776):
 Calls Φ F 54 [.p b 0] M c fun r M' c'=>r=sV l∧Gr c0 M0 c' M'∧c≤c'∧(∀x,x≠bb→M'.get x=M.get x):=by
 obtain⟨k1,k2,k3,a,v,hM,ha,hbuf⟩:=hb
 refine aN h ?_
 have l1:load1 F M b 1=some v:=au hM 1
 obtain⟨o1,o2,o1003⟩:=F4 hbuf
 rcases hbuf with⟨rfl,rfl⟩|⟨a1,a2,n,⟨a3,a4⟩,rfl,a5⟩
 ·have hf:=ok.free;rw[aM]at o1003;simp only[WX,Nat.reducePow,Nat.reduceDiv,Nat.reduceMod,Nat.reduceBEq,fW,B54,pP,jj,l1,Rg,aX2,o1003,yW,bI5,Int.ofNat_zero,hf];exact⟨rfl,hg.up (by omega),by omega,fun _ _=>trivial⟩
 ·by_cases hl0:l=[]
  ·subst hl0;have hf:=ok.free;rw[aM]at o1003;simp only[WX,Nat.reducePow,Nat.reduceDiv,Nat.reduceMod,Nat.reduceBEq,fW,B54,pP,jj,l1,Rg,aC8 a4,o1003,yW,aZ1,Int.ofNat_zero,hf];exact⟨rfl,hg.up (by omega),by omega,fun _ _=>trivial⟩
  ·obtain⟨y,hy⟩:=XY (F:=F) (c+12) a5 a3 hl0 hl;have hf:bQ (M.set bb y) F=true:=(ok.put (y:=y) a2 a5).free;simp only[WX,Nat.reducePow,Nat.reduceDiv,Nat.reduceMod,Nat.reduceBEq,fW,B54,pP,jj,l1,Rg,aC8 a4,o1003,yW,hy,hf];exact⟨(hg.set bb y a1 a2 (aj _)).up (by omega),by omega,fun x hx=>ak _ _ hx⟩
abbrev bG0(u:List (Option V))(x0 x1 x5 x39 x40 x41:V):T:=(.n (.n (.n (.n (aq u 63 31 95 15 79 47 111) (uO u 7) (.n (.n (gq u 71) (some x39) (gq u 103)) (uO u 23) (fq u 87 55 119))) (uO u 3) (.n (aq u 67 35 99 19 83 51 115) (uO u 11) (aq u 75 43 107 27 91 59 123))) (some x1) (.n (.n (aq u 65 33 97 17 81 49 113) (uO u 9) (.n (.n (gq u 73) (some x41) (gq u 105)) (uO u 25) (fq u 89 57 121))) (some x5) (.n (aq u 69 37 101 21 85 53 117) (uO u 13) (aq u 77 45 109 29 93 61 125)))) (some x0) (.n (.n (.n (aq u 64 32 96 16 80 48 112) (uO u 8) (.n (.n (gq u 72) (some x40) (gq u 104)) (uO u 24) (fq u 88 56 120))) (uO u 4) (.n (aq u 68 36 100 20 84 52 116) (uO u 12) (aq u 76 44 108 28 92 60 124))) (uO u 2) (.n (.n (aq u 66 34 98 18 82 50 114) (uO u 10) (aq u 74 42 106 26 90 58 122)) (uO u 6) (.n (aq u 70 38 102 22 86 54 118) (uO u 14) (aq u 78 46 110 30 94 62 126)))))
abbrev bG1(u:List (Option V))(x0 x1 x8 x63 x64 x65:V):T:=(.n (.n (.n (.n (.n (.n (.n .e (some x63) .e) (uO u 31) (gq u 95)) (uO u 15) (fq u 79 47 111)) (uO u 7) (aq u 71 39 103 23 87 55 119)) (uO u 3) (.n (aq u 67 35 99 19 83 51 115) (uO u 11) (aq u 75 43 107 27 91 59 123))) (some x1) (.n (.n (.n (.n (.n .e (some x65) .e) (uO u 33) (gq u 97)) (uO u 17) (fq u 81 49 113)) (uO u 9) (aq u 73 41 105 25 89 57 121)) (uO u 5) (.n (aq u 69 37 101 21 85 53 117) (uO u 13) (aq u 77 45 109 29 93 61 125)))) (some x0) (.n (.n (.n (.n (.n (.n .e (some x64) .e) (uO u 32) (gq u 96)) (uO u 16) (fq u 80 48 112)) (some x8) (aq u 72 40 104 24 88 56 120)) (uO u 4) (.n (aq u 68 36 100 20 84 52 116) (uO u 12) (aq u 76 44 108 28 92 60 124))) (uO u 2) (.n (.n (aq u 66 34 98 18 82 50 114) (uO u 10) (aq u 74 42 106 26 90 58 122)) (uO u 6) (.n (aq u 70 38 102 22 86 54 118) (uO u 14) (aq u 78 46 110 30 94 62 126)))))
def al8:CC:=(.reg [(qq a4 (.mv (.c (.s 0 0))))])
def al9:CC:=(.reg [(qq eP (.mv z0)),(qq fg (.ln .slice dL))])
def am0:CC:=(.reg [(qq fh (.bi .eql eN (x6 0))),(qq eQ (.mv gb))])
def am1:CC:=(.reg [(qq a4 (.mv (.c (.s 0 0))))])
def am2:CC:=(.reg [(qq fu (.bi .eql eN (x6 1))),(qq dM (.mv iA))])
def am3:CC:=(.reg [(qq gL (.mv z0)),(qq fy (.iaS 1 iB (x6 0))),(qq jr (.ld1 iC)),(qq a4 (.mv l8))])
def am4:CC:=(.seq am2 (.cond gK (.seq am3 .ret) .skip))
def am5:CC:=(.seq am0 (.cond ed (.seq am1 .ret) am4))
def am6:CC:=(.reg [(qq a5 (.mv (x6 0)))])
def Pb:CC:=(.reg [(qq gH (.mv z1)),(qq fY (.ln .str la)),(qq jt (.bi .gtr kL (x6 0)))])
def Pd:CC:=(.reg [(qq gU (.mv z1)),(qq jX (.ln .str lg)),(qq gv (.mv z0)),(qq kd (.ln .slice lB)),(qq gV (.bi .sub nl (x6 1))),(qq lE (.bi .quo (x6 9223372036854775807) nn)),(qq ip (.bi .geq kM nK))])
def Pe:CC:=(.reg [(qq ke (.mki 9 (.c (.s 36 232023140547069528372253906381035003553488466437483087989658184371904395368843875349619)))),⟨none,.q (.bad),none⟩])
def Pf:CC:=(.seq Pd (.cond ot Pe .skip))
def Pg:CC:=(.reg [(qq lj (.mv z5)),(qq np (.mv z1)),(qq nM (.ln .str pz)),(qq jY (.mv z0)),(qq jZ (.ln .slice rv)),(qq nN (.bi .sub rx (x6 1))),(qq k8 (.bi .mul ru sC)),(qq nq (.bi .add pq qF)),(qq a5 (.mv rU))])
def Ph:CC:=(.cond lA (.seq Pf Pg) .skip)
def Pi:CC:=(.reg [(qq mN (.mv z0)),(qq pC (.ln .slice rV)),(qq js (.mv (x6 0)))])
def Pj:CC:=(.reg [(qq lF (.bi .lss ry sD))])
def Pk:CC:=(.reg [(qq pD (.iaS 1 rV ry)),(qq ng (.ld1 sF)),(qq a7 (.mv rW))])
def Pl:CC:=(.reg [(qq pE (.mv z7)),(qq lG (.ln .str rX)),(qq pF (.mv z5)),(qq kQ (.bi .sub (x6 9223372036854775807) sG)),(qq nh (.bi .gtr vm uE))])
def Pm:CC:=(.reg [(qq px (.mki 9 (.c (.s 36 232023140547069528372253906381035003553488466437483087989658184371904395368843875349619)))),⟨none,.q (.bad),none⟩])
def Pn:CC:=(.seq Pl (.cond vn Pm .skip))
def Po:CC:=(.reg [(qq rA (.mv z5)),(qq oD (.mv z7)),(qq sP (.ln .str vq)),(qq pG (.bi .add uM wM)),(qq a5 (.mv za))])
def Pp:CC:=(.reg [(qq pH (.bi .add ry (x6 1))),(qq js (.mv zl))])
def Pq:CC:=(.seq (.cond sE .skip (.exit 1)) (.seq (.block 2 (.seq Pk (.seq Pn Po))) Pp))
def Ps:CC:=(.reg [(aa a8 (.al 99 [.p0,.l0]))])
def Pt:CC:=(.reg [(qq uI (.mv z5)),(ee vw (.call 79 [z8,wN]))])
def Pu:CC:=(.reg [(qq vz (.mv z0)),(qq rZ (.iaS 1 Bd (x6 0))),(qq vA (.ld1 Be)),(ee s5 (.call 52 [z8,Bf]))])
def Pv:CC:=(.reg [(qq sQ (.mv z0)),(qq ou (.slL 1 Bg (some (x6 1)) none none)),(qq vC (.ln .slice zm)),(qq uT (.mv (x6 0)))])
def Pw:CC:=(.reg [(qq oE (.bi .lss zb BA))])
def Px:CC:=(.cond zn .skip (.exit 3))
def Py:CC:=(.reg [(qq qJ (.iaS 1 zm zb)),(qq uU (.ld1 wO)),(qq dT (.mv zo))])
def Pz:CC:=(.reg [(qq uV (.mv z1)),(ee vD (.call 52 [z8,zp]))])
def PA:CC:=(.reg [(qq py (.mv ft)),(ee vE (.call 52 [z8,Bh]))])
def PB:CC:=(.reg [(qq fA (.bi .add zb (x6 1))),(qq uT (.mv uF))])
def PC:CC:=(.seq Px (.seq (.block 4 (.seq Py (.seq Pz PA))) PB))
def PD:CC:=(.reg [(ee qK (.call 54 [z8])),(qq a4 (.mv BD))])
def PE:CC:=(.seq (.seq Pv (.block 3 (.loop (.seq Pw PC)))) (.seq PD .ret))
def PF:CC:=(.seq (.seq Pi (.block 1 (.loop (.seq Pj Pq)))) (.seq Ps (.seq Pt (.seq Pu PE))))
def PG:CC:=(.seq (.seq al9 (.block 0 am5)) (.seq am6 (.seq (.seq Pb Ph) PF)))
def QS:CF:= .mk 7 [.t a4] (.seq al8 PG)
theorem e60(v0 v1:V):bz 7 [v0,v1]=(.n (.n qw (some v1) qw) (some v0) vg):=rfl
def J8:=ai @e60 (ai (wu al8.eq_1) (ai (wu al9.eq_1) (ai (wu am0.eq_1) (ai (wu am1.eq_1) (ai (wu am2.eq_1) (ai (wu am3.eq_1) (ai (wu am4.eq_1) (ai (wu am5.eq_1) (ai (wu am6.eq_1) (ai (wu Pb.eq_1) (ai (wu Pd.eq_1) (ai (wu Pe.eq_1) (ai (wu Pf.eq_1) (ai (wu Pg.eq_1) (ai (wu Ph.eq_1) (ai (wu Pi.eq_1) (ai (wu Pj.eq_1) (ai (wu Pk.eq_1) (ai (wu Pl.eq_1) (ai (wu Pm.eq_1) (ai (wu Pn.eq_1) (ai (wu Po.eq_1) (ai (wu Pp.eq_1) (ai (wu Pq.eq_1) (ai (wu Ps.eq_1) (ai (wu Pt.eq_1) (ai (wu Pu.eq_1) (ai (wu Pv.eq_1) (ai (wu Pw.eq_1) (ai (wu Px.eq_1) (ai (wu Py.eq_1) (ai (wu Pz.eq_1) (ai (wu PA.eq_1) (ai (wu PB.eq_1) (ai (wu PC.eq_1) (ai (wu PD.eq_1) (ai (wu PE.eq_1) (ai (wu PF.eq_1) (wu PG.eq_1)))))))))))))))))))))))))))))))))))))))
theorem Gf{F:RO}{M:Mem}{c:Nat}{v:V}{l:List (List UInt8)}(hs:cA F M c 1 v (gG l)):uK v=some (.i .i64 (l.length:Int)):=by
 have:=hs.len;rwa [gG,List.length_map]at this
def dq:List (List UInt8)→Nat
 |[]=>0
 |w::r=>w.length+1+dq r
theorem uj:∀(l:List (List UInt8)) (k:Nat),dq (l.take k)≤dq l
 |[],k=>by rw[List.take_nil];exact aj _
 |w::r,0=>ax _
 |w::r,k+1=>by rw[List.take_succ_cons,dq,dq];have:=uj r k;omega
theorem bH:∀(a b:List (List UInt8)),dq (a++b)=dq a+dq b
 |[],b=>by rw[List.nil_append,dq];omega
 |w::r,b=>by rw[List.cons_append,dq,dq,bH r b];omega
theorem yK:∀(a:List (List UInt8)),a.length≤dq a
 |[]=>aj _
 |w::r=>by rw[av,dq];have:=yK r;omega
theorem yJ{l:List (List UInt8)}{i:Nat}(h:i<l.length):l[i].length≤dq l:=by
 induction l generalizing i with
 |nil=>cases h
 |cons w r ih=>
  cases i with
  |zero=>rw[List.getElem_cons_zero,dq];omega
  |succ i=>rw[List.getElem_cons_succ,dq];have:=ih (i:=i) (by simpa using h);omega
def dA(s:List UInt8):List (List UInt8)→List UInt8
 |[]=>[]
 |w::r=>w++(r.map fun x=>s++x).flatten
theorem HH(s w:List UInt8)(r:List (List UInt8))(x:List UInt8):dA s (w::(r++[x]))=dA s (w::r)++s++x:=by
 simp[dA,List.map_append,List.flatten_append]
theorem RU(s:List UInt8):∀(w:List UInt8) (r:List (List UInt8)),(dA s (w::r)).length≤dq (w::r)+s.length*r.length:=by
 intro w r
 induction r generalizing w with
 |nil=>simp[dA,dq]
 |cons x r ih=>
  have:=ih x;simp only[dA,dq,List.map_cons,List.flatten_cons,aG,av]at this⊢;rw[Nat.mul_add];omega
theorem HG(s:List UInt8)(l:List (List UInt8)):(dA s l).length≤dq l+s.length*l.length:=by
 cases l with
 |nil=>simp[dA]
 |cons w r=>have:=RU s w r;rw[av,Nat.mul_add];omega
theorem HI(s:List UInt8)(L:List (List UInt8))(i:Nat)(h:i+1<L.length):dA s (L.take (i+1+1))=dA s (L.take (i+1))++s++L[i+1]:=by
 cases L with
 |nil=>cases h
 |cons w r=>
  rw[List.take_succ_cons,List.take_succ_cons,List.getElem_cons_succ,List.take_succ_eq_append_getElem (by simpa using h),HH]
theorem se(a b:Int)(h1: -9223372036854775808≤a-b)(h2:a-b<9223372036854775808):cz .sub (.i .i64 a) (.i .i64 b)=some (.i .i64 (a-b)):=by
 rw[xL,mJ h1 h2]
theorem WI(a b:Nat)(hb:0<b)(ha:a<9223372036854775808):cz .quo (.i .i64 (a:Int)) (.i .i64 (b:Int))=some (.i .i64 ((a/b:Nat):Int)):=by
 have hle:a/b≤a:=Nat.div_le_self a b
 show(qN .i64 (a:Int) (b:Int)).val=_
 unfold qN
 rw[da,ag (show¬((b:Int)=0) by omega),cond_false,fU,jV,←Int.ofNat_tdiv]
 generalize a/b=q at hle⊢
 rw[mJ (by omega) (by omega)];rfl
theorem r60(Φ:Nat→Option CF)(h:Φ 60=some QS)(h79:Φ 79=some Vo)(h52:Φ 52=some zL)(h54:Φ 54=some zM)(h71:Φ 71=some xN)(h89:Φ 89=some QU){F:RO}{M:Mem}{c:Nat}{v:V}{l:List (List UInt8)}{s:List UInt8}(ok:cK F M c)(hs:cA F M c 1 v (gG l))
 (hl:dq l≤1000000) (hs1:1≤s.length) (hs2:s.length≤100):Calls Φ F 60 [v,sV s] M c fun r M' c'=>r=sV (dA s l)∧Gr c M c' M':=by
 refine aN h ?_
 have hn:=Gf hs
 have hll:=yK l
 match l,hs,hn,hl,hll with
 |[],hs,hn,hl,hll=>
  rw[aM]at hn;simp only[WX,J8,hn,Int.ofNat_zero];exact⟨rfl,Gr.refl ok⟩
 |[w],hs,hn,hl,hll=>
  obtain⟨b1,o1,_,ia1,ld1⟩:=qz hs 0 (by simp);have ia1:=ia1 .i64;rw[List.length_singleton]at hn;rw[Int.ofNat_zero]at ia1;rw[List.getElem_cons_zero]at ld1;simp only[WX,Int.reduceEq,J8,hn,Int.ofNat_one,ia1,ld1];exact⟨by simp[dA],Gr.refl ok⟩
 |w0::w1::r,hs,hn,hl,hll=>
  generalize hL:w0::w1::r=L at hs hn hl hll⊢;have hL2:2≤L.length:=by rw[←hL];simp
  have d0:decide ((L.length:Int)=0)=false:=ag (by omega);have d1:decide ((L.length:Int)=1)=false:=ag (by omega);have d2:decide ((0:Int)<(s.length:Int))=true:=ah (by omega);have sb:cz .sub (.i .i64 (L.length:Int)) (.i .i64 1)=some (.i .i64 ((L.length-1:Nat):Int)):=by rw[se _ _ (by omega) (by omega)];congr 2;omega
  have qu:=WI 9223372036854775807 (L.length-1) (by omega) (by omega);rw[show((9223372036854775807:Nat):Int)=9223372036854775807 from rfl]at qu;have hq:9223372036854≤9223372036854775807/(L.length-1):=by
   rw[Nat.le_div_iff_mul_le (by omega)];have:9223372036854*(L.length-1)≤9223372036854*1000000:=Nat.mul_le_mul_left _ (by omega);omega
  have d3:decide (((9223372036854775807/(L.length-1):Nat):Int)≤(s.length:Int))=false:=ag (by omega);have hmb:s.length*(L.length-1)≤100*1000000:=Nat.mul_le_mul hs2 (by omega);have mu:cz .mul (.i .i64 (s.length:Int)) (.i .i64 ((L.length-1:Nat):Int))=some (.i .i64 ((s.length*(L.length-1):Nat):Int)):=by
   have:((s.length:Int)*((L.length-1:Nat):Int))=((s.length*(L.length-1):Nat):Int):=by rw[Int.natCast_mul]
   rw[Fj _ _ (by rw[this];omega) (by rw[this];omega),this]
  have ad:cz .add (.i .i64 0) (.i .i64 ((s.length*(L.length-1):Nat):Int))=some (.i .i64 ((s.length*(L.length-1):Nat):Int)):=by rw[aX _ _ (by omega) (by omega)];simp
  simp only[WX,J8,hn,d0,d1,d2,sb,qu,d3,mu,ad];obtain⟨I1,hI1⟩:∃I:Nat→St→Prop,∀n s',I n s'↔(∃(i a:Nat) (u:List (Option V)),n=L.length-i∧i≤L.length∧s'= .mk ((bG0 u v (sV s) (.i .i64 (a:Int)) v (.i .i64 (L.length:Int)) (.i .i64 (i:Int)))) [] M c∧a≤100000000+dq (L.take i)):=⟨fun n s'=>_,fun _ _=>Iff.rfl⟩
  refine bw I1 ?_ L.length _ ((hI1 _ _).2 ⟨0,s.length*(L.length-1),(G2 (X2 (X1 (G1 (bK (X1 (G2 (G1 (bD (bB (X4 (X1 [])))))))))))),rfl,ax _,rfl,by omega⟩);intro n s' hIs;obtain⟨i,a,u,rfl,hi,rfl,ha⟩:=(hI1 _ _).1 hIs;clear hIs;have htk:=uj L i;by_cases hlt:i<L.length
  ·have e1:decide ((i:Int)<(L.length:Int))=true:=ah (by omega);obtain⟨b1,o1,_,ia1,ld1⟩:=qz hs i hlt;have hge:=yJ hlt;have sb2:cz .sub (.i .i64 9223372036854775807) (.i .i64 (a:Int))=some (.i .i64 (9223372036854775807-(a:Int))):=se _ _ (by omega) (by omega);have e2:decide ((9223372036854775807-(a:Int))<(L[i].length:Int))=false:=ag (by omega);have ad2:cz .add (.i .i64 (a:Int)) (.i .i64 (L[i].length:Int))=some (.i .i64 ((a+L[i].length:Nat):Int)):=by rw[aX _ _ (by omega) (by omega)];simp
   have q8:cz .add (.i .i64 (i:Int)) (.i .i64 1)=some (.i .i64 ((i+1:Nat):Int)):=by rw[aX _ _ (by omega) (by omega)];simp
   simp only[WX,J8,e1,ia1,ld1,sb2,e2,ad2,q8];refine⟨L.length-(i+1),by omega,(hI1 _ _).2 ⟨i+1,a+L[i].length,(G2 (X2 (X1 (G1 (bK (X1 (G2 (G1 (bD (bB (X4 (X1 [])))))))))))),rfl,by omega,rfl,?_⟩⟩;rw[List.take_succ_eq_append_getElem hlt,bH,dq,dq];omega
  ·have e1:decide ((i:Int)<(L.length:Int))=false:=ag (by omega);have gr0:Gr c M (c+1) (M.set c (af 99 [.p0,.l0])):=(Gr.refl ok).set c _ (aj _) (ay _) (aH _);have ok0:=gr0.ok ok;simp only[WX,J8,e1];refine aD ((r79 Φ h79 h71 h89 ok0 gr0 (aj _) (ay _) (am _ _ _) a (by omega)).mono ?_);rintro v1 M1 c1 ⟨bb,hb1,gr1,hle1,hfr1⟩;have ok1:=gr1.ok ok;have hs1':=hs.grow gr1;obtain⟨b1,o1,hb1c,ia1,ld1⟩:=qz hs1' 0 (by omega);have ia1:=ia1 .i64;rw[Int.ofNat_zero]at ia1;simp only[WX,J8,ia1,ld1];have hg0:=yJ (l:=L) (i:=0) (by omega);refine aD ((r52 Φ h52 h71 ok1 gr1 hb1 L[0] (kE (by simp only[aM];omega))).mono ?_);rintro v2 M2 c2 ⟨bb2,hb2,gr2,hle2,_,_⟩;rw[List.nil_append]at hb2;have ok2:=gr2.ok ok;obtain⟨v3,⟨_,_,hsl,_⟩,hs3⟩:=T8 (lo:=1) (hi:=(gG L).length) hs (by simp[gG];omega) (aj _);have hsl':vh 1 v (some (.i .i64 1)) none none=some v3:=congrArg QR.val (hsl rfl);have hs3':cA F M c 1 v3 (gG (L.drop 1)):=by
    rw[List.take_length,gG,←List.map_drop]at hs3;exact hs3
   have hn3:=Gf hs3';rw[bC]at hn3;simp only[WX,J8,hsl',hn3];obtain⟨I2,hI2⟩:∃I:Nat→St→Prop,∀n s',I n s'↔(∃(i:Nat) (M3:Mem) (c1003 bb3:Nat) (u:List (Option V)),n=L.length-1-i∧i≤L.length-1∧s'= .mk ((bG1 u v (sV s) (.p c 0) v3 (.i .i64 ((L.length-1:Nat):Int)) (.i .i64 (i:Int)))) [] M3 c1003∧kN M3 c c1003 c bb3 (dA s (L.take (i+1)))∧Gr c M c1003 M3):=⟨fun n s'=>_,fun _ _=>Iff.rfl⟩
   refine bw I2 ?_ (L.length-1) _ ((hI2 _ _).2 ⟨0,M2,c2,bb2,(G2 (X4 (X2 (G1 (bK (bB (X4 (X2 (G2 (G1 (bK (bB (X8 (X4 (X1 []))))))))))))))),rfl,ax _,rfl,?_,gr2⟩)
   ·intro n s' hIs;obtain⟨i,M3,c1003,bb3,u,rfl,hi,rfl,hb3,gr3⟩:=(hI2 _ _).1 hIs;clear hIs;have hs4:=hs3'.grow gr3;have ok3:=gr3.ok ok;have hj:=HG s (L.take (i+1));have hj2:=uj L (i+1);have hj3:s.length*(L.take (i+1)).length≤100*1000000:=Nat.mul_le_mul hs2 (by rw[List.length_take];omega);by_cases hlt:i<L.length-1
    ·have e1:decide ((i:Int)<((L.length-1:Nat):Int))=true:=ah (by omega);obtain⟨b1004,o1004,hb4,ia4,ld4⟩:=qz hs4 i (by rw[bC];omega);have hge:(L.drop 1)[i]'(by rw[bC];omega)=L[i+1]:=by rw[List.getElem_drop];congr 1;omega
     rw[hge]at ld4;have hgl:=yJ (l:=L) (i:=i+1) (by omega);have q8:cz .add (.i .i64 (i:Int)) (.i .i64 1)=some (.i .i64 ((i+1:Nat):Int)):=by rw[aX _ _ (by omega) (by omega)];simp
     simp only[WX,J8,e1,ia4,ld4];refine aD ((r52 Φ h52 h71 ok3 gr3 hb3 s (kE (by omega))).mono ?_);rintro v5 M5 c1005 ⟨bb5,hb5,gr5,hle5,_,_⟩;have ok5:=gr5.ok ok;simp only[WX,J8];refine aD ((r52 Φ h52 h71 ok5 gr5 hb5 L[i+1] (kE (by rw[aG];omega))).mono ?_);rintro v6 M6 c1006 ⟨bb6,hb6,gr6,hle6,_,_⟩;simp only[WX,J8,q8];refine⟨L.length-1-(i+1),by omega,(hI2 _ _).2 ⟨i+1,M6,c1006,bb6,(G2 (X4 (X2 (G1 (bK (bB (X4 (X2 (G2 (G1 (bK (bB (X8 (X4 (X1 []))))))))))))))),rfl,by omega,rfl,?_,gr6⟩⟩;rw[HI s L i (by omega)];exact hb6
    ·have e1:decide ((i:Int)<((L.length-1:Nat):Int))=false:=ag (by omega);simp only[WX,J8,e1];refine aD ((r54 Φ h54 ok3 gr3 hb3 (by omega)).mono ?_);rintro v5 M5 c1005 ⟨rfl,gr5,_,_⟩;simp only[WX];refine⟨?_,gr5⟩;rw[List.take_of_length_le (by omega)]
   ·rw[show L.take (0+1)=[L[0]] by rw[List.take_succ_eq_append_getElem (show 0<L.length by omega)];rfl]
    simpa [dA]using hb2
theorem yA:∀(f:Nat) (r:List UInt8) (w:List Pc) (text:List UInt8) (sm:Bool) (n:Nat) (ps:List Pc) (m:Nat),Bu f r w text sm n=some (ps,m)→ps.length≤w.length+2*f
 |0,_,_,_,_,_,_,_,h=>by cases h
 |f+1,r,w,text,sm,n,ps,m,h=>by
  rw[Bu]at h;split at h
  ·injection h with h;injection h with h1 h2
   rw[←h1];unfold nF;split<;>simp<;>omega
  ·cases h
  ·have:=yA f _ _ _ _ _ _ _ h;have e:(gQ w text).length≤w.length+2:=by unfold gQ;split<;>simp
   omega
  ·have:=yA f _ _ _ _ _ _ _ h;omega
theorem yL:∀(f:Nat) (r:List UInt8) (i:Nat),∀t∈AR f r i,t.2.2.length≤2*(r.length+1)
 |0,_,_,t,h=>by cases h
 |_+1,[],_,t,h=>by cases h
 |f+1,x::l,i,t,h=>by
  unfold AR at h;split at h
  ·have:=yL f l _ t h;rw[av];omega
  ·split at h
   ·rcases bh.1 h with rfl|h
    ·simp
    ·have:=yL f _ _ t h;rw[bC]at this;omega
   ·split at h
    ·cases h
    ·rename_i ps n hr;split at h
     ·cases h
     ·rcases bh.1 h with rfl|h
      ·have:=yA _ _ _ _ _ _ _ _ hr;simp only[aM]at this;show ps.length≤_;omega
      ·have:=yL f _ _ t h;rw[bC]at this;omega
theorem kR{v w:V}{f:List UInt8→Option V}(h:(qM v).bind f=some w):∃l,v=sV l∧f l=some w:=by
 obtain⟨l,h1,h2⟩:=aW.1 h
 exact⟨l,aU4 h1,h2⟩
theorem vM{v w:V}{f:UInt8→Option V}(h:(Vk v).bind f=some w):∃b,v=bV b∧f b=some w:=by
 obtain⟨l,h1,h2⟩:=aW.1 h
 exact⟨l,aU3 h1,h2⟩
theorem bD5{ct:Nat}(h:1000≤ct):cK [] (.e:Mem) ct:=⟨fun b _=>rfl,fun b _=>rfl,fun b hb=>(by cases hb),h⟩
section
variable{P:Program}(hm:P.follows .mixedOrders=true){Φ:Nat→Option CF}(hΦ:eR P Φ)
include hm hΦ
theorem o87(h:Φ 87=some c87):dh P 87 (aO RG):=eI hm hΦ (by
 intro args v ct hv hct;unfold RG at hv;split at hv
 ·obtain⟨l,rfl,hv1⟩:=kR hv;obtain⟨p,rfl,hv2⟩:=kR hv1;obtain rfl:=ae hv2;exact⟨trivial,t87 Φ h _ _ _⟩
 ·cases hv)
theorem o88(h:Φ 88=some c88):dh P 88 (aO h88):=eI hm hΦ (by
 intro args v ct hv hct;unfold h88 at hv;split at hv
 ·obtain⟨l,rfl,hv1⟩:=kR hv;obtain⟨b,rfl,hv2⟩:=vM hv1;obtain rfl:=ae hv2;exact⟨trivial,t88 Φ h _ _ _⟩
 ·cases hv)
theorem o73(h:Φ 73=some c73)(RG:Φ 87=some (.orc (aO RG))):dh P 73 (aO h73):=eI hm hΦ (by
 intro args v ct hv hct;unfold h73 at hv;split at hv
 ·obtain⟨l,rfl,hv1⟩:=kR hv;obtain⟨p,rfl,hv2⟩:=kR hv1;obtain rfl:=ae hv2;exact⟨trivial,t73 Φ h RG _ _ _⟩
 ·cases hv)
theorem o76(h:Φ 76=some c76)(h88':Φ 88=some (.orc (aO h88))):dh P 76 (aO h88):=eI hm hΦ (by
 intro args v ct hv hct;unfold h88 at hv;split at hv
 ·obtain⟨l,rfl,hv1⟩:=kR hv;obtain⟨b,rfl,hv2⟩:=vM hv1;obtain rfl:=ae hv2;exact⟨trivial,t76 Φ h h88' _ _ _⟩
 ·cases hv)
theorem o75(h:Φ 75=some c75)(h76:Φ 76=some (.orc (aO h88))):dh P 75 (aO h75):=eI hm hΦ (by
 intro args v ct hv hct;unfold h75 at hv;split at hv
 ·obtain⟨b,rfl,hv1⟩:=vM hv;obtain rfl:=ae hv1;exact⟨trivial,t75 Φ h h76 _ _⟩
 ·cases hv)
theorem o78(h:Φ 78=some c78):dh P 78 (aO h78):=eI hm hΦ (by
 intro args v ct hv hct;unfold h78 at hv;split at hv
 ·obtain⟨b,rfl,hv1⟩:=vM hv;obtain rfl:=ae hv1;exact⟨trivial,t78 Φ h _ _⟩
 ·cases hv)
theorem o69(h:Φ 69=some c69):dh P 69 (aO h78):=eI hm hΦ (by
 intro args v ct hv hct;unfold h78 at hv;split at hv
 ·obtain⟨b,rfl,hv1⟩:=vM hv;obtain rfl:=ae hv1;exact⟨trivial,t69 Φ h _ _⟩
 ·cases hv)
theorem o68(h:Φ 68=some c68):dh P 68 (aO h75):=eI hm hΦ (by
 intro args v ct hv hct;unfold h75 at hv;split at hv
 ·obtain⟨b,rfl,hv1⟩:=vM hv;obtain rfl:=ae hv1;exact⟨trivial,t68 Φ h _ _⟩
 ·cases hv)
theorem o77(h:Φ 77=some c77)(h78:Φ 78=some (.orc (aO h78)))(h75:Φ 75=some (.orc (aO h75))):dh P 77 (aO h77):=eI hm hΦ (by
 intro args v ct hv hct;unfold h77 at hv;split at hv
 ·obtain⟨l,rfl,hv1⟩:=kR hv;split at hv1
  ·rename_i hl;obtain rfl:=ae hv1;exact⟨trivial,t77 Φ h h78 l hl _⟩
  ·cases hv1
 ·obtain⟨l,rfl,hv1⟩:=kR hv;split at hv1
  ·rename_i hl;obtain rfl:=ae hv1;exact⟨trivial,ce8 Φ h h75 l hl _⟩
  ·cases hv1
 ·cases hv)
theorem o55(h:Φ 55=some c55)(h73:Φ 73=some (.orc (aO h73))):dh P 55 (aO h55):=eI hm hΦ (by
 intro args v ct hv hct;unfold h55 at hv;split at hv
 ·obtain⟨l,rfl,hv1⟩:=kR hv;obtain rfl:=ae hv1;obtain⟨r,M1,c1,e,rfl,_⟩:=r55 Φ h h73 (bD5 hct) l;exact⟨trivial,M1,c1,e⟩
 ·cases hv)
theorem o44(h:Φ 44=some c44):dh P 44 (aO h44):=eI hm hΦ (by
 intro args v ct hv hct;unfold h44 at hv;split at hv
 ·obtain⟨l,rfl,hv1⟩:=kR hv;split at hv1
  ·cases hv1
  ·split at hv1
   ·rename_i hl;obtain rfl:=ae hv1;exact⟨trivial,t44 Φ h _ _ hl _⟩
   ·cases hv1
 ·cases hv)
end
abbrev Dy:Nat:=9223372036854775807
def dw(F:RO)(M:Mem)(c:Nat)(v:V)(w:List Pc):Prop:=cA F M c 2 v (jm w)∧w.length≤Dy
def cg{α:Type}(F:RO)(R:Mem→Nat→List V→α→Prop)(sz:Nat)(M:Mem)(c:Nat)(v:V)(l:List α):Prop:=∃es:List (List V),cA F M c sz v es∧es.length=l.length∧l.length≤Dy∧ ∀i (h:i<es.length) (h':i<l.length),R M c es[i] l[i]
def W1(F:RO)(M:Mem)(c:Nat)(e:List V)(w:List Pc):Prop:=∃x,e=[x]∧dw F M c x w
def ff(F:RO)(M:Mem)(c:Nat)(v:V)(l:List (List Pc)):Prop:=cg F (W1 F) 1 M c v l
def C1(F:RO)(M:Mem)(c:Nat)(e:List V)(l:List (List Pc)):Prop:=∃x,e=[x]∧ff F M c x l
def jg(F:RO)(M:Mem)(c:Nat)(v:V)(l:List (List (List Pc))):Prop:=cg F (C1 F) 1 M c v l
structure dD where
 join:Int
 nt:Bool
 inp:List Pc
 out:List Pc
 beh:Bool
 cmds:List (List (List Pc))
def P1(F:RO)(M:Mem)(c:Nat)(e:List V)(p:dD):Prop:=∃vi vo vc,e=[.i .i64 p.join,.b p.nt,vi,vo,.b p.beh,vc]∧dw F M c vi p.inp∧dw F M c vo p.out∧jg F M c vc p.cmds
def iF(F:RO)(M:Mem)(c:Nat)(v:V)(l:List dD):Prop:=cg F (P1 F) 6 M c v l
theorem dw.grow{F:RO}{M M':Mem}{c c':Nat}{v:V}{w:List Pc}(h:dw F M c v w)(g:Gr c M c' M'):dw F M' c' v w:=⟨h.1.grow g,h.2⟩
theorem cg.grow{α:Type}{F:RO}{R:Mem→Nat→List V→α→Prop}{sz:Nat}{M M':Mem}{c c':Nat}{v:V}{l:List α}(hR:∀e x,R M c e x→R M' c' e x)(h:cg F R sz M c v l)(g:Gr c M c' M'):cg F R sz M' c' v l:=by
 obtain⟨es,h1,h2,h3,h4⟩:=h
 exact⟨es,h1.grow g,h2,h3,fun i h h'=>hR _ _ (h4 i h h')⟩
theorem W1.grow{F:RO}{M M':Mem}{c c':Nat}(g:Gr c M c' M')(e:List V)(w:List Pc)(h:W1 F M c e w):W1 F M' c' e w:=by obtain⟨x,h1,h2⟩:=h;exact⟨x,h1,h2.grow g⟩
theorem ff.grow{F:RO}{M M':Mem}{c c':Nat}{v:V}{l:List (List Pc)}(h:ff F M c v l)(g:Gr c M c' M'):ff F M' c' v l:=cg.grow (W1.grow g) h g
theorem C1.grow{F:RO}{M M':Mem}{c c':Nat}(g:Gr c M c' M')(e:List V)(w:List (List Pc))(h:C1 F M c e w):C1 F M' c' e w:=by obtain⟨x,h1,h2⟩:=h;exact⟨x,h1,h2.grow g⟩
theorem jg.grow{F:RO}{M M':Mem}{c c':Nat}{v:V}{l:List (List (List Pc))}(h:jg F M c v l)(g:Gr c M c' M'):jg F M' c' v l:=cg.grow (C1.grow g) h g
theorem P1.grow{F:RO}{M M':Mem}{c c':Nat}(g:Gr c M c' M')(e:List V)(w:dD)(h:P1 F M c e w):P1 F M' c' e w:=by obtain⟨vi,vo,vc,h1,h2,h3,h4⟩:=h;exact⟨vi,vo,vc,h1,h2.grow g,h3.grow g,h4.grow g⟩
theorem iF.grow{F:RO}{M M':Mem}{c c':Nat}{v:V}{l:List dD}(h:iF F M c v l)(g:Gr c M c' M'):iF F M' c' v l:=cg.grow (P1.grow g) h g
theorem mZ{F:RO}{M:Mem}{c sz:Nat}{v:V}{es:List (List V)}(h:cA F M c sz v es):bO v=true∧flatten v=[v]∧aL [v]=true:=by
 rcases h with⟨_,⟨_,rfl|⟨b,o0,o,rfl⟩⟩|⟨b,o,⟨cap,_,rfl⟩|⟨el,kn,_,rfl⟩,_⟩⟩<;>exact⟨rfl,rfl,rfl⟩
theorem cg.one{α:Type}{F:RO}{R:Mem→Nat→List V→α→Prop}{sz:Nat}{M:Mem}{c:Nat}{v:V}{l:List α}(h:cg F R sz M c v l):bO v=true∧flatten v=[v]∧aL [v]=true:=by
 obtain⟨es,h1,_⟩:=h;exact mZ h1
theorem dw.one{F:RO}{M:Mem}{c:Nat}{v:V}{w:List Pc}(h:dw F M c v w):bO v=true∧flatten v=[v]∧aL [v]=true:=mZ h.1
theorem cg.len{α:Type}{F:RO}{R:Mem→Nat→List V→α→Prop}{sz:Nat}{M:Mem}{c:Nat}{v:V}{l:List α}(h:cg F R sz M c v l):uK v=some (.i .i64 (l.length:Int)):=by
 obtain⟨es,h1,h2,_⟩:=h;rw[←h2];exact h1.len
theorem cg.max{α:Type}{F:RO}{R:Mem→Nat→List V→α→Prop}{sz:Nat}{M:Mem}{c:Nat}{v:V}{l:List α}(h:cg F R sz M c v l):l.length≤9223372036854775807:=by
 obtain⟨es,h1,h2,h3,_⟩:=h;exact h3
theorem dw.len{F:RO}{M:Mem}{c:Nat}{v:V}{w:List Pc}(h:dw F M c v w):uK v=some (.i .i64 (w.length:Int)):=by have:=h.1.len;rwa [dv]at this
theorem cg.at{α:Type}{F:RO}{R:Mem→Nat→List V→α→Prop}{sz:Nat}{M:Mem}{c:Nat}{v:V}{l:List α}(h:cg F R sz M c v l)(hsz:0<sz)(i:Nat)(hi:i<l.length):
 ∃b o e,b<c∧(∀k,fF sz v (.i k (i:Int))=some (.p b o))∧loadN F M b o sz=some e∧e.length=sz∧R M c e l[i]:=by
 obtain⟨es,h1,h2,h3,h4⟩:=h
 obtain⟨b,o,a1,a2,a3⟩:=h1.at i (by omega)
 have hl:es[i].length=sz:=h1.1 _ (List.getElem_mem _)
 exact⟨b,o,es[i],a1,a2,by have:=a3.load (by intro e;rw[e]at hl;simp at hl;omega);rwa [hl]at this,hl,h4 i _ hi⟩
theorem sy{α:Type}{l1 l2:List α}{i:Nat}(h1:i<l1.length)(h2:i<l2.length)(h:l1.take i=l2.take i)(he:l1[i]=l2[i]):l1.take (i+1)=l2.take (i+1):=by
 rw[List.take_succ_eq_append_getElem h1,List.take_succ_eq_append_getElem h2,h,he]
theorem Gl{α:Type}{l1 l2:List α}{i:Nat}(h1:i<l1.length)(h2:i<l2.length)(he:l1[i]≠l2[i]):l1≠l2:=fun e=>he (by subst e;rfl)
theorem yO{α:Type}{l1 l2:List α}(hl:l1.length=l2.length)(h:l1.take l1.length=l2.take l1.length):l1=l2:=by
 rw[List.take_length,hl,List.take_length]at h;exact h
theorem aV0(p q:Pc):(decide (p.1=q.1)&&decide (p.2=q.2))=decide (p=q):=by
 obtain⟨a,b⟩:=p
 obtain⟨a',b'⟩:=q
 rw[Bool.eq_iff_iff]
 simp
theorem w22(Φ:Nat→Option CF)(h:Φ 22=some c22){F:RO}{M:Mem}{c:Nat}(ok:cK F M c){v1 v2:V}{l1 l2:List Pc}(h1:dw F M c v1 l1)(h2:dw F M c v2 l2):
 Calls Φ F 22 [.g [v1],.g [v2]] M c fun r M' c'=>r= .b (decide (l1=l2))∧Gr c M c' M':=by
 refine aN h ?_
 obtain⟨y1,y2,y3⟩:=h1.one
 obtain⟨z1,z2,z3⟩:=h2.one
 have hG:∀v,flatten (V.g [v])=[v]:=fun _=>rfl
 have gX:=((Gr.refl ok).set c (af 36 [v1]) (aj _) (ay _) (aH _)).set (c+1) (af 36 [v2]) (by omega) (show c+1<c+2 by omega) (by omega)
 have m0:((M.set c (af 36 [v1])).set (c+1) (af 36 [v2])).get c=some (af 36 [v1]):=by rw[ak _ _ (by omega)];exact am _ _ _
 have m1:((M.set c (af 36 [v1])).set (c+1) (af 36 [v2])).get (c+1)=some (af 36 [v2]):=am _ _ _
 have k1:=h1.grow gX
 have k2:=h2.grow gX
 have l0:load1 F ((M.set c (af 36 [v1])).set (c+1) (af 36 [v2])) c 0=some v1:=au m0 0
 have l1':load1 F ((M.set c (af 36 [v1])).set (c+1) (af 36 [v2])) (c+1) 0=some v2:=au m1 0
 have n1:=h1.len
 have n2:=h2.len
 have mx1:l1.length≤9223372036854775807:=h1.2
 by_cases hlen:l1.length=l2.length
 ·have d0:decide (¬((l1.length:Int)=(l2.length:Int)))=false:=ag (by omega);simp only[WX,Nat.reduceAdd,B22,hG,y3,z3,l0,l1',n1,n2,d0];generalize(M.set c (af 36 [v1])).set (c+1) (af 36 [v2])=X at gX k1 k2 l0 l1'⊢;have okX:=gX.ok ok;obtain⟨I,hI⟩:∃I:Nat→St→Prop,∀n s',I n s'↔(∃(i c1:Nat) (u:List (Option V)),n=l1.length-i∧i≤l1.length∧c+2≤c1∧s'= .mk ((bG4 u (.p c 0) (.p (c+1) 0) (.i .i64 (i:Int)))) [] X c1∧l1.take i=l2.take i):=⟨fun n s'=>_,fun _ _=>Iff.rfl⟩
  refine bw I ?_ l1.length _ ((hI _ _).2 ⟨0,_,(X2 (G2 (X1 (G1 (bB (X8 (X1 []))))))),rfl,ax _,aj _,rfl,rfl⟩);intro n s' hIs;obtain⟨i,c1,u,rfl,hi,hc1,rfl,hpre⟩:=(hI _ _).1 hIs;clear hIs;by_cases hlt:i<l1.length
  ·have q8:cz .add (.i .i64 (i:Int)) (.i .i64 1)=some (.i .i64 ((i+1:Nat):Int)):=by rw[aX _ _ (by omega) (by omega)];simp
   have hlt2:i<l2.length:=by omega
   have d1:decide ((i:Int)<(l1.length:Int))=true:=ah (by omega);obtain⟨b1,o1,_,ia1,ld1⟩:=wj k1.1 i hlt;obtain⟨b2,o2,_,ia2,ld2⟩:=wj k2.1 i hlt2;have ia1:=ia1 .i64;have ia2:=ia2 .i64;have hfr:=okX.free;unfold ve at ld1 ld2;have hpv:=aV0 l1[i] l2[i];by_cases he:l1[i]=l2[i]
   ·have e1:decide (l1[i].1=l2[i].1)=true:=ah (by rw[he]);have e2:decide (l1[i].2=l2[i].2)=true:=ah (by rw[he]);simp only[WX,B22,n1,l0,l1',d1,ia1,ia2,ld1,ld2,q8,e1,e2];exact⟨l1.length-(i+1),by omega,(hI _ _).2 ⟨i+1,_,(X2 (G2 (X1 (G1 (bB (X8 (X1 []))))))),rfl,hlt,by omega,rfl,sy hlt hlt2 hpre he⟩⟩
   ·rw[ag he]at hpv;have hne:=Gl hlt hlt2 he;by_cases e1:l1[i].1=l2[i].1
    ·have e2:decide (l1[i].2=l2[i].2)=false:=by rw[ah e1,Bool.true_and]at hpv;exact hpv
     have e1:=ah e1;simp only[WX,B22,n1,l0,l1',d1,ia1,ia2,ld1,ld2,e1,e2];exact⟨by rw[ag hne],gX.up (by omega)⟩
    ·have e1:=ag e1;simp only[WX,B22,n1,l0,l1',d1,ia1,ia2,ld1,ld2,e1,Bool.false_and];exact⟨by rw[ag hne],gX.up (by omega)⟩
  ·obtain rfl:i=l1.length:=by omega
   have d1:decide ((l1.length:Int)<(l1.length:Int))=false:=ag (by omega);simp only[WX,B22,n1,l0,d1];exact⟨by rw[ah (yO hlen hpre)],gX.up hc1⟩
 ·have d0:decide (¬((l1.length:Int)=(l2.length:Int)))=true:=ah (by omega);simp only[WX,Nat.reduceAdd,B22,hG,y3,z3,l0,l1',n1,n2,d0];exact⟨by rw[ag (fun e=>hlen (by rw[e]))],gX⟩
deriving instance DecidableEq for dD
theorem ff.one{F:RO}{M:Mem}{c:Nat}{v:V}{l:List (List Pc)}(h:ff F M c v l):bO v=true∧flatten v=[v]∧aL [v]=true:=cg.one h
theorem ff.len{F:RO}{M:Mem}{c:Nat}{v:V}{l:List (List Pc)}(h:ff F M c v l):uK v=some (.i .i64 (l.length:Int)):=cg.len h
theorem ff.max{F:RO}{M:Mem}{c:Nat}{v:V}{l:List (List Pc)}(h:ff F M c v l):l.length≤9223372036854775807:=cg.max h
theorem jg.one{F:RO}{M:Mem}{c:Nat}{v:V}{l:List (List (List Pc))}(h:jg F M c v l):bO v=true∧flatten v=[v]∧aL [v]=true:=cg.one h
theorem jg.len{F:RO}{M:Mem}{c:Nat}{v:V}{l:List (List (List Pc))}(h:jg F M c v l):uK v=some (.i .i64 (l.length:Int)):=cg.len h
theorem jg.max{F:RO}{M:Mem}{c:Nat}{v:V}{l:List (List (List Pc))}(h:jg F M c v l):l.length≤9223372036854775807:=cg.max h
theorem iF.one{F:RO}{M:Mem}{c:Nat}{v:V}{l:List dD}(h:iF F M c v l):bO v=true∧flatten v=[v]∧aL [v]=true:=cg.one h
theorem iF.len{F:RO}{M:Mem}{c:Nat}{v:V}{l:List dD}(h:iF F M c v l):uK v=some (.i .i64 (l.length:Int)):=cg.len h
theorem iF.max{F:RO}{M:Mem}{c:Nat}{v:V}{l:List dD}(h:iF F M c v l):l.length≤9223372036854775807:=cg.max h
theorem Sx{p q:dD}:p=q↔p.join=q.join∧p.nt=q.nt∧p.beh=q.beh∧p.inp=q.inp∧p.out=q.out∧p.cmds=q.cmds:=by
 obtain⟨a,b,c,d,e,f⟩:=p
 obtain⟨a',b',c',d',e',f'⟩:=q
 simp only[dD.mk.injEq]
 constructor
 ·rintro⟨h1,h2,h3,h4,h5,h6⟩;exact⟨h1,h2,h5,h3,h4,h6⟩
 ·rintro⟨h1,h2,h5,h3,h4,h6⟩;exact⟨h1,h2,h3,h4,h5,h6⟩
theorem P1.all{F:RO}{M:Mem}{c:Nat}{e:List V}{p:dD}(h:P1 F M c e p):aL e=true:=by
 obtain⟨i1,o1,k1,rfl,a1,a2,a3⟩:=h
 simp only[aw,bZ,a1.one.1,a2.one.1,a3.one.1,Bool.and_true,Bool.and_self];rfl
end
end Go.Proofs.YtmbpllipombieaaDoor.Ev
