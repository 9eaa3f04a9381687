/- What is proved here: pieces of the evaluator's soundness: if the evaluator comes to a value, the model's run comes to it, for every world and tape; no conditions beyond the hypotheses of each theorem. -/
import Derived.Test.YtmbpllipombieaaDoorEv5
set_option linter.unusedSimpArgs false
set_option linter.unusedVariables false
set_option linter.defProp false
set_option maxRecDepth 10000
set_option maxHeartbeats 16000000
namespace Go.Proofs.YtmbpllipombieaaDoor.Ev
open Go
noncomputable section
theorem r56(Φ:Nat→Option CF)(h:Φ 56=some Qo)(h55:Φ 55=some (.orc (aN h55)))(h73:Φ 73=some (.orc (aN h73)))(h75:Φ 75=some (.orc (aN h75)))(h76:Φ 76=some (.orc (aN h88)))(h77:Φ 77=some (.orc (aN h77)))(h74:Φ 74=some Gd){F:RO}{M:Mem}{c:Nat}(ok:cV F M c)(s:List UInt8)(hs:s.length≤400000):
 Calls Φ F 56 [sV s] M c fun r M' c'=>WdP F s c r M' c'∧Gr c M c' M':=by
 refine aI h ?_
 have hF:∀w,flatten (sV w)=[sV w]:=fun _=>rfl
 have aS:∀w,aC [sV w]=true:=fun _=>rfl
 simp only[WX,Nat.reduceAdd,Gt,hF,aS]
 obtain⟨I,hI⟩:∃I:Nat→Nat→St→Prop,∀n l st,I n l st↔(∃(i:Nat) (M1:Mem) (c1:Nat) (w:List Pc) (text:List UInt8) (sm:Bool) (u:List (Option V)),i≤s.length∧st= .mk ((jh u (.p c 0) (.p (c+1) 0) (.p (c+2) 0) (.p (c+3) 0) (.p (c+4) 0) (.p (c+5) 0) (Pj c))) [] M1 c1∧w.length≤2*i∧text.length≤i∧WS M c s M1 c1 w text sm i∧gj s [] [] false 0=gj (s.drop i) w text sm i∧((l=1∧n=2*(s.length-i)+2)∨(l=2∧n=2*(s.length-i)+1∧ ∃hi:i<s.length,s[i]=39)∨(l=0∧n=0∧stW (s.drop i)=none))):=⟨fun n l st=>_,fun _ _ _=>Iff.rfl⟩
 have FIN:∀(u:List (Option V)) (M':Mem) (c':Nat) (v:V) (p i:Nat) (w:List Pc),i≤s.length→gj s [] [] false 0=some (w,i)→Gr c M c' M'→c+6≤c'→M'.get (c+1)=some (af 36 [v])→bm M' (c+6) c' p 64 2 v (kL w)→lO F [.cn (.r .h) 1,.t (.l (.l .h))] (fun r M' c'=>WdP F s c r M' c'∧Gr c M c' M') .ret (.mk ((uu u (.p (c+1) 0) (.i .i64 (i:Int)))) [] M' c'):=by
  intro u M' c' v p i w hi hr g h6 hm hA;obtain⟨w1,w2,w3⟩:=jn hA;have hld:=bc (F:=F) hm 1 rfl;simp only[WX,hld];exact⟨.inl ⟨w,i,v,hr,hi,rfl,p,Ca hA (by omega)⟩,g⟩
 have BAD:∀(u:List (Option V)) (M':Mem) (c':Nat),gj s [] [] false 0=none→Gr c M c' M'→c+6≤c'→M'.get (c+1)=some (af 36 [.l0])→lO F [.cn (.r .h) 1,.t (.l (.l .h))] (fun r M' c'=>WdP F s c r M' c'∧Gr c M c' M') .ret (.mk ((uu u (.p (c+1) 0) (.i .i64 0))) [] M' c'):=by
  intro u M' c' hr g h6 hm;have hld:=bc (F:=F) hm 1 rfl;simp only[WX,hld];exact⟨.inr ⟨hr,rfl⟩,g⟩
 have L1:∀(i:Nat) (M1:Mem) (c1:Nat) (w:List Pc) (text:List UInt8) (sm:Bool) (u:List (Option V)),i≤s.length→w.length≤2*i→text.length≤i→WS M c s M1 c1 w text sm i→gj s [] [] false 0=gj (s.drop i) w text sm i→Wp (.seq .skip (.seq uV uW)) (K Φ none 56 F) (.mk ((jh u (.p c 0) (.p (c+1) 0) (.p (c+2) 0) (.p (c+3) 0) (.p (c+4) 0) (.p (c+5) 0) (Pj c))) [] M1 c1) (jI I (2*(s.length-i)+2) (lO F [.cn (.r .h) 1,.t (.l (.l .h))] (fun r M' c'=>WdP F s c r M' c'∧Gr c M c' M'))):=by
  intro i M1 c1 w text sm u hi hw ht hW hr;refine aO4 Φ h55 h73 h75 h74 ok hi hs (by omega) (by omega) hW (X1 (G2 (X1 (G4 (X1 (G1 (d9 (cP (cw (X4 (X1 []))))))))))) _ ?_ ?_ ?_ ?_
  ·intro hst u;rw[jJ];exact⟨0,by omega,(hI _ _ _).2 ⟨i,M1,c1,w,text,sm,_,hi,rfl,hw,ht,hW,hr,.inr (.inr ⟨rfl,rfl,hst⟩)⟩⟩
  ·intro hlt h39 u;rw[jJ];exact⟨2*(s.length-i)+1,by omega,(hI _ _ _).2 ⟨i,M1,c1,w,text,sm,_,hi,rfl,hw,ht,hW,hr,.inr (.inl ⟨rfl,rfl,hlt,h39⟩)⟩⟩
  ·intro u M' c' j w' text' sm' h1 h2 h3 h4 h5 h6;rw[jJ];exact⟨2*(s.length-j)+2,by omega,(hI _ _ _).2 ⟨j,M',c',w',text',sm',_,h2,rfl,by omega,by omega,h6,hr.trans h5,.inl ⟨rfl,rfl⟩⟩⟩
  ·intro hst u M' c' g h6 hm;rw[dG];exact BAD _ M' c' (hr.trans (Df hst)) g h6 hm
 have L2:∀(i:Nat) (M1:Mem) (c1:Nat) (w:List Pc) (text:List UInt8) (sm:Bool) (u:List (Option V)),i≤s.length→w.length≤2*i→text.length≤i→WS M c s M1 c1 w text sm i→gj s [] [] false 0=gj (s.drop i) w text sm i→Wp JK (K Φ none 56 F) (.mk ((jh u (.p c 0) (.p (c+1) 0) (.p (c+2) 0) (.p (c+3) 0) (.p (c+4) 0) (.p (c+5) 0) (Pj c))) [] M1 c1) (qp zL (K Φ none 56 F) (jI I (2*(s.length-i)+2) (lO F [.cn (.r .h) 1,.t (.l (.l .h))] (fun r M' c'=>WdP F s c r M' c'∧Gr c M c' M')))):=by
  intro i M1 c1 w text sm u hi hw ht hW hr;have:=L1 i M1 c1 w text sm u hi hw ht hW hr;rw[BN,DK,yr,BN]at this;exact this
 refine uy I ?_ (2*(s.length-0)+2) _ _ ?_
 ·intro n l st hIs;obtain⟨i,M1,c1,w,text,sm,u,hi,rfl,hw,ht,hW,hr,hcs⟩:=(hI _ _ _).1 hIs;clear hIs;rcases hcs with⟨rfl,rfl⟩|⟨rfl,rfl,hlt,h39⟩|⟨rfl,rfl,hst⟩
  ·exact⟨_,rfl,L1 i M1 c1 w text sm u hi hw ht hW hr⟩
  ·refine⟨_,rfl,?_⟩;refine aO5 Φ h76 h77 ok hlt hs (by omega) (by omega) h39 hW u _ ?_ ?_
   ·intro u M' c' k hst hj hW';rw[jJ];refine⟨2*(s.length-(i+(k+2)))+2,by omega,(hI _ _ _).2 ⟨i+(k+2),M',c',w,_,true,_,hj,rfl,by omega,?_,hW',?_,.inl ⟨rfl,rfl⟩⟩⟩
    ·rw[aF,List.length_take];omega
    ·rw[hr,nU hst,List.drop_drop]
   ·intro hst u M' c' g h6 hm;rw[dG];exact BAD _ M' c' (hr.trans (Df hst)) g h6 hm
  ·refine⟨_,rfl,?_⟩;refine aO3 Φ h74 ok hi hs (by omega) (by omega) hst hW u _ ?_;intro u M' c' v p g h6 hm hA;rw[dG];exact FIN _ M' c' v p i _ hi (hr.trans (nT hst)) g h6 hm hA
 ·simp only[WX,Nat.reduceAdd,Nat.reduceLeDiff,YY,YZ,Z0,Ol,Om,On];have g:=((((((Gr.refl ok).set c (af 9 [sV s]) (ag _) (aA _) (aP _)).set (c+1) (af 36 [V.l0]) (by omega) (show c+1<c+2 by omega) (by omega)).set (c+2) (af 34 [V.l0]) (by omega) (show c+2<c+3 by omega) (by omega)).set (c+3) (af 96 [V.l0]) (by omega) (show c+3<c+4 by omega) (by omega)).set (c+4) (af 4 [V.b false]) (by omega) (show c+4<c+5 by omega) (by omega)).set (c+5) (af 3 [V.i IntKind.i64 0]) (by omega) (show c+5<c+6 by omega) (by omega);have hW0:WS M c s ((((((M.set c (af 9 [sV s])).set (c+1) (af 36 [V.l0])).set (c+2) (af 34 [V.l0])).set (c+3) (af 96 [V.l0])).set (c+4) (af 4 [V.b false])).set (c+5) (af 3 [V.i IntKind.i64 0])) (c+6) [] [] false 0:=by
   refine⟨.l0,.l0,0,0,g,ag _,?_,?_,?_,?_,?_,am _ _ _,bm.nil,bm.nil⟩
   ·rw[ah _ _ (by omega),ah _ _ (by omega),ah _ _ (by omega),ah _ _ (by omega),ah _ _ (by omega)];exact am _ _ _
   ·rw[ah _ _ (by omega),ah _ _ (by omega),ah _ _ (by omega),ah _ _ (by omega)];exact am _ _ _
   ·rw[ah _ _ (by omega),ah _ _ (by omega),ah _ _ (by omega)];exact am _ _ _
   ·rw[ah _ _ (by omega),ah _ _ (by omega)];exact am _ _ _
   ·rw[ah _ _ (by omega)];exact am _ _ _
  exact L2 0 _ (c+6) [] [] false (X1 (G2 (X1 (G4 (X1 (G1 (d9 (cP (cw (X4 (X1 []))))))))))) (aB _) (aB _) (aB _) hW0 (by rw[List.drop_zero])
abbrev Tk:=Nat×List UInt8×List Pc
def sX:Nat→List UInt8→Nat→List Tk
 |0,_,_=>[]
 |_+1,[],_=>[]
 |f+1,x::t,i=>
  if x=32 then sX f t (i+1)
  else if bU (x::t)≠[]then(i,bU (x::t),[])::sX f ((x::t).drop (bU (x::t)).length) (i+(bU (x::t)).length)
  else match gj (x::t) [] [] false 0 with
   |none=>[]
   |some (ps,n)=>if n=0 then[]else(i,[],ps)::sX f ((x::t).drop n) (i+n)
theorem gw{l:List UInt8}(h:l≠[]):0<l.length:=by cases l with|nil=>exact absurd rfl h|cons a l=>simp
theorem ji:∀(f g:Nat) (r:List UInt8) (i:Nat),r.length<f→r.length<g→sX f r i=sX g r i
 |0,_,_,_,h,_=>by omega
 |_,0,_,_,_,h=>by omega
 |f+1,g+1,[],_,_,_=>rfl
 |f+1,g+1,x::t,i,h1,h2=>by
  rw[av]at h1 h2;unfold sX;split
  ·exact ji f g t _ (by omega) (by omega)
  ·split
   ·rename_i hs;have:=gw hs;rw[ji f g _ _ (by rw[aZ,av];omega) (by rw[aZ,av];omega)]
   ·split
    ·rfl
    ·split
     ·rfl
     ·rename_i hn;rw[ji f g _ _ (by rw[aZ,av];omega) (by rw[aZ,av];omega)]
def tk(r:List UInt8)(i:Nat):List Tk:=sX (r.length+1) r i
theorem DA{t:List UInt8}(i:Nat):tk (32::t) i=tk t (i+1):=by
 unfold tk;rw[sX,ac rfl]
 exact ji _ _ _ _ (by rw[av];omega) (by omega)
theorem w6{x:UInt8}{t:List UInt8}(i:Nat)(hx:x≠32)(hs:bU (x::t)≠[]):tk (x::t) i=(i,bU (x::t),[])::tk ((x::t).drop (bU (x::t)).length) (i+(bU (x::t)).length):=by
 have:=gw hs
 unfold tk;rw[sX,ab hx,ac hs,ji _ _ _ _ ?_ (aA _)]
 rw[aZ,av];omega
theorem NU{x:UInt8}{t:List UInt8}{ps:List Pc}{n:Nat}(i:Nat)(hx:x≠32)(hs:bU (x::t)=[])(hr:gj (x::t) [] [] false 0=some (ps,n))(hn:n≠0):tk (x::t) i=(i,[],ps)::tk ((x::t).drop n) (i+n):=by
 unfold tk;rw[sX,ab hx,ab (fun h=>h hs),hr]
 dsimp only
 rw[ab hn,ji _ _ _ _ ?_ (aA _)]
 rw[aZ,av];omega
theorem NS{x:UInt8}{t:List UInt8}(i:Nat)(hx:x≠32)(hs:bU (x::t)=[])(hr:∀ps n,gj (x::t) [] [] false 0=some (ps,n)→n=0):tk (x::t) i=[]:=by
 unfold tk;rw[sX,ab hx,ab (fun h=>h hs)]
 split
 ·rfl
 ·rename_i ps n h;rw[ac (hr ps n h)]
def sD:Nat→List UInt8→Bool
 |0,_=>true
 |_+1,[]=>true
 |f+1,x::t=>
  if x=32 then sD f t
  else if bU (x::t)≠[]then sD f ((x::t).drop (bU (x::t)).length)
  else match gj (x::t) [] [] false 0 with
   |none=>false
   |some (_,n)=>if n=0 then false else sD f ((x::t).drop n)
theorem gL:∀(f g:Nat) (r:List UInt8),r.length<f→r.length<g→sD f r=sD g r
 |0,_,_,h,_=>by omega
 |_,0,_,_,h=>by omega
 |f+1,g+1,[],_,_=>rfl
 |f+1,g+1,x::t,h1,h2=>by
  rw[av]at h1 h2;unfold sD;split
  ·exact gL f g t (by omega) (by omega)
  ·split
   ·rename_i hs;have:=gw hs;rw[gL f g _ (by rw[aZ,av];omega) (by rw[aZ,av];omega)]
   ·split
    ·rfl
    ·split
     ·rfl
     ·rename_i hn;rw[gL f g _ (by rw[aZ,av];omega) (by rw[aZ,av];omega)]
def ki(r:List UInt8):Bool:=sD (r.length+1) r
theorem w4{t:List UInt8}:ki (32::t)=ki t:=by
 unfold ki;rw[sD,ac rfl]
 exact gL _ _ _ (by rw[av];omega) (by omega)
theorem qL{x:UInt8}{t:List UInt8}(hx:x≠32)(hs:bU (x::t)≠[]):ki (x::t)=ki ((x::t).drop (bU (x::t)).length):=by
 have:=gw hs
 unfold ki;rw[sD,ab hx,ac hs,gL _ _ _ ?_ (aA _)]
 rw[aZ,av];omega
theorem Bx{x:UInt8}{t:List UInt8}{ps:List Pc}{n:Nat}(hx:x≠32)(hs:bU (x::t)=[])(hr:gj (x::t) [] [] false 0=some (ps,n))(hn:n≠0):ki (x::t)=ki ((x::t).drop n):=by
 unfold ki;rw[sD,ab hx,ab (fun h=>h hs),hr]
 dsimp only
 rw[ab hn,gL _ _ _ ?_ (aA _)]
 rw[aZ,av];omega
theorem qK{x:UInt8}{t:List UInt8}(hx:x≠32)(hs:bU (x::t)=[])(hr:∀ps n,gj (x::t) [] [] false 0=some (ps,n)→n=0):ki (x::t)=false:=by
 unfold ki;rw[sD,ab hx,ab (fun h=>h hs)]
 split
 ·rfl
 ·rename_i ps n h;rw[ac (hr ps n h)]
theorem kS(l:List UInt8):(bU l).length≤l.length:=by
 match l with
 |[]=>exact ag _
 |[a]=>rw[S3];split<;>simp
 |a::b::r=>rw[vR];split
           ·simp
           ·split<;>simp
theorem qJ:∀(f:Nat) (r:List UInt8) (i:Nat),(sX f r i).length≤r.length
 |0,_,_=>aB _
 |_+1,[],_=>ag _
 |f+1,x::t,i=>by
  unfold sX;split
  ·have:=qJ f t (i+1);rw[av];omega
  ·split
   ·rename_i hs;have:=gw hs;have:=qJ f ((x::t).drop (bU (x::t)).length) (i+(bU (x::t)).length);rw[aZ]at this;have:=kS (x::t);simp only[av]at *;omega
   ·split
    ·exact aB _
    ·split
     ·exact aB _
     ·rename_i ps n h hn;have:=qJ f ((x::t).drop n) (i+n);rw[aZ]at this;simp only[av]at *;omega
theorem NT(r:List UInt8)(i:Nat):(tk r i).length≤r.length:=qJ _ _ _
abbrev aS3(u:List (Option V))(x0 x1 x5:V):T:=(.n (.n (.n (aQ u 31 15 47 7 39 23 55) (uO u 3) (aQ u 35 19 51 11 43 27 59)) (some x1) (.n (aQ u 33 17 49 9 41 25 57) (some x5) (aQ u 37 21 53 13 45 29 61))) (some x0) (.n (.n (aQ u 32 16 48 8 40 24 56) (uO u 4) (aQ u 36 20 52 12 44 28 60)) (uO u 2) (.n (aQ u 34 18 50 10 42 26 58) (uO u 6) (aQ u 38 22 54 14 46 30 62))))
def TH:CC:=(.reg [(qq a4 (.mv xF))])
def TI:CC:=(.reg [(qq a5 (.mv (x6 0)))])
def TJ:CC:=(.reg [(qq a8 (.mv z5)),(qq a9 (.mv z0)),(qq dX (.ln .str z9)),(qq fy (.bi .lss z8 gc))])
def TL:CC:=(.reg [(qq fR (.mv z0)),(qq fc (.mv z5)),(qq gQ (.ixS eX ey)),(qq eN (.bi .eql iH (.c (.i .u8 32))))])
def TM:CC:=(.reg [(qq iw (.mv z5)),(qq gk (.bi .add jP (x6 1))),(qq a5 (.mv gH))])
def TN:CC:=(.cond iq (.seq TM (.exit 1)) .skip)
def TO:CC:=(.reg [(qq gS (.mv z0)),(qq lj (.mv z5)),(qq ke (.slS ir (some lQ) none)),(ee gT (.call 55 [mR])),(qq lL (.bld [(.s 0 0),.l0] [(0,1,oc)])),(aa a6 (.al 59 [(.s 0 0),.l0])),(ez (.st 2 z6 og)),(qq a7 (.mv (x6 0)))])
def TP:CC:=(.reg [(qq kl (.fa 0 z6)),(qq kf (.ld1 mW)),(qq mS (.ln .str pf)),(qq a7 (.mv qQ))])
def TQ:CC:=(.reg [(qq mg (.mv z7)),(qq iU (.bi .eql qx (x6 0)))])
def HR:CC:=(.reg [(qq ll (.mv z0)),(qq mh (.mv z5)),(qq mU (.slS sN (some sY) none)),(ee sQ (.call 56 [sZ])),(qq mT (.mv wy)),(qq sR (.ex 0 qR)),(qq qz (.ex 1 qR)),(qq lM (.fa 1 z6)),(ez (.st 1 we wz)),(qq a7 (.mv wA))])
def HS:CC:=(.seq TQ (.cond qy HR .skip))
def HT:CC:=(.reg [(qq tA (.mv z7)),(qq pS (.bi .eql yO (x6 0))),(qq mV (.mv uz)),(aK ou (.mv z1) mV),(aK tB (.mv z5) mV),(aK t4 (.ldn 2 z6) mV),(mw tC (.cv wB [yP,wg]) mV),(aK tD (.un .not yQ) mV),(qq qX (.pk wf xT yR))])
def HU:CC:=(.reg [(qq a4 (.mv xF))])
def HV:CC:=(.cond wC (.seq HU .ret) .skip)
def HW:CC:=(.reg [(qq uJ (.mv z5)),(qq ow (.mv z7)),(qq uK (.bi .add zc DO)),(qq a5 (.mv zd))])
def HX:CC:=(.seq (.seq TP HS) (.seq (.seq HT HV) HW))
def HY:CC:=(.seq (.seq TJ (.cond eg .skip (.exit 0))) (.block 1 (.seq (.seq TL TN) (.seq TO HX))))
def HZ:CC:=(.reg [(qq a4 (.mv xT))])
def I0:CC:=(.seq TI (.seq (.block 0 (.loop HY)) (.seq HZ .ret)))
def XZ:CF:= .mk 6 [.t a4] (.seq TH I0)
theorem e28(v0 v1:V):bz 6 [v0,v1]=(.n (.n jY (some v1) jY) (some v0) Bp):=rfl
def G6:=ai @e28 (ai (wu TH.eq_1) (ai (wu TI.eq_1) (ai (wu TJ.eq_1) (ai (wu TL.eq_1) (ai (wu TM.eq_1) (ai (wu TN.eq_1) (ai (wu TO.eq_1) (ai (wu TP.eq_1) (ai (wu TQ.eq_1) (ai (wu HR.eq_1) (ai (wu HS.eq_1) (ai (wu HT.eq_1) (ai (wu HU.eq_1) (ai (wu HV.eq_1) (ai (wu HW.eq_1) (ai (wu HX.eq_1) (ai (wu HY.eq_1) (ai (wu HZ.eq_1) (wu I0.eq_1)))))))))))))))))))
def UA:CC:=(.reg [(qq a3 (.ld1 z1)),(qq a4 (.mv z0)),(ee a5 (.call 28 [z3,z4]))])
def c43:CF:= .mk 3 [] UA
theorem e43(v0 v1:V):bz 3 [v0,v1]=(.n (.n sk1 (some v1) sk1) (some v0) mL):=rfl
def B43:=ai @e43 (wu UA.eq_1)
def Tt:CC:=(.reg [(aa a1 (.bx 9 1 z0)),(qq a2 (.mv (.c .f0)))])
def Tu:CC:=(.reg [(qq a3 (.mkf 43 [] [z1])),(qq a2 (.mv z3))])
def c20:CF:= .mk 3 [.t a2] (.seq Tt (.seq Tu .ret))
theorem e20(v0:V):bz 3 [v0]=(.n mL (some v0) mL):=rfl
def B20:=ai @e20 (ai (wu Tt.eq_1) (wu Tu.eq_1))
theorem r20(Φ:Nat→Option CF)(h:Φ 20=some c20){F:RO}{M:Mem}{c:Nat}(ok:cV F M c)(l:List UInt8):
 Calls Φ F 20 [sV l] M c fun r M' c'=>∃pb,r= .f 43 [] [.p pb 0]∧c≤pb∧pb<c'∧M'.get pb=some (af 9 [sV l])∧Gr c M c' M':=by
 refine aI h ?_
 have hg:=fun x=>(Gr.refl ok).set c x (ag _) (aA _) (aP _)
 have fS:flatten (sV l)=[sV l]:=rfl
 have aS:aC [sV l]=true:=rfl
 simp only[WX,B20,fS,aS]
 exact⟨_,rfl,ag _,aA _,am _ _ _,hg _⟩
theorem aR4(Φ:Nat→Option CF)(h:Φ 28=some XZ)(h56:Φ 56=some Qo)(h55:Φ 55=some (.orc (aN h55)))(h73:Φ 73=some (.orc (aN h73)))(h75:Φ 75=some (.orc (aN h75)))(h76:Φ 76=some (.orc (aN h88)))(h77:Φ 77=some (.orc (aN h77)))(h74:Φ 74=some Gd){F:RO}{M:Mem}{c:Nat}{yv:V}{s:List UInt8}(hs:s.length≤400000){I:Nat→Mem→Nat→Prop}{J:Mem→Nat→Prop}(h0:I 0 M c)
 (hOk:∀k M1 c1,I k M1 c1→cV F M1 c1∧c≤c1) (hGr:∀k M1 c1 M2 c2,I k M1 c1→Gr c1 M1 c2 M2→I k M2 c2)
 (hY:∀k M1 c1 pv b,(hk:k<(tk s 0).length)→I k M1 c1→bF pv=true→bm M1 c c1 b 64 2 pv (kL (tk s 0)[k].2.2)→kc (iy (K Φ none 28 F) yv [.i .i64 ((tk s 0)[k].1:Int),.g [sV (tk s 0)[k].2.1,pv]] M1 c1) fun r M' c'=>(r= .b true∧I (k+1) M' c')∨(r= .b false∧J M' c')):
 Calls Φ F 28 [sV s,yv] M c fun r M' c'=>(r= .b (ki s)∧I (tk s 0).length M' c')∨(r= .b false∧J M' c'):=by
 refine aI h ?_
 simp only[WX,G6]
 obtain⟨Iv,hIv⟩:∃Iv:Nat→St→Prop,∀n s',Iv n s'↔(∃(i k:Nat) (M1:Mem) (c1:Nat) (u:List (Option V)),n=s.length-i∧i≤s.length∧k≤(tk s 0).length∧s'= .mk ((aS3 u (sV s) yv (.i .i64 (i:Int)))) [] M1 c1∧tk (s.drop i) i=(tk s 0).drop k∧I k M1 c1∧ki s=ki (s.drop i)):=⟨fun n s'=>_,fun _ _=>Iff.rfl⟩
 refine bT Iv ?_ s.length _ ((hIv _ _).2 ⟨0,0,_,_,(G2 (X2 (X1 (G1 (cP (cw (X8 (X1 [])))))))),rfl,aB _,aB _,rfl,rfl,h0,rfl⟩)
 intro n s' hIs
 obtain⟨i,k,M1,c1,u,rfl,hi,hk,rfl,hpre,hik,hto⟩:=(hIv _ _).1 hIs
 clear hIs
 obtain⟨ok1,hc1⟩:=hOk _ _ _ hik
 have hF:∀w,flatten (sV w)=[sV w]:=fun _=>rfl
 have hO:∀w,bF (sV w)=true:=fun _=>rfl
 have FIN:tk (s.drop i) i=[]→k=(tk s 0).length:=by
  intro ht;rw[ht]at hpre;have:=List.drop_eq_nil_iff.1 hpre.symm;omega
 by_cases hlt:i<s.length
 ·have d1:decide ((i:Int)<(s.length:Int))=true:=aj (by omega);have hix:vv (sV s) (.i .i64 (i:Int))=some (.i .u8 ((s[i]).toNat:Int)):=EQ s .i64 i hlt;have hdr:s.drop i=s[i]::s.drop (i+1):=cF hlt;have hsl:vT (sV s) (some (.i .i64 (i:Int))) none=some (sV (s[i]::s.drop (i+1))):=by rw[←hdr];exact Dr s .i64 i hi
  have hsg:=Mb (s[i]::s.drop (i+1));rw[Ns]at hsg;have hxn:∀k:UInt8,decide (((s[i]).toNat:Int)=(k.toNat:Int))=decide (s[i]=k):=fun k=>by congr 1;exact propext ⟨fun e=>UInt8.toNat_inj.1 (by omega),fun e=>by rw[e]⟩
  have x32:=hxn 32;simp only[UInt8.reduceToNat,Int.cast_ofNat_Int]at x32;clear hxn;by_cases h32:s[i]=32
  ·rw[aj h32]at x32;have q1:du .add (.i .i64 (i:Int)) (.i .i64 1)=some (.i .i64 ((i+1:Nat):Int)):=by rw[bJ _ _ (by omega) (by omega)];simp
   simp only[WX,reduceCtorEq,G6,d1,hix,x32,q1];exact⟨s.length-(i+1),by omega,(hIv _ _).2 ⟨i+1,k,M1,c1,(G2 (X2 (X1 (G1 (cP (cw (X8 (X1 [])))))))),rfl,hlt,hk,rfl,by rw[←hpre,hdr,h32,DA],hik,by rw[hto,hdr,h32,w4]⟩⟩
  ·rw[ak h32]at x32;have fS:=hF;have a2:∀w v,bF v=true→aC [sV w,v]=true:=fun w v hv=>by rw[aE,aE,ce,hv];rfl
   by_cases hsn:bU (s[i]::s.drop (i+1))=[]
   ·rw[hsn]at hsg;have d0:decide (((([]:List UInt8).length:Nat):Int)=0)=true:=rfl;have e0:sV []=V.s 0 0:=rfl;simp only[WX,Nat.reduceAdd,Nat.reduceLeDiff,G6,d1,hix,x32,hsl,h55,hsg,hF,hO,Int.ofNat_zero];have gX:=(Gr.refl ok1).set c1 (af 59 [sV [],V.l0]) (ag _) (aA _) (aP _);have okX:=gX.ok ok1;refine aw ((r56 Φ h56 h55 h73 h75 h76 h77 h74 okX (s[i]::s.drop (i+1)) (by rw[←hdr,aZ];omega)).mono ?_);rintro r M2 c2 ⟨hwd,g2⟩;have hG:∀v,flatten (V.g [v])=[v]:=fun _=>rfl;have m1:=(g2.old c1 (by omega)).trans (am M1 c1 (af 59 [sV [],V.l0]));have hle2:=g2.le;rcases hwd with⟨ps,n,v2,hrd,hn,rfl,b2,hA2⟩|⟨hrd,rfl⟩
    ·obtain⟨w1,w2,w3⟩:=jn hA2;have st1:=aH m1 1 [v2] (by simp) w3;have gF:Gr c1 M1 c2 (M2.set c1 (af 59 (over [sV [],V.l0] 1 [v2]))):=(gX.trans g2).set c1 _ (ag _) (by omega) (ag _);have ldx:=bc (F:=F) (am M2 c1 (af 59 [sV [],v2])) 2 rfl;have hov:over [sV [],V.l0] 1 [v2]=[sV [],v2]:=rfl;rw[hov]at st1 gF;by_cases hn0:n=0
     ·have dn:decide ((n:Int)=0)=true:=aj (by omega);simp only[WX,G6,hG,st1,dn];exact .inl ⟨by rw[hto,hdr,qK h32 hsn (fun ps' n' e=>by rw[hrd]at e;injection e with e;injection e with e1 e2;omega)],FIN (by rw[hdr];exact NS i h32 hsn (fun ps' n' e=>by rw[hrd]at e;injection e with e;injection e with e1 e2;omega))▸hGr _ _ _ _ _ hik gF⟩
     ·have dn:decide ((n:Int)=0)=false:=ak (by omega);obtain⟨j,hj⟩:∃j,j=i+n:=⟨_,rfl⟩
      have hjl:j≤s.length:=by rw[←hdr,aZ]at hn;omega
      have q2:du .add (.i .i64 (i:Int)) (.i .i64 (n:Int))=some (.i .i64 (j:Int)):=by rw[bJ _ _ (by omega) (by omega),hj];simp
      have ht:=NU i h32 hsn hrd hn0;rw[←hdr,hpre,List.drop_drop,←hj]at ht;have hklt:k<(tk s 0).length:=by
       by_cases hh:k<(tk s 0).length
       ·exact hh
       ·rw[List.drop_eq_nil_of_le (by omega)]at ht;cases ht
      rw[cF hklt]at ht;injection ht with g1 g2'
      have hy:=hY k _ c2 v2 b2 hklt (hGr _ _ _ _ _ hik gF) w1 (by rw[g1];exact Ca (kp hA2 (by omega)) (by omega));rw[g1]at hy;simp only[WX,G6,hG,st1,dn,ldx];refine aw (hy.mono ?_);rintro b M3 c3 (⟨rfl,hi3⟩|⟨rfl,hj3⟩)
      ·simp only[WX,G6,q2];exact⟨s.length-j,by omega,(hIv _ _).2 ⟨j,k+1,M3,c3,(G2 (X2 (X1 (G1 (cP (cw (X8 (X1 [])))))))),rfl,hjl,hklt,rfl,g2'.symm,hi3,by rw[hto,hdr,Bx h32 hsn hrd hn0,hj,←hdr,List.drop_drop]⟩⟩
      ·simp only[WX,G6];exact .inr hj3
    ·have st1:=aH m1 1 [V.l0] (by simp) rfl;have gF:Gr c1 M1 c2 (M2.set c1 (af 59 (over [sV [],V.l0] 1 [V.l0]))):=(gX.trans g2).set c1 _ (ag _) (by omega) (ag _);have dn:decide ((0:Int)=0)=true:=rfl;simp only[WX,Nat.reduceAdd,G6,hG,st1];exact .inl ⟨by rw[hto,hdr,qK h32 hsn (fun ps' n' e=>by rw[hrd]at e;cases e)],FIN (by rw[hdr];exact NS i h32 hsn (fun ps' n' e=>by rw[hrd]at e;cases e))▸hGr _ _ _ _ _ hik gF⟩
   ·have dg:decide (((bU (s[i]::s.drop (i+1))).length:Int)=0)=false:=ak (by have:=gw hsn;omega);simp only[WX,Nat.reduceAdd,Nat.reduceLeDiff,G6,d1,hix,x32,hsl,h55,hsg,hF,hO,dg];have gX:=(Gr.refl ok1).set c1 (af 59 [sV (bU (s[i]::s.drop (i+1))),V.l0]) (ag _) (aA _) (aP _);obtain⟨j,hj⟩:∃j,j=i+(bU (s[i]::s.drop (i+1))).length:=⟨_,rfl⟩
    have hgl:=kS (s[i]::s.drop (i+1));have hgp:=gw hsn;have hjl:j≤s.length:=by rw[←hdr,aZ,hdr]at hgl;omega
    have q2:du .add (.i .i64 (i:Int)) (.i .i64 ((bU (s[i]::s.drop (i+1))).length:Int))=some (.i .i64 (j:Int)):=by rw[bJ _ _ (by omega) (by omega),hj];simp
    have ht:=w6 i h32 hsn;rw[←hj,show(s[i]::s.drop (i+1)).drop (bU (s[i]::s.drop (i+1))).length=s.drop j from by rw[hj,←hdr,List.drop_drop]]at ht;have ht2:=hpre;rw[hdr,ht]at ht2;have hklt:k<(tk s 0).length:=by
     by_cases hh:k<(tk s 0).length
     ·exact hh
     ·rw[show(tk s 0).drop k=[]from List.drop_eq_nil_of_le (by omega)]at ht2;cases ht2
    rw[cF hklt]at ht2;injection ht2 with g1 g2'
    have hy:=hY k _ (c1+1) .l0 0 hklt (hGr _ _ _ _ _ hik gX) rfl (by rw[←g1];exact bm.nil);rw[←g1]at hy;refine aw (hy.mono ?_);rintro b M3 c3 (⟨rfl,hi3⟩|⟨rfl,hj3⟩)
    ·simp only[WX,G6,q2];exact⟨s.length-j,by omega,(hIv _ _).2 ⟨j,k+1,M3,c3,(G2 (X2 (X1 (G1 (cP (cw (X8 (X1 [])))))))),rfl,hjl,hklt,rfl,g2',hi3,by rw[hto,hdr,qL h32 hsn,hj,←hdr,List.drop_drop]⟩⟩
    ·simp only[WX,G6];exact .inr hj3
 ·obtain rfl:i=s.length:=by omega
  have d1:decide ((s.length:Int)<(s.length:Int))=false:=ak (by omega);simp only[WX,G6,d1];exact .inl ⟨by rw[hto,cZ];rfl,FIN (by rw[cZ];rfl)▸hik⟩
theorem r28(Φ:Nat→Option CF)(h:Φ 28=some XZ)(h56:Φ 56=some Qo)(h55:Φ 55=some (.orc (aN h55)))(h73:Φ 73=some (.orc (aN h73)))(h75:Φ 75=some (.orc (aN h75)))(h76:Φ 76=some (.orc (aN h88)))(h77:Φ 77=some (.orc (aN h77)))(h74:Φ 74=some Gd){F:RO}{M:Mem}{c y:Nat}{s:List UInt8}(hs:s.length≤400000){I:Nat→Mem→Nat→Prop}{J:Mem→Nat→Prop}(h0:I 0 M c)
 (hOk:∀k M1 c1,I k M1 c1→cV F M1 c1∧c≤c1) (hGr:∀k M1 c1 M2 c2,I k M1 c1→Gr c1 M1 c2 M2→I k M2 c2)
 (hY:∀k M1 c1 pv b,(hk:k<(tk s 0).length)→I k M1 c1→bF pv=true→bm M1 c c1 b 64 2 pv (kL (tk s 0)[k].2.2)→kc (iy (K Φ none 28 F) (.y y) [.i .i64 ((tk s 0)[k].1:Int),.g [sV (tk s 0)[k].2.1,pv]] M1 c1) fun r M' c'=>(r= .b true∧I (k+1) M' c')∨(r= .b false∧J M' c')):
 Calls Φ F 28 [sV s,.y y] M c fun _ M' c'=>I (tk s 0).length M' c'∨J M' c':=by
 refine(aR4 Φ h h56 h55 h73 h75 h76 h77 h74 hs h0 hOk hGr hY).mono ?_
 rintro r M' c' (⟨_,h1⟩|⟨_,h1⟩)
 ·exact .inl h1
 ·exact .inr h1
theorem r43(Φ:Nat→Option CF)(h:Φ 43=some c43)(h28:Φ 28=some XZ)(h56:Φ 56=some Qo)(h55:Φ 55=some (.orc (aN h55)))(h73:Φ 73=some (.orc (aN h73)))(h75:Φ 75=some (.orc (aN h75)))(h76:Φ 76=some (.orc (aN h88)))(h77:Φ 77=some (.orc (aN h77)))(h74:Φ 74=some Gd){F:RO}{M:Mem}{c y pb:Nat}{s:List UInt8}(hs:s.length≤400000)(hb:M.get pb=some (af 9 [sV s])){I:Nat→Mem→Nat→Prop}{J:Mem→Nat→Prop}(h0:I 0 M c)
 (hOk:∀k M1 c1,I k M1 c1→cV F M1 c1∧c≤c1) (hGr:∀k M1 c1 M2 c2,I k M1 c1→Gr c1 M1 c2 M2→I k M2 c2)
 (hY:∀k M1 c1 pv b,(hk:k<(tk s 0).length)→I k M1 c1→bF pv=true→bm M1 c c1 b 64 2 pv (kL (tk s 0)[k].2.2)→kc (iy (K Φ none 28 F) (.y y) [.i .i64 ((tk s 0)[k].1:Int),.g [sV (tk s 0)[k].2.1,pv]] M1 c1) fun r M' c'=>(r= .b true∧I (k+1) M' c')∨(r= .b false∧J M' c')):
 Calls Φ F 43 [.y y,.p pb 0] M c fun _ M' c'=>I (tk s 0).length M' c'∨J M' c':=by
 refine aI h ?_
 have hld:load1 F M pb 0=some (sV s):=aq hb 0
 simp only[WX,B43,hld]
 refine aw ((r28 Φ h28 h56 h55 h73 h75 h76 h77 h74 hs h0 hOk hGr hY).mono ?_)
 rintro r M' c' hr
 simp only[WX]
 exact hr
theorem CR{F:RO}{M:Mem}{c:Nat}{v:V}{ps:List Pc}(h:cq F M c 2 v (kL ps))(i:Nat)(hi:i<ps.length):∃b o,b<c∧(∀k,j6 2 v (.i k (i:Int))=some (.p b o))∧loadN F M b o 2=some (Fb ps[i]):=by
 obtain⟨b,o,h1,h2,h3⟩:=h.at i (by rw[eM];exact hi)
 have e:(kL ps)[i]'(by rw[eM];exact hi)=Fb ps[i]:=by simp[kL]
 rw[e]at h3
 exact⟨b,o,h1,h2,h3.load (by simp[Fb])⟩
def Wo:CC:=(.reg [(qq a2 (.mv z0)),(qq a3 (.nck z2)),(qq a4 (.fa 0 z3)),(qq a5 (.ld1 z4)),(qq a6 (.eq false .ptr true z5 (.c .p0)))])
def Wq:CC:=(.reg [(qq a7 (.mv z0)),(qq a8 (.mv z0)),(qq a9 (.up z8)),(qq dX (.mv z9)),(qq fy (.dn 99 2 gc)),(qq fR (.nck z7)),(qq fc (.fa 0 eX)),(ez (.st 1 ey eg))])
def Wr:CC:=(.reg [(qq gQ (.mv z0)),(qq eN (.nck iH)),(qq iw (.fa 0 iq)),(qq gk (.ld1 jP)),(qq gS (.mv z0)),(qq lj (.eq true .ptr false gH ir))])
def Ws:CC:=(.cond z6 Wq (.seq Wr (.cond lQ .bad .skip)))
def tJ:CF:= .mk 5 [] (.seq Wo Ws)
theorem e71(v0:V):bz 5 [v0]=(.n jY (some v0) jY):=rfl
def B71:=ai @e71 (ai (wu Wo.eq_1) (ai (wu Wq.eq_1) (ai (wu Wr.eq_1) (wu Ws.eq_1))))
def Xj:CC:=(.dreg 16 [(0,0,(qq a5 (.mv z0))),(1,1,(qq a6 (.nck z5))),(2,3,(qq a7 (.fa 1 z6))),(3,7,(qq a8 (.ld1 z7))),(4,15,(qq a9 (.cp z8))),(5,31,(qq dX (.bi .mul (x6 2) z9))),(6,0,(qq fy (.mv z1))),(7,127,(qq fR (.bi .add gc eg))),(8,255,(aa fc (.nz 5 eX))),(9,0,(qq gQ (.mv z0))),(10,512,(qq eN (.nck iH))),(11,1536,(qq iw (.fa 1 iq))),(12,3584,(qq gk (.ld1 jP))),(13,7680,(qq gS (.ln .slice gH))),(14,16383,(qq lj (.slL 1 ey none (some ir) none))),(15,32767,(qq a4 (.mv lQ)))])
def Xk:CC:=(.reg [(qq ke (.mv z4)),(qq gT (.mv z0)),(qq lL (.nck oc)),(qq kl (.fa 1 og)),(qq kf (.ld1 mW)),(ee mS (.cpy 1 mR pf))])
def Xl:CC:=(.reg [(qq mg (.mv z0)),(qq iU (.mv z4)),(qq mT (.nck qx)),(qq ll (.fa 1 qR)),(ez (.st 1 sN qy))])
def Gf:CF:= .mk 5 [] (.seq Xj (.seq Xk Xl))
theorem e89(v0 v1:V):bz 5 [v0,v1]=(.n (.n iE (some v1) iE) (some v0) jY):=rfl
def B89:=ai @e89 (ai (wu Xj.eq_1) (ai (wu Xk.eq_1) (wu Xl.eq_1)))
def WR:CC:=(.reg [(qq a4 (.mv z0)),(ee a5 (.call 71 [z4]))])
def WT:CC:=(.reg [(qq a6 (.mv z1)),(qq a7 (.bi .lss z6 (x6 0)))])
def WU:CC:=(.reg [(qq a8 (.mki 9 (.c (.s 36 226187813140227768008177986391742176399534891738691412630441701833056540972817830802547)))),⟨none,.q (.bad),none⟩])
def WV:CC:=(.dreg 13 [(0,0,(qq a9 (.mv z0))),(1,1,(qq dX (.nck z9))),(2,3,(qq fy (.fa 1 gc))),(3,7,(qq fR (.ld1 eg))),(4,15,(qq fc (.cp eX))),(5,0,(qq gQ (.mv z0))),(6,32,(qq eN (.nck iH))),(7,96,(qq iw (.fa 1 iq))),(8,224,(qq gk (.ld1 jP))),(9,480,(qq gS (.ln .slice gH))),(10,1023,(qq lj (.bi .sub ey ir))),(11,0,(qq ke (.mv z1))),(12,4095,(qq gT (.bi .lss lQ mR)))])
def WW:CC:=(.reg [(qq lL (.mv z0)),(qq kl (.mv z1)),(ee kf (.call 89 [og,mW]))])
def WY:CC:=(.seq WV (.cond oc WW .skip))
def WZ:CC:=(.seq (.seq WT (.cond z7 WU .skip)) WY)
def Li:CF:= .mk 5 [] (.seq WR WZ)
theorem e79(v0 v1:V):bz 5 [v0,v1]=(.n (.n iE (some v1) iE) (some v0) jY):=rfl
def B79:=ai @e79 (ai (wu WR.eq_1) (ai (wu WT.eq_1) (ai (wu WU.eq_1) (ai (wu WV.eq_1) (ai (wu WW.eq_1) (ai (wu WY.eq_1) (wu WZ.eq_1)))))))
def V8:CC:=(.reg [(qq a4 (.mv (x6 0))),(qq a5 (.mv (.c .a0)))])
def V9:CC:=(.reg [(qq a6 (.mv z0)),(ee a7 (.call 71 [z6]))])
def Va:CC:=(.reg [(qq a8 (.mv z0)),(qq a9 (.mv z0)),(qq dX (.nck z9)),(qq fy (.fa 1 gc)),(qq fR (.ld1 eg)),(qq fc (.mv z1)),(ee gQ (.app 5 1 1 eX ey)),(qq eN (.nck z8)),(qq iw (.fa 1 iq)),(ez (.st 1 jP iH))])
def Vb:CC:=(.reg [(qq gk (.mv z1)),(qq gS (.ln .str gH)),(qq a4 (.mv ir)),(qq a5 (.mv (.c .a0)))])
def wp:CF:= .mk 5 [.t a4,.t a5] (.seq V8 (.seq V9 (.seq Va (.seq Vb .ret))))
theorem e52(v0 v1:V):bz 5 [v0,v1]=(.n (.n iE (some v1) iE) (some v0) jY):=rfl
def B52:=ai @e52 (ai (wu V8.eq_1) (ai (wu V9.eq_1) (ai (wu Va.eq_1) (wu Vb.eq_1))))
def Vc:CC:=(.dreg 12 [(0,0,(qq a3 (.mv z0))),(1,1,(qq a4 (.nck z3))),(2,3,(qq a5 (.fa 1 z4))),(3,7,(qq a6 (.ld1 z5))),(4,15,(qq a7 (.sd z6))),(5,0,(qq a8 (.mv z0))),(6,32,(qq a9 (.nck z8))),(7,96,(qq dX (.fa 1 z9))),(8,224,(qq fy (.ld1 gc))),(9,480,(qq fR (.ln .slice eg))),(10,1023,(ee fc (.us 5 z7 eX))),(11,2047,(qq a2 (.mv ey)))])
def Vd:CC:=(.seq (.reg [(qq a2 (.mv (.c (.s 0 0))))]) (.seq Vc .ret))
def wq:CF:= .mk 4 [.t a2] Vd
theorem e54(v0:V):bz 4 [v0]=(.n iE (some v0) iE):=rfl
def B54:=ai @e54 (ai (wu Vc.eq_1) (wu Vd.eq_1))
def jQ(M:Mem)(c0 c b bb:Nat)(l:List UInt8):Prop:=
 c0≤b∧b<c∧b≠bb∧ ∃a v,M.get b=some (af 99 [a,v])∧(a= .p0∨a= .p b 0)∧pg M c0 c bb v l
theorem jQ.up{M M':Mem}{c0 c c' b bb:Nat}{l:List UInt8}(h:jQ M c0 c b bb l)(hc:c≤c')(hb:∀x,x<c→M'.get x=M.get x):jQ M' c0 c' b bb l:=by
 obtain⟨h1,h2,h1003,a,v,h1004,h1005,h1006⟩:=h
 exact⟨h1,by omega,h1003,a,v,by rw[hb b h2];exact h1004,h1005,h1006.up hc (hb bb)⟩
theorem aa6{F:RO}(lit:Bool)(M:Mem):tW F M .ptr lit .p0 .p0=some true:=Eq.trans rfl (Eq.refl _)
theorem aa7{F:RO}(lit:Bool)(M:Mem)(b o:Nat):tW F M .ptr lit (.p b o) .p0=some false:=Eq.trans rfl (Eq.refl _)
theorem aa8{F:RO}(lit:Bool)(M:Mem)(b o:Nat):tW F M .ptr lit (.p b o) (.p b o)=some true:=by
 show xZ F M b o b o=_
 unfold xZ
 rw[bI,aj rfl,cond_true,Nat.beq_refl]
theorem Ci{M:Mem}{c0 c b:Nat}{v:V}{l:List UInt8}(h:pg M c0 c b v l):bF v=true∧flatten v=[v]∧sU v=some (.i .i64 (l.length:Int)):=by
 rcases h with⟨rfl,rfl⟩|⟨_,_,n,_,rfl,_⟩
 ·exact⟨rfl,rfl,AC⟩
 ·exact⟨rfl,rfl,Mx _ _ _ _ _⟩
theorem r71(Φ:Nat→Option CF)(h:Φ 71=some tJ){F:RO}{M:Mem}{c b:Nat}{a v:V}(hM:M.get b=some (af 99 [a,v]))(ha:a= .p0∨a= .p b 0):
 Calls Φ F 71 [.p b 0] M c fun _ M' c'=>M'=M.set b (af 99 [.p b 0,v])∧c'=c:=by
 refine aI h ?_
 have l0:load1 F M b 0=some a:=aq hM 0
 rcases ha with rfl|rfl
 ·have hu:upV F M (.p b 0)=some (.p b 0):=Sk hM (by simp);have hd:dnV 99 2 F M (.p b 0)=some (.p b 0):=QC hM;have hst:=aH hM 0 [.p b 0] (by simp) rfl;simp only[WX,B71,ux,iL,l0,aa6,bh1,bg8,hu,hd,hst]
 ·simp only[WX,B71,ux,iL,l0,aa7,aa8];exact d8 hM
theorem r89(Φ:Nat→Option CF)(h:Φ 89=some Gf){F:RO}{M:Mem}{c b:Nat}(ok:cV F M c)(hb:b<c)(hM:M.get b=some (af 99 [.p b 0,.l0]))(n:Nat)(hn:n≤1099511627776):
 Calls Φ F 89 [.p b 0,.i .i64 (n:Int)] M c fun _ M' c'=>M'=(M.set (c+8) (p5 5 n [])).set b (af 99 [.p b 0,.u (c+8) 0 0 0 n])∧c'=c+16:=by
 refine aI h ?_
 have l1:load1 F M b 1=some .l0:=aq hM 1
 have hlk:(look F M (c+8)).isNone=true:=by rw[ok.look (show c≤c+8 by omega)];rfl
 have hne:b≠c+8:=by omega
 have m2:du .mul (.i .i64 2) (.i .i64 0)=some (.i .i64 0):=Cz 2 0 (by omega) (by omega)
 have a2:du .add (.i .i64 0) (.i .i64 (n:Int))=some (.i .i64 (n:Int)):=by rw[bJ _ _ (by omega) (by omega)];simp
 have hsl:tj 1 (.u (c+8) 0 n 0 n) none (some (.i .i64 0)) none=some (.u (c+8) 0 0 0 n):=by
  show(ma 1 (c+8) 0 0 n 0 0).val=_;unfold ma;rw[bW,bW,aj (aB n),aj (aB 0)];show(Yq (c+8) 0 0 0 n).val=_;rw[vA];rfl
 have l2:load1 F (M.set (c+8) (p5 5 n [])) b 1=some .l0:=by rw[xO _ _ _ hne];exact l1
 have hg2:(M.set (c+8) (p5 5 n [])).get b=some (af 99 [.p b 0,.l0]):=by rw[ah _ _ hne];exact hM
 have hst:=aH hg2 1 [.u (c+8) 0 0 0 n] (by simp) rfl
 simp only[WX,Nat.reduceAdd,B89,oD,iL,ux,l1,Lz,Aa,m2,a2,Zz,w8,nN,aO9,hn,hlk,cJ,bu,hne,ne_eq,not_false_eq_true,aa2,hsl,iJ,l2,OL,ZY,hst]
theorem jH{n:Nat}(h:n≤1073741824):kR n 1=true:=gD (by omega) (by omega)
theorem r79(Φ:Nat→Option CF)(h:Φ 79=some Li)(h71:Φ 71=some tJ)(h89:Φ 89=some Gf){F:RO}{M0 M:Mem}{c0 c b:Nat}(ok:cV F M c)(hg:Gr c0 M0 c M)(k1:c0≤b)(k2:b<c)(hM:M.get b=some (af 99 [.p0,.l0]))(n:Nat)(hn:n≤1099511627776):
 Calls Φ F 79 [.p b 0,.i .i64 (n:Int)] M c fun _ M' c'=>∃bb',jQ M' c0 c' b bb' []∧Gr c0 M0 c' M'∧c≤c'∧(∀x,x<c→x≠b→M'.get x=M.get x):=by
 refine aI h ?_
 simp only[WX,B79]
 refine aw ((r71 Φ h71 hM (.inl rfl)).mono ?_)
 rintro v1 M1 c1 ⟨rfl,rfl⟩
 have hg1:=hg.set b (af 99 [.p b 0,.l0]) k1 k2 (ag _)
 have ok1:=ok.put (y:=af 99 [.p b 0,.l0]) k2 hM
 have g1:(M.set b (af 99 [.p b 0,.l0])).get b=some (af 99 [.p b 0,.l0]):=am _ _ _
 have l1:load1 F (M.set b (af 99 [.p b 0,.l0])) b 1=some .l0:=aq g1 1
 have d0:decide ((n:Int)<0)=false:=ak (by omega)
 have s0:du .sub (.i .i64 0) (.i .i64 0)=some (.i .i64 0):=by rw[zT];rfl
 by_cases hz:n=0
 ·have d1:decide ((0:Int)<(n:Int))=false:=ak (by omega);simp only[WX,B79,d0,oD,iL,l1,Lz,Aa,s0,d1];exact⟨c1,⟨k1,by omega,by omega,_,_,g1,.inr rfl,.inl ⟨rfl,rfl⟩⟩,hg1.up (by omega),by omega,fun x hx hxb=>ah _ _ hxb⟩
 ·have d1:decide ((0:Int)<(n:Int))=true:=aj (by omega);simp only[WX,B79,d0,oD,iL,l1,Lz,Aa,s0,d1];have ok2:cV F (M.set b (af 99 [.p b 0,.l0])) (c1+13):=⟨fun x hx=>ok1.hiM x (by omega),fun x hx=>ok1.hiF x (by omega),ok1.ap,by have:=ok1.ge;omega⟩
  refine aw ((r89 Φ h89 ok2 (by omega) g1 n hn).mono ?_);rintro v2 M2 c2 ⟨rfl,rfl⟩;simp only[WX,Nat.reduceAdd];refine⟨c1+13+8,⟨k1,by omega,by omega,_,_,am _ _ _,.inr rfl,.inr ⟨by omega,by omega,n,⟨aB _,by omega⟩,rfl,?_⟩⟩,?_,by omega,fun x hx hxb=>?_⟩
  ·rw[ah _ _ (by omega),am];rfl
  ·exact((hg1.up (show c1≤c1+13 by omega)).set (c1+13+8) _ (by have:=hg.le;omega) (show c1+13+8<c1+13+16 by omega) (by omega)).set b _ k1 (by omega) (by omega)
  ·rw[ah _ _ hxb,ah _ _ (by omega),ah _ _ hxb]
theorem r52(Φ:Nat→Option CF)(h:Φ 52=some wp)(h71:Φ 71=some tJ){F:RO}{M0 M:Mem}{c0 c b bb:Nat}{l:List UInt8}(ok:cV F M c)(hg:Gr c0 M0 c M)(hb:jQ M c0 c b bb l)(s:List UInt8)(hr:kR (l.length+s.length) 1=true):
 Calls Φ F 52 [.p b 0,sV s] M c fun _ M' c'=>∃bb',jQ M' c0 c' b bb' (l++s)∧Gr c0 M0 c' M'∧c≤c'∧(∀x,x<c→x≠b→x≠bb→M'.get x=M.get x)∧(bb'=bb∨c≤bb'):=by
 obtain⟨k1,k2,k3,a,v,hM,ha,hbuf⟩:=hb
 refine aI h ?_
 simp only[WX,B52]
 refine aw ((r71 Φ h71 hM ha).mono ?_)
 rintro v1 M1 c1 ⟨rfl,rfl⟩
 have hg1:=hg.set b (af 99 [.p b 0,v]) k1 k2 (ag _)
 have g1:(M.set b (af 99 [.p b 0,v])).get b=some (af 99 [.p b 0,v]):=am _ _ _
 have l1:load1 F (M.set b (af 99 [.p b 0,v])) b 1=some v:=aq g1 1
 have hbuf1:pg (M.set b (af 99 [.p b 0,v])) c0 c1 bb v l:=by
  rcases hbuf with h|⟨a1,a2,n,a3,a4,a5⟩
  ·exact .inl h
  ·exact .inr ⟨a1,a2,n,a3,a4,by rw[ah _ _ (Ne.symm k3)];exact a5⟩
 simp only[WX,B52,ux,iL,l1]
 refine aw ((ZO (F:=F) (s:=s) hbuf1 hg1 hr).mono ?_)
 rintro v2 M2 c2 ⟨bb',hb2,hg2,hle,hfr,hbb⟩
 have g2:M2.get b=some (af 99 [.p b 0,v]):=by rw[hfr b (by omega) k3];exact g1
 obtain⟨o1,o2,_⟩:=Ci hb2
 have hst:=aH g2 1 [v2] (by simp) (by rw[aE,o1];rfl)
 simp only[WX,Nat.reduceAdd,B52,ux,iL,o2,hst]
 have hne:b≠bb':=by rcases hbb with h|h<;>omega
 refine⟨bb',⟨k1,by omega,hne,_,_,am _ _ _,.inr rfl,?_⟩,hg2.set b _ k1 (by omega) (ag _),hle,fun x hx hxb hxbb=>?_,hbb⟩
 ·rcases hb2 with h|⟨a1,a2,n,a3,a4,a5⟩
  ·exact .inl h
  ·exact .inr ⟨a1,a2,n,a3,a4,by rw[ah _ _ (Ne.symm hne)];exact a5⟩
 ·rw[ah _ _ hxb,hfr x hx hxbb,ah _ _ hxb]
def usE(F:RO)(M:Mem)(c ty:Nat)(x n:V):RC:=LH ty (.c x) (.c n) F M c .e
theorem wc{Φ:Nat→Option CF}{rd:Option Nat}{fn:Nat}{F:RO}(ty:Nat)(x n:X)(M:Mem)(c:Nat)(t:T):eE (.us ty x n) (K Φ rd fn F) M c t=usE F M c ty (x.ev t) (n.ev t):=Eq.trans rfl (Eq.refl _)
theorem aT6{F:RO}(M:Mem)(c ty:Nat):usE F M c ty .p0 (.i .i64 0)= .k (.s 0 0) M c:=Eq.trans rfl (Eq.refl _)
theorem ah9{F:RO}(M:Mem)(c ty b o:Nat):usE F M c ty (.p b o) (.i .i64 0)= .k (.s 0 0) M c:=Eq.trans rfl (Eq.refl _)
theorem Sl{F:RO}{M:Mem}{b n:Nat}(c:Nat){l:List UInt8}(hM:M.get b=some (p5 5 n (l.map bV)))(hn:l.length≤n)(hl:l≠[])(hl2:l.length≤1099511627776):
 ∃y,usE F M c 5 (.p b 0) (.i .i64 (l.length:Int))= .k (sV l) (M.set b y) c:=by
 have hld:=(sa (F:=F) hM (by rw[List.length_map];exact hn)).load (by
  intro e;rw[List.map_eq_nil_iff]at e;exact hl e)
 rw[List.length_map]at hld
 have h0:l.length≠0:=fun e=>hl (List.length_eq_zero_iff.1 e)
 refine⟨.cells 5 n false (if 0≤0+l.length then 0+l.length else 0) false [] (gE (l.map bV)),?_⟩
 show Ct F M c 5 b 0 l.length=_
 unfold Ct
 rw[bI,ak h0,cond_false]
 have ht:O1 M b 5=true:=by unfold O1;rw[hM];rfl
 rw[ht,bW,aj hl2]
 show(match loadN F M b 0 l.length with|some vs=>Cu M c b 0 (fH vs)|none=>RC.f)=_
 rw[hld]
 show Cu M c b 0 (fH (l.map bV))=_
 rw[r9]
 have hf:ly M b 0 l.length=some (M.set b (.cells 5 n false (if 0≤0+l.length then 0+l.length else 0) false [] (gE (l.map bV)))):=by
  unfold ly;rw[hM];show(bif false then none else fN (bif Nat.ble 0 (Nat.add 0 l.length)then Nat.add 0 l.length else 0) fun fz=>some (M.set b (.cells 5 n false fz false [] (gE (l.map bV)))))=_;rw[cond_false,bo,bW];by_cases h:0≤0+l.length
  ·rw[aj (show 0≤Nat.add 0 l.length from h),ac h];rfl
  ·exact absurd (aB _) h
 show(match ly M b 0 l.length with|some M=>fN l.length fun n=>fN (bP l) fun s=>RC.k (.s n s) M c|none=> .f)=_
 rw[hf]
 show(fN l.length fun n=>fN (bP l) fun s=>RC.k (.s n s) _ c)=_
 rw[bo,bo];rfl
theorem r54(Φ:Nat→Option CF)(h:Φ 54=some wq){F:RO}{M0 M:Mem}{c0 c b bb:Nat}{l:List UInt8}(ok:cV F M c)(hg:Gr c0 M0 c M)(hb:jQ M c0 c b bb l)(hl:l.length≤1099511627776):
 Calls Φ F 54 [.p b 0] M c fun r M' c'=>r=sV l∧Gr c0 M0 c' M'∧c≤c'∧(∀x,x≠bb→M'.get x=M.get x):=by
 obtain⟨k1,k2,k3,a,v,hM,ha,hbuf⟩:=hb
 refine aI h ?_
 have l1:load1 F M b 1=some v:=aq hM 1
 obtain⟨o1,o2,o1003⟩:=Ci hbuf
 rcases hbuf with⟨rfl,rfl⟩|⟨a1,a2,n,⟨a3,a4⟩,rfl,a5⟩
 ·have hf:=ok.free;rw[aV]at o1003;simp only[WX,Nat.reducePow,Nat.reduceDiv,Nat.reduceMod,Nat.reduceBEq,il,B54,oD,iL,l1,LA,ag3,o1003,wc,aT6,Int.ofNat_zero,hf];exact⟨rfl,hg.up (by omega),by omega,fun _ _=>trivial⟩
 ·by_cases hl0:l=[]
  ·subst hl0;have hf:=ok.free;rw[aV]at o1003;simp only[WX,Nat.reducePow,Nat.reduceDiv,Nat.reduceMod,Nat.reduceBEq,il,B54,oD,iL,l1,LA,Yx a4,o1003,wc,ah9,Int.ofNat_zero,hf];exact⟨rfl,hg.up (by omega),by omega,fun _ _=>trivial⟩
  ·obtain⟨y,hy⟩:=Sl (F:=F) (c+12) a5 a3 hl0 hl;have hf:bH (M.set bb y) F=true:=(ok.put (y:=y) a2 a5).free;simp only[WX,Nat.reducePow,Nat.reduceDiv,Nat.reduceMod,Nat.reduceBEq,il,B54,oD,iL,l1,LA,Yx a4,o1003,wc,hy,hf];exact⟨(hg.set bb y a1 a2 (ag _)).up (by omega),by omega,fun x hx=>ah _ _ hx⟩
abbrev aS0(u:List (Option V))(x0 x1 x5 x39 x40 x41:V):T:=(.n (.n (.n (.n (aQ u 63 31 95 15 79 47 111) (uO u 7) (.n (.n (dA u 71) (some x39) (dA u 103)) (uO u 23) (ec u 87 55 119))) (uO u 3) (.n (aQ u 67 35 99 19 83 51 115) (uO u 11) (aQ u 75 43 107 27 91 59 123))) (some x1) (.n (.n (aQ u 65 33 97 17 81 49 113) (uO u 9) (.n (.n (dA u 73) (some x41) (dA u 105)) (uO u 25) (ec u 89 57 121))) (some x5) (.n (aQ u 69 37 101 21 85 53 117) (uO u 13) (aQ u 77 45 109 29 93 61 125)))) (some x0) (.n (.n (.n (aQ u 64 32 96 16 80 48 112) (uO u 8) (.n (.n (dA u 72) (some x40) (dA u 104)) (uO u 24) (ec u 88 56 120))) (uO u 4) (.n (aQ u 68 36 100 20 84 52 116) (uO u 12) (aQ u 76 44 108 28 92 60 124))) (uO u 2) (.n (.n (aQ u 66 34 98 18 82 50 114) (uO u 10) (aQ u 74 42 106 26 90 58 122)) (uO u 6) (.n (aQ u 70 38 102 22 86 54 118) (uO u 14) (aQ u 78 46 110 30 94 62 126)))))
abbrev aS1(u:List (Option V))(x0 x1 x8 x63 x64 x65:V):T:=(.n (.n (.n (.n (.n (.n (.n .e (some x63) .e) (uO u 31) (dA u 95)) (uO u 15) (ec u 79 47 111)) (uO u 7) (aQ u 71 39 103 23 87 55 119)) (uO u 3) (.n (aQ u 67 35 99 19 83 51 115) (uO u 11) (aQ u 75 43 107 27 91 59 123))) (some x1) (.n (.n (.n (.n (.n .e (some x65) .e) (uO u 33) (dA u 97)) (uO u 17) (ec u 81 49 113)) (uO u 9) (aQ u 73 41 105 25 89 57 121)) (uO u 5) (.n (aQ u 69 37 101 21 85 53 117) (uO u 13) (aQ u 77 45 109 29 93 61 125)))) (some x0) (.n (.n (.n (.n (.n (.n .e (some x64) .e) (uO u 32) (dA u 96)) (uO u 16) (ec u 80 48 112)) (some x8) (aQ u 72 40 104 24 88 56 120)) (uO u 4) (.n (aQ u 68 36 100 20 84 52 116) (uO u 12) (aQ u 76 44 108 28 92 60 124))) (uO u 2) (.n (.n (aQ u 66 34 98 18 82 50 114) (uO u 10) (aQ u 74 42 106 26 90 58 122)) (uO u 6) (.n (aQ u 70 38 102 22 86 54 118) (uO u 14) (aQ u 78 46 110 30 94 62 126)))))
def VN:CC:=(.reg [(qq a4 (.mv (.c (.s 0 0))))])
def VP:CC:=(.reg [(qq fy (.mv z0)),(qq fR (.ln .slice eg))])
def VQ:CC:=(.reg [(qq gQ (.bi .eql eX (x6 0))),(qq fc (.mv iH))])
def VS:CC:=(.reg [(qq a4 (.mv (.c (.s 0 0))))])
def VT:CC:=(.reg [(qq iw (.bi .eql eX (x6 1))),(qq eN (.mv jP))])
def VU:CC:=(.reg [(qq gk (.mv z0)),(qq gS (.iaS 1 gH (x6 0))),(qq lj (.ld1 ir)),(qq a4 (.mv lQ))])
def VV:CC:=(.seq VT (.cond iq (.seq VU .ret) .skip))
def VW:CC:=(.seq VQ (.cond ey (.seq VS .ret) VV))
def VX:CC:=(.reg [(qq a5 (.mv (x6 0)))])
def K0:CC:=(.reg [(qq ke (.mv z1)),(qq gT (.ln .str mR)),(qq lL (.bi .gtr oc (x6 0)))])
def K1:CC:=(.reg [(qq kl (.mv z1)),(qq kf (.ln .str mW)),(qq mS (.mv z0)),(qq mg (.ln .slice qQ)),(qq iU (.bi .sub qx (x6 1))),(qq mT (.bi .quo (x6 9223372036854775807) qy)),(qq ll (.bi .geq pf qR))])
def K8:CC:=(.reg [(qq mh (.mki 9 (.c (.s 36 232023140547069528372253906381035003553488466437483087989658184371904395368843875349619)))),⟨none,.q (.bad),none⟩])
def Ka:CC:=(.seq K1 (.cond sN K8 .skip))
def Kb:CC:=(.reg [(qq mU (.mv z5)),(qq sQ (.mv z1)),(qq sR (.ln .str wy)),(qq qz (.mv z0)),(qq lM (.ln .slice wA)),(qq tA (.bi .sub we (x6 1))),(qq pS (.bi .mul wz yO)),(qq mV (.bi .add sZ uz)),(qq a5 (.mv wf))])
def Kc:CC:=(.cond og (.seq Ka Kb) .skip)
def Kd:CC:=(.reg [(qq ou (.mv z0)),(qq tB (.ln .slice wB)),(qq t4 (.mv (x6 0)))])
def Ke:CC:=(.reg [(qq tC (.bi .lss wg yP))])
def Kf:CC:=(.reg [(qq tD (.iaS 1 wB wg)),(qq qX (.ld1 yR)),(qq a7 (.mv wC))])
def Kg:CC:=(.reg [(qq uJ (.mv z7)),(qq ow (.ln .str zc)),(qq uK (.mv z5)),(qq wh (.bi .sub (x6 9223372036854775807) zd)),(qq wN (.bi .gtr DO BS))])
def Kh:CC:=(.reg [(qq wO (.mki 9 (.c (.s 36 232023140547069528372253906381035003553488466437483087989658184371904395368843875349619)))),⟨none,.q (.bad),none⟩])
def Ki:CC:=(.seq Kg (.cond FX Kh .skip))
def Kj:CC:=(.reg [(qq wj (.mv z5)),(qq sS (.mv z7)),(qq wP (.ln .str FZ)),(qq BZ (.bi .add BT Gj)),(qq a5 (.mv Gk))])
def Kk:CC:=(.reg [(qq C0 (.bi .add wg (x6 1))),(qq t4 (.mv OQ))])
def Kl:CC:=(.seq (.cond yQ .skip (.exit 1)) (.seq (.block 2 (.seq Kf (.seq Ki Kj))) Kk))
def Km:CC:=(.reg [(aa a8 (.al 99 [.p0,.l0]))])
def Ko:CC:=(.reg [(qq zj (.mv z5)),(ee C2 (.call 79 [z8,G0]))])
def Kq:CC:=(.reg [(qq C3 (.mv z0)),(qq wl (.iaS 1 OR (x6 0))),(qq C4 (.ld1 OS)),(ee wm (.call 52 [z8,OT]))])
def Kr:CC:=(.reg [(qq wn (.mv z0)),(qq wo (.slL 1 OU (some (x6 1)) none none)),(qq C5 (.ln .slice Gl)),(qq zk (.mv (x6 0)))])
def Ks:CC:=(.reg [(qq qY (.bi .lss G3 Pn))])
def Kt:CC:=(.cond Gm .skip (.exit 3))
def Ku:CC:=(.reg [(qq uL (.iaS 1 Gl G3)),(qq zl (.ld1 Gn)),(qq dX (.mv Gp))])
def Kv:CC:=(.reg [(qq zm (.mv z1)),(ee zn (.call 52 [z8,Gq]))])
def Kw:CC:=(.reg [(qq wQ (.mv gc)),(ee yW (.call 52 [z8,G5]))])
def Kx:CC:=(.reg [(qq fA (.bi .add G3 (x6 1))),(qq zk (.mv wD))])
def Ky:CC:=(.seq Kt (.seq (.block 4 (.seq Ku (.seq Kv Kw))) Kx))
def Kz:CC:=(.reg [(ee yX (.call 54 [z8])),(qq a4 (.mv OX))])
def KA:CC:=(.seq (.seq Kr (.block 3 (.loop (.seq Ks Ky)))) (.seq Kz .ret))
def KB:CC:=(.seq (.seq Kd (.block 1 (.loop (.seq Ke Kl)))) (.seq Km (.seq Ko (.seq Kq KA))))
def KC:CC:=(.seq (.seq VP (.block 0 VW)) (.seq VX (.seq (.seq K0 Kc) KB)))
def Gb:CF:= .mk 7 [.t a4] (.seq VN KC)
theorem e60(v0 v1:V):bz 7 [v0,v1]=(.n (.n Bp (some v1) Bp) (some v0) FH):=rfl
def Gu:=ai @e60 (ai (wu VN.eq_1) (ai (wu VP.eq_1) (ai (wu VQ.eq_1) (ai (wu VS.eq_1) (ai (wu VT.eq_1) (ai (wu VU.eq_1) (ai (wu VV.eq_1) (ai (wu VW.eq_1) (ai (wu VX.eq_1) (ai (wu K0.eq_1) (ai (wu K1.eq_1) (ai (wu K8.eq_1) (ai (wu Ka.eq_1) (ai (wu Kb.eq_1) (ai (wu Kc.eq_1) (ai (wu Kd.eq_1) (ai (wu Ke.eq_1) (ai (wu Kf.eq_1) (ai (wu Kg.eq_1) (ai (wu Kh.eq_1) (ai (wu Ki.eq_1) (ai (wu Kj.eq_1) (ai (wu Kk.eq_1) (ai (wu Kl.eq_1) (ai (wu Km.eq_1) (ai (wu Ko.eq_1) (ai (wu Kq.eq_1) (ai (wu Kr.eq_1) (ai (wu Ks.eq_1) (ai (wu Kt.eq_1) (ai (wu Ku.eq_1) (ai (wu Kv.eq_1) (ai (wu Kw.eq_1) (ai (wu Kx.eq_1) (ai (wu Ky.eq_1) (ai (wu Kz.eq_1) (ai (wu KA.eq_1) (ai (wu KB.eq_1) (wu KC.eq_1)))))))))))))))))))))))))))))))))))))))
theorem Dv{F:RO}{M:Mem}{c:Nat}{v:V}{l:List (List UInt8)}(hs:cq F M c 1 v (gb l)):sU v=some (.i .i64 (l.length:Int)):=by
 have:=hs.len;rwa [gb,List.length_map]at this
def dt:List (List UInt8)→Nat
 |[]=>0
 |w::r=>w.length+1+dt r
theorem sv:∀(l:List (List UInt8)) (k:Nat),dt (l.take k)≤dt l
 |[],k=>by rw[List.take_nil];exact ag _
 |w::r,0=>aB _
 |w::r,k+1=>by rw[List.take_succ_cons,dt,dt];have:=sv r k;omega
theorem bM:∀(a b:List (List UInt8)),dt (a++b)=dt a+dt b
 |[],b=>by rw[List.nil_append,dt];omega
 |w::r,b=>by rw[List.cons_append,dt,dt,bM r b];omega
theorem vW:∀(a:List (List UInt8)),a.length≤dt a
 |[]=>ag _
 |w::r=>by rw[av,dt];have:=vW r;omega
theorem vV{l:List (List UInt8)}{i:Nat}(h:i<l.length):l[i].length≤dt l:=by
 induction l generalizing i with
 |nil=>cases h
 |cons w r ih=>
  cases i with
  |zero=>rw[List.getElem_cons_zero,dt];omega
  |succ i=>rw[List.getElem_cons_succ,dt];have:=ih (i:=i) (by simpa using h);omega
def dm(s:List UInt8):List (List UInt8)→List UInt8
 |[]=>[]
 |w::r=>w++(r.map fun x=>s++x).flatten
theorem ET(s w:List UInt8)(r:List (List UInt8))(x:List UInt8):dm s (w::(r++[x]))=dm s (w::r)++s++x:=by
 simp[dm,List.map_append,List.flatten_append]
theorem Mt(s:List UInt8):∀(w:List UInt8) (r:List (List UInt8)),(dm s (w::r)).length≤dt (w::r)+s.length*r.length:=by
 intro w r
 induction r generalizing w with
 |nil=>simp[dm,dt]
 |cons x r ih=>
  have:=ih x;simp only[dm,dt,List.map_cons,List.flatten_cons,aF,av]at this⊢;rw[Nat.mul_add];omega
theorem ES(s:List UInt8)(l:List (List UInt8)):(dm s l).length≤dt l+s.length*l.length:=by
 cases l with
 |nil=>simp[dm]
 |cons w r=>have:=Mt s w r;rw[av,Nat.mul_add];omega
theorem EU(s:List UInt8)(L:List (List UInt8))(i:Nat)(h:i+1<L.length):dm s (L.take (i+1+1))=dm s (L.take (i+1))++s++L[i+1]:=by
 cases L with
 |nil=>cases h
 |cons w r=>
  rw[List.take_succ_cons,List.take_succ_cons,List.getElem_cons_succ,List.take_succ_eq_append_getElem (by simpa using h),ET]
theorem vr(a b:Int)(h1: -9223372036854775808≤a-b)(h2:a-b<9223372036854775808):du .sub (.i .i64 a) (.i .i64 b)=some (.i .i64 (a-b)):=by
 rw[zT,jl h1 h2]
theorem R0(a b:Nat)(hb:0<b)(ha:a<9223372036854775808):du .quo (.i .i64 (a:Int)) (.i .i64 (b:Int))=some (.i .i64 ((a/b:Nat):Int)):=by
 have hle:a/b≤a:=Nat.div_le_self a b
 show(pm .i64 (a:Int) (b:Int)).val=_
 unfold pm
 rw[cW,ak (show¬((b:Int)=0) by omega),cond_false,ft,jk,←Int.ofNat_tdiv]
 generalize a/b=q at hle⊢
 rw[jl (by omega) (by omega)];rfl
theorem r60(Φ:Nat→Option CF)(h:Φ 60=some Gb)(h79:Φ 79=some Li)(h52:Φ 52=some wp)(h54:Φ 54=some wq)(h71:Φ 71=some tJ)(h89:Φ 89=some Gf){F:RO}{M:Mem}{c:Nat}{v:V}{l:List (List UInt8)}{s:List UInt8}(ok:cV F M c)(hs:cq F M c 1 v (gb l))
 (hl:dt l≤1000000) (hs1:1≤s.length) (hs2:s.length≤100):Calls Φ F 60 [v,sV s] M c fun r M' c'=>r=sV (dm s l)∧Gr c M c' M':=by
 refine aI h ?_
 have hn:=Dv hs
 have hll:=vW l
 match l,hs,hn,hl,hll with
 |[],hs,hn,hl,hll=>
  rw[aV]at hn;simp only[WX,Gu,hn,Int.ofNat_zero];exact⟨rfl,Gr.refl ok⟩
 |[w],hs,hn,hl,hll=>
  obtain⟨b1,o1,_,ia1,ld1⟩:=su hs 0 (by simp);have ia1:=ia1 .i64;rw[List.length_singleton]at hn;rw[Int.ofNat_zero]at ia1;rw[List.getElem_cons_zero]at ld1;simp only[WX,Int.reduceEq,Gu,hn,Int.ofNat_one,ia1,ld1];exact⟨by simp[dm],Gr.refl ok⟩
 |w0::w1::r,hs,hn,hl,hll=>
  generalize hL:w0::w1::r=L at hs hn hl hll⊢;have hL2:2≤L.length:=by rw[←hL];simp
  have d0:decide ((L.length:Int)=0)=false:=ak (by omega);have d1:decide ((L.length:Int)=1)=false:=ak (by omega);have d2:decide ((0:Int)<(s.length:Int))=true:=aj (by omega);have sb:du .sub (.i .i64 (L.length:Int)) (.i .i64 1)=some (.i .i64 ((L.length-1:Nat):Int)):=by rw[vr _ _ (by omega) (by omega)];congr 2;omega
  have qu:=R0 9223372036854775807 (L.length-1) (by omega) (by omega);rw[show((9223372036854775807:Nat):Int)=9223372036854775807 from rfl]at qu;have hq:9223372036854≤9223372036854775807/(L.length-1):=by
   rw[Nat.le_div_iff_mul_le (by omega)];have:9223372036854*(L.length-1)≤9223372036854*1000000:=Nat.mul_le_mul_left _ (by omega);omega
  have d3:decide (((9223372036854775807/(L.length-1):Nat):Int)≤(s.length:Int))=false:=ak (by omega);have hmb:s.length*(L.length-1)≤100*1000000:=Nat.mul_le_mul hs2 (by omega);have mu:du .mul (.i .i64 (s.length:Int)) (.i .i64 ((L.length-1:Nat):Int))=some (.i .i64 ((s.length*(L.length-1):Nat):Int)):=by
   have:((s.length:Int)*((L.length-1:Nat):Int))=((s.length*(L.length-1):Nat):Int):=by rw[Int.natCast_mul]
   rw[Cz _ _ (by rw[this];omega) (by rw[this];omega),this]
  have ad:du .add (.i .i64 0) (.i .i64 ((s.length*(L.length-1):Nat):Int))=some (.i .i64 ((s.length*(L.length-1):Nat):Int)):=by rw[bJ _ _ (by omega) (by omega)];simp
  simp only[WX,Gu,hn,d0,d1,d2,sb,qu,d3,mu,ad];obtain⟨I1,hI1⟩:∃I:Nat→St→Prop,∀n s',I n s'↔(∃(i a:Nat) (u:List (Option V)),n=L.length-i∧i≤L.length∧s'= .mk ((aS0 u v (sV s) (.i .i64 (a:Int)) v (.i .i64 (L.length:Int)) (.i .i64 (i:Int)))) [] M c∧a≤100000000+dt (L.take i)):=⟨fun n s'=>_,fun _ _=>Iff.rfl⟩
  refine bT I1 ?_ L.length _ ((hI1 _ _).2 ⟨0,s.length*(L.length-1),(G2 (X2 (X1 (G1 (cP (X1 (G2 (G1 (d9 (cw (X4 (X1 [])))))))))))),rfl,aB _,rfl,by omega⟩);intro n s' hIs;obtain⟨i,a,u,rfl,hi,rfl,ha⟩:=(hI1 _ _).1 hIs;clear hIs;have htk:=sv L i;by_cases hlt:i<L.length
  ·have e1:decide ((i:Int)<(L.length:Int))=true:=aj (by omega);obtain⟨b1,o1,_,ia1,ld1⟩:=su hs i hlt;have hge:=vV hlt;have sb2:du .sub (.i .i64 9223372036854775807) (.i .i64 (a:Int))=some (.i .i64 (9223372036854775807-(a:Int))):=vr _ _ (by omega) (by omega);have e2:decide ((9223372036854775807-(a:Int))<(L[i].length:Int))=false:=ak (by omega);have ad2:du .add (.i .i64 (a:Int)) (.i .i64 (L[i].length:Int))=some (.i .i64 ((a+L[i].length:Nat):Int)):=by rw[bJ _ _ (by omega) (by omega)];simp
   have q8:du .add (.i .i64 (i:Int)) (.i .i64 1)=some (.i .i64 ((i+1:Nat):Int)):=by rw[bJ _ _ (by omega) (by omega)];simp
   simp only[WX,Gu,e1,ia1,ld1,sb2,e2,ad2,q8];refine⟨L.length-(i+1),by omega,(hI1 _ _).2 ⟨i+1,a+L[i].length,(G2 (X2 (X1 (G1 (cP (X1 (G2 (G1 (d9 (cw (X4 (X1 [])))))))))))),rfl,by omega,rfl,?_⟩⟩;rw[List.take_succ_eq_append_getElem hlt,bM,dt,dt];omega
  ·have e1:decide ((i:Int)<(L.length:Int))=false:=ak (by omega);have gr0:Gr c M (c+1) (M.set c (af 99 [.p0,.l0])):=(Gr.refl ok).set c _ (ag _) (aA _) (aP _);have ok0:=gr0.ok ok;simp only[WX,Gu,e1];refine aw ((r79 Φ h79 h71 h89 ok0 gr0 (ag _) (aA _) (am _ _ _) a (by omega)).mono ?_);rintro v1 M1 c1 ⟨bb,hb1,gr1,hle1,hfr1⟩;have ok1:=gr1.ok ok;have hs1':=hs.grow gr1;obtain⟨b1,o1,hb1c,ia1,ld1⟩:=su hs1' 0 (by omega);have ia1:=ia1 .i64;rw[Int.ofNat_zero]at ia1;simp only[WX,Gu,ia1,ld1];have hg0:=vV (l:=L) (i:=0) (by omega);refine aw ((r52 Φ h52 h71 ok1 gr1 hb1 L[0] (jH (by simp only[aV];omega))).mono ?_);rintro v2 M2 c2 ⟨bb2,hb2,gr2,hle2,_,_⟩;rw[List.nil_append]at hb2;have ok2:=gr2.ok ok;obtain⟨v3,⟨_,_,hsl,_⟩,hs3⟩:=Nx (lo:=1) (hi:=(gb L).length) hs (by simp[gb];omega) (ag _);have hsl':tj 1 v (some (.i .i64 1)) none none=some v3:=congrArg QR.val (hsl rfl);have hs3':cq F M c 1 v3 (gb (L.drop 1)):=by
    rw[List.take_length,gb,←List.map_drop]at hs3;exact hs3
   have hn3:=Dv hs3';rw[aZ]at hn3;simp only[WX,Gu,hsl',hn3];obtain⟨I2,hI2⟩:∃I:Nat→St→Prop,∀n s',I n s'↔(∃(i:Nat) (M3:Mem) (c1003 bb3:Nat) (u:List (Option V)),n=L.length-1-i∧i≤L.length-1∧s'= .mk ((aS1 u v (sV s) (.p c 0) v3 (.i .i64 ((L.length-1:Nat):Int)) (.i .i64 (i:Int)))) [] M3 c1003∧jQ M3 c c1003 c bb3 (dm s (L.take (i+1)))∧Gr c M c1003 M3):=⟨fun n s'=>_,fun _ _=>Iff.rfl⟩
   refine bT I2 ?_ (L.length-1) _ ((hI2 _ _).2 ⟨0,M2,c2,bb2,(G2 (X4 (X2 (G1 (cP (cw (X4 (X2 (G2 (G1 (cP (cw (X8 (X4 (X1 []))))))))))))))),rfl,aB _,rfl,?_,gr2⟩)
   ·intro n s' hIs;obtain⟨i,M3,c1003,bb3,u,rfl,hi,rfl,hb3,gr3⟩:=(hI2 _ _).1 hIs;clear hIs;have hs4:=hs3'.grow gr3;have ok3:=gr3.ok ok;have hj:=ES s (L.take (i+1));have hj2:=sv L (i+1);have hj3:s.length*(L.take (i+1)).length≤100*1000000:=Nat.mul_le_mul hs2 (by rw[List.length_take];omega);by_cases hlt:i<L.length-1
    ·have e1:decide ((i:Int)<((L.length-1:Nat):Int))=true:=aj (by omega);obtain⟨b1004,o1004,hb4,ia4,ld4⟩:=su hs4 i (by rw[aZ];omega);have hge:(L.drop 1)[i]'(by rw[aZ];omega)=L[i+1]:=by rw[List.getElem_drop];congr 1;omega
     rw[hge]at ld4;have hgl:=vV (l:=L) (i:=i+1) (by omega);have q8:du .add (.i .i64 (i:Int)) (.i .i64 1)=some (.i .i64 ((i+1:Nat):Int)):=by rw[bJ _ _ (by omega) (by omega)];simp
     simp only[WX,Gu,e1,ia4,ld4];refine aw ((r52 Φ h52 h71 ok3 gr3 hb3 s (jH (by omega))).mono ?_);rintro v5 M5 c1005 ⟨bb5,hb5,gr5,hle5,_,_⟩;have ok5:=gr5.ok ok;simp only[WX,Gu];refine aw ((r52 Φ h52 h71 ok5 gr5 hb5 L[i+1] (jH (by rw[aF];omega))).mono ?_);rintro v6 M6 c1006 ⟨bb6,hb6,gr6,hle6,_,_⟩;simp only[WX,Gu,q8];refine⟨L.length-1-(i+1),by omega,(hI2 _ _).2 ⟨i+1,M6,c1006,bb6,(G2 (X4 (X2 (G1 (cP (cw (X4 (X2 (G2 (G1 (cP (cw (X8 (X4 (X1 []))))))))))))))),rfl,by omega,rfl,?_,gr6⟩⟩;rw[EU s L i (by omega)];exact hb6
    ·have e1:decide ((i:Int)<((L.length-1:Nat):Int))=false:=ak (by omega);simp only[WX,Gu,e1];refine aw ((r54 Φ h54 ok3 gr3 hb3 (by omega)).mono ?_);rintro v5 M5 c1005 ⟨rfl,gr5,_,_⟩;simp only[WX];refine⟨?_,gr5⟩;rw[List.take_of_length_le (by omega)]
   ·rw[show L.take (0+1)=[L[0]] by rw[List.take_succ_eq_append_getElem (show 0<L.length by omega)];rfl]
    simpa [dm]using hb2
theorem vN:∀(f:Nat) (r:List UInt8) (w:List Pc) (text:List UInt8) (sm:Bool) (n:Nat) (ps:List Pc) (m:Nat),oX f r w text sm n=some (ps,m)→ps.length≤w.length+2*f
 |0,_,_,_,_,_,_,_,h=>by cases h
 |f+1,r,w,text,sm,n,ps,m,h=>by
  rw[oX]at h;split at h
  ·injection h with h;injection h with h1 h2
   rw[←h1];unfold m8;split<;>simp<;>omega
  ·cases h
  ·have:=vN f _ _ _ _ _ _ _ h;have e:(gi w text).length≤w.length+2:=by unfold gi;split<;>simp
   omega
  ·have:=vN f _ _ _ _ _ _ _ h;omega
theorem vX:∀(f:Nat) (r:List UInt8) (i:Nat),∀t∈sX f r i,t.2.2.length≤2*(r.length+1)
 |0,_,_,t,h=>by cases h
 |_+1,[],_,t,h=>by cases h
 |f+1,x::l,i,t,h=>by
  unfold sX at h;split at h
  ·have:=vX f l _ t h;rw[av];omega
  ·split at h
   ·rcases bf.1 h with rfl|h
    ·simp
    ·have:=vX f _ _ t h;rw[aZ]at this;omega
   ·split at h
    ·cases h
    ·rename_i ps n hr;split at h
     ·cases h
     ·rcases bf.1 h with rfl|h
      ·have:=vN _ _ _ _ _ _ _ _ hr;simp only[aV]at this;show ps.length≤_;omega
      ·have:=vX f _ _ t h;rw[aZ]at this;omega
theorem aa9{F:RO}(lit:Bool)(M:Mem)(f:Nat)(a b:List V):tW F M .func lit (.f f a b) .f0=some false:=rfl
theorem nj{v w:V}{f:List UInt8→Option V}(h:(t6 v).bind f=some w):∃l,v=sV l∧f l=some w:=by
 obtain⟨l,h1,h2⟩:=aO.1 h
 exact⟨l,ad4 h1,h2⟩
theorem Ch{v w:V}{f:UInt8→Option V}(h:(Pg v).bind f=some w):∃b,v=bV b∧f b=some w:=by
 obtain⟨l,h1,h2⟩:=aO.1 h
 exact⟨l,ad3 h1,h2⟩
theorem aP4{ct:Nat}(h:1000≤ct):cV [] (.e:Mem) ct:=⟨fun b _=>rfl,fun b _=>rfl,fun b hb=>(by cases hb),h⟩
section
variable{P:Program}(hm:P.follows .mixedOrders=true){Φ:Nat→Option CF}(hΦ:eA P Φ)
include hm hΦ
theorem o87(h:Φ 87=some c87):dK P 87 (aN Me):=gC hm hΦ (by
 intro args v ct hv hct;unfold Me at hv;split at hv
 ·obtain⟨l,rfl,hv1⟩:=nj hv;obtain⟨p,rfl,hv2⟩:=nj hv1;obtain rfl:=ae hv2;exact⟨trivial,t87 Φ h _ _ _⟩
 ·cases hv)
theorem o88(h:Φ 88=some c88):dK P 88 (aN h88):=gC hm hΦ (by
 intro args v ct hv hct;unfold h88 at hv;split at hv
 ·obtain⟨l,rfl,hv1⟩:=nj hv;obtain⟨b,rfl,hv2⟩:=Ch hv1;obtain rfl:=ae hv2;exact⟨trivial,t88 Φ h _ _ _⟩
 ·cases hv)
theorem o73(h:Φ 73=some c73)(Me:Φ 87=some (.orc (aN Me))):dK P 73 (aN h73):=gC hm hΦ (by
 intro args v ct hv hct;unfold h73 at hv;split at hv
 ·obtain⟨l,rfl,hv1⟩:=nj hv;obtain⟨p,rfl,hv2⟩:=nj hv1;obtain rfl:=ae hv2;exact⟨trivial,t73 Φ h Me _ _ _⟩
 ·cases hv)
theorem o76(h:Φ 76=some c76)(h88':Φ 88=some (.orc (aN h88))):dK P 76 (aN h88):=gC hm hΦ (by
 intro args v ct hv hct;unfold h88 at hv;split at hv
 ·obtain⟨l,rfl,hv1⟩:=nj hv;obtain⟨b,rfl,hv2⟩:=Ch hv1;obtain rfl:=ae hv2;exact⟨trivial,t76 Φ h h88' _ _ _⟩
 ·cases hv)
theorem o75(h:Φ 75=some c75)(h76:Φ 76=some (.orc (aN h88))):dK P 75 (aN h75):=gC hm hΦ (by
 intro args v ct hv hct;unfold h75 at hv;split at hv
 ·obtain⟨b,rfl,hv1⟩:=Ch hv;obtain rfl:=ae hv1;exact⟨trivial,t75 Φ h h76 _ _⟩
 ·cases hv)
theorem o78(h:Φ 78=some c78):dK P 78 (aN Gg):=gC hm hΦ (by
 intro args v ct hv hct;unfold Gg at hv;split at hv
 ·obtain⟨b,rfl,hv1⟩:=Ch hv;obtain rfl:=ae hv1;exact⟨trivial,t78 Φ h _ _⟩
 ·cases hv)
theorem o77(h:Φ 77=some c77)(Gg:Φ 78=some (.orc (aN Gg)))(h75:Φ 75=some (.orc (aN h75))):dK P 77 (aN h77):=gC hm hΦ (by
 intro args v ct hv hct;unfold h77 at hv;split at hv
 ·obtain⟨l,rfl,hv1⟩:=nj hv;split at hv1
  ·rename_i hl;obtain rfl:=ae hv1;exact⟨trivial,t77 Φ h Gg l hl _⟩
  ·cases hv1
 ·obtain⟨l,rfl,hv1⟩:=nj hv;split at hv1
  ·rename_i hl;obtain rfl:=ae hv1;exact⟨trivial,bg0 Φ h h75 l hl _⟩
  ·cases hv1
 ·cases hv)
theorem o55(h:Φ 55=some c55)(h73:Φ 73=some (.orc (aN h73))):dK P 55 (aN h55):=gC hm hΦ (by
 intro args v ct hv hct;unfold h55 at hv;split at hv
 ·obtain⟨l,rfl,hv1⟩:=nj hv;obtain rfl:=ae hv1;obtain⟨r,M1,c1,e,rfl,_⟩:=r55 Φ h h73 (aP4 hct) l;exact⟨trivial,M1,c1,e⟩
 ·cases hv)
end
theorem Dw{F:RO}{M:Mem}{c:Nat}{vs:List V}{x:(Ty.str).D}(h:Rp F M c .str vs x):∃s:List UInt8,vs=[sV s]:=by
 have key:∀l:List UInt8,vs=[sV l]∧l.length≤Go.maxLen→ ∃s:List UInt8,vs=[sV s]:=fun l h=>⟨l,h.1⟩
 exact key x h
abbrev aS4(u:List (Option V))(x0 x1 x11 x12 x13:V):T:=(.n (.n (.n (ec u 15 7 23) (uO u 3) (.n (dA u 19) (some x11) (dA u 27))) (some x1) (.n (ec u 17 9 25) (uO u 5) (.n (dA u 21) (some x13) (dA u 29)))) (some x0) (.n (.n (ec u 16 8 24) (uO u 4) (.n (dA u 20) (some x12) (dA u 28))) (uO u 2) (aQ u 18 10 26 6 22 14 30)))
def We:CC:=(.reg [(qq a4 (.mv xF))])
def Wg:CC:=(.reg [(qq a6 (.mv z0)),(qq a7 (.ln .slice z6)),(qq a8 (.mv z1)),(qq a9 (.ln .slice z8)),(qq dX (.bi .neq z7 z9))])
def Wh:CC:=(.reg [(qq a4 (.mv xF))])
def Wi:CC:=(.seq Wg (.cond gc (.seq Wh .ret) .skip))
def Wj:CC:=(.reg [(qq fy (.mv z0)),(qq fR (.ln .slice eg)),(qq fc (.mv (x6 0)))])
def Wk:CC:=(.reg [(qq gQ (.bi .lss ey eX))])
def Wl:CC:=(.reg [(qq eN (.mv ey)),(qq a5 (.mv iq))])
def Wm:CC:=(.dreg 9 [(0,0,(qq iw (.mv z0))),(1,0,(qq gk (.mv z5))),(2,3,(qq gS (.iaS 2 jP gH))),(3,7,(qq lj (.ldn 2 ir))),(4,0,(qq ke (.mv z1))),(5,0,(qq gT (.mv z5))),(6,48,(qq lL (.iaS 2 mR oc))),(7,112,(qq kl (.ldn 2 og))),(8,255,(qq kf (.eq true (.agg [(0,.str),(1,.bool)]) false lQ mW)))])
def Wn:CC:=(.reg [(qq a4 (.mv xF))])
def KM:CC:=(.seq Wm (.cond pf (.seq Wn .ret) .skip))
def KN:CC:=(.reg [(qq mS (.bi .add ey (x6 1))),(qq fc (.mv qQ))])
def KO:CC:=(.seq (.cond iH .skip (.exit 0)) (.seq (.block 1 (.seq Wl KM)) KN))
def KP:CC:=(.reg [(qq a4 (.mv xT))])
def KQ:CC:=(.seq (.seq Wj (.block 0 (.loop (.seq Wk KO)))) (.seq KP .ret))
def Gc:CF:= .mk 5 [.t a4] (.seq We (.seq Wi KQ))
theorem e70(v0 v1:V):bz 5 [v0,v1]=(.n (.n iE (some v1) iE) (some v0) jY):=rfl
def B70:=ai @e70 (ai (wu We.eq_1) (ai (wu Wg.eq_1) (ai (wu Wh.eq_1) (ai (wu Wi.eq_1) (ai (wu Wj.eq_1) (ai (wu Wk.eq_1) (ai (wu Wl.eq_1) (ai (wu Wm.eq_1) (ai (wu Wn.eq_1) (ai (wu KM.eq_1) (ai (wu KN.eq_1) (ai (wu KO.eq_1) (ai (wu KP.eq_1) (wu KQ.eq_1))))))))))))))
def UM:CC:=(.reg [(aa a2 (.bx 36 1 z0)),(aa a3 (.bx 36 1 z1)),(qq a4 (.mv xF))])
def UN:CC:=(.reg [(qq a5 (.fa 0 z2)),(qq a6 (.ld1 z5)),(qq a7 (.fa 0 z3)),(qq a8 (.ld1 z7)),(ee a9 (.call 70 [z6,z8])),(qq a4 (.mv z9))])
def Lf:CF:= .mk 4 [.t a4] (.seq UM (.seq UN .ret))
theorem e48(v0 v1:V):bz 4 [v0,v1]=(.n (.n mL (some v1) mL) (some v0) iE):=rfl
def B48:=ai @e48 (ai (wu UM.eq_1) (wu UN.eq_1))
abbrev MC:Nat:=9223372036854775807
def dO(F:RO)(M:Mem)(c:Nat)(v:V)(w:List Pc):Prop:=cq F M c 2 v (kL w)∧w.length≤MC
def cE{α:Type}(F:RO)(R:Mem→Nat→List V→α→Prop)(sz:Nat)(M:Mem)(c:Nat)(v:V)(l:List α):Prop:=∃es:List (List V),cq F M c sz v es∧es.length=l.length∧l.length≤MC∧ ∀i (h:i<es.length) (h':i<l.length),R M c es[i] l[i]
def W1(F:RO)(M:Mem)(c:Nat)(e:List V)(w:List Pc):Prop:=∃x,e=[x]∧dO F M c x w
def fC(F:RO)(M:Mem)(c:Nat)(v:V)(l:List (List Pc)):Prop:=cE F (W1 F) 1 M c v l
def C1(F:RO)(M:Mem)(c:Nat)(e:List V)(l:List (List Pc)):Prop:=∃x,e=[x]∧fC F M c x l
def ka(F:RO)(M:Mem)(c:Nat)(v:V)(l:List (List (List Pc))):Prop:=cE F (C1 F) 1 M c v l
structure eB where
 join:Int
 nt:Bool
 inp:List Pc
 out:List Pc
 beh:Bool
 cmds:List (List (List Pc))
def P1(F:RO)(M:Mem)(c:Nat)(e:List V)(p:eB):Prop:=∃vi vo vc,e=[.i .i64 p.join,.b p.nt,vi,vo,.b p.beh,vc]∧dO F M c vi p.inp∧dO F M c vo p.out∧ka F M c vc p.cmds
def iT(F:RO)(M:Mem)(c:Nat)(v:V)(l:List eB):Prop:=cE F (P1 F) 6 M c v l
theorem dO.grow{F:RO}{M M':Mem}{c c':Nat}{v:V}{w:List Pc}(h:dO F M c v w)(g:Gr c M c' M'):dO F M' c' v w:=⟨h.1.grow g,h.2⟩
theorem cE.grow{α:Type}{F:RO}{R:Mem→Nat→List V→α→Prop}{sz:Nat}{M M':Mem}{c c':Nat}{v:V}{l:List α}(hR:∀e x,R M c e x→R M' c' e x)(h:cE F R sz M c v l)(g:Gr c M c' M'):cE F R sz M' c' v l:=by
 obtain⟨es,h1,h2,h3,h4⟩:=h
 exact⟨es,h1.grow g,h2,h3,fun i h h'=>hR _ _ (h4 i h h')⟩
theorem W1.grow{F:RO}{M M':Mem}{c c':Nat}(g:Gr c M c' M')(e:List V)(w:List Pc)(h:W1 F M c e w):W1 F M' c' e w:=by obtain⟨x,h1,h2⟩:=h;exact⟨x,h1,h2.grow g⟩
theorem fC.grow{F:RO}{M M':Mem}{c c':Nat}{v:V}{l:List (List Pc)}(h:fC F M c v l)(g:Gr c M c' M'):fC F M' c' v l:=cE.grow (W1.grow g) h g
theorem C1.grow{F:RO}{M M':Mem}{c c':Nat}(g:Gr c M c' M')(e:List V)(w:List (List Pc))(h:C1 F M c e w):C1 F M' c' e w:=by obtain⟨x,h1,h2⟩:=h;exact⟨x,h1,h2.grow g⟩
theorem ka.grow{F:RO}{M M':Mem}{c c':Nat}{v:V}{l:List (List (List Pc))}(h:ka F M c v l)(g:Gr c M c' M'):ka F M' c' v l:=cE.grow (C1.grow g) h g
theorem P1.grow{F:RO}{M M':Mem}{c c':Nat}(g:Gr c M c' M')(e:List V)(w:eB)(h:P1 F M c e w):P1 F M' c' e w:=by obtain⟨vi,vo,vc,h1,h2,h3,h4⟩:=h;exact⟨vi,vo,vc,h1,h2.grow g,h3.grow g,h4.grow g⟩
theorem iT.grow{F:RO}{M M':Mem}{c c':Nat}{v:V}{l:List eB}(h:iT F M c v l)(g:Gr c M c' M'):iT F M' c' v l:=cE.grow (P1.grow g) h g
theorem o5{F:RO}{M:Mem}{c sz:Nat}{v:V}{es:List (List V)}(h:cq F M c sz v es):bF v=true∧flatten v=[v]∧aC [v]=true:=by
 rcases h with⟨_,⟨_,rfl|⟨b,o0,o,rfl⟩⟩|⟨b,o,⟨cap,_,rfl⟩|⟨el,kn,_,rfl⟩,_⟩⟩<;>exact⟨rfl,rfl,rfl⟩
theorem cE.one{α:Type}{F:RO}{R:Mem→Nat→List V→α→Prop}{sz:Nat}{M:Mem}{c:Nat}{v:V}{l:List α}(h:cE F R sz M c v l):bF v=true∧flatten v=[v]∧aC [v]=true:=by
 obtain⟨es,h1,_⟩:=h;exact o5 h1
theorem dO.one{F:RO}{M:Mem}{c:Nat}{v:V}{w:List Pc}(h:dO F M c v w):bF v=true∧flatten v=[v]∧aC [v]=true:=o5 h.1
theorem cE.len{α:Type}{F:RO}{R:Mem→Nat→List V→α→Prop}{sz:Nat}{M:Mem}{c:Nat}{v:V}{l:List α}(h:cE F R sz M c v l):sU v=some (.i .i64 (l.length:Int)):=by
 obtain⟨es,h1,h2,_⟩:=h;rw[←h2];exact h1.len
theorem cE.max{α:Type}{F:RO}{R:Mem→Nat→List V→α→Prop}{sz:Nat}{M:Mem}{c:Nat}{v:V}{l:List α}(h:cE F R sz M c v l):l.length≤9223372036854775807:=by
 obtain⟨es,h1,h2,h3,_⟩:=h;exact h3
theorem dO.len{F:RO}{M:Mem}{c:Nat}{v:V}{w:List Pc}(h:dO F M c v w):sU v=some (.i .i64 (w.length:Int)):=by have:=h.1.len;rwa [eM]at this
theorem cE.at{α:Type}{F:RO}{R:Mem→Nat→List V→α→Prop}{sz:Nat}{M:Mem}{c:Nat}{v:V}{l:List α}(h:cE F R sz M c v l)(hsz:0<sz)(i:Nat)(hi:i<l.length):
 ∃b o e,b<c∧(∀k,j6 sz v (.i k (i:Int))=some (.p b o))∧loadN F M b o sz=some e∧e.length=sz∧R M c e l[i]:=by
 obtain⟨es,h1,h2,h3,h4⟩:=h
 obtain⟨b,o,a1,a2,a3⟩:=h1.at i (by omega)
 have hl:es[i].length=sz:=h1.1 _ (List.getElem_mem _)
 exact⟨b,o,es[i],a1,a2,by have:=a3.load (by intro e;rw[e]at hl;simp at hl;omega);rwa [hl]at this,hl,h4 i _ hi⟩
theorem qM{α:Type}{l1 l2:List α}{i:Nat}(h1:i<l1.length)(h2:i<l2.length)(h:l1.take i=l2.take i)(he:l1[i]=l2[i]):l1.take (i+1)=l2.take (i+1):=by
 rw[List.take_succ_eq_append_getElem h1,List.take_succ_eq_append_getElem h2,h,he]
theorem Dz{α:Type}{l1 l2:List α}{i:Nat}(h1:i<l1.length)(h2:i<l2.length)(he:l1[i]≠l2[i]):l1≠l2:=fun e=>he (by subst e;rfl)
theorem w5{α:Type}{l1 l2:List α}(hl:l1.length=l2.length)(h:l1.take l1.length=l2.take l1.length):l1=l2:=by
 rw[List.take_length,hl,List.take_length]at h;exact h
theorem ae0(p q:Pc):(decide (p.1=q.1)&&decide (p.2=q.2))=decide (p=q):=by
 obtain⟨a,b⟩:=p
 obtain⟨a',b'⟩:=q
 rw[Bool.eq_iff_iff]
 simp
theorem w70(Φ:Nat→Option CF)(h:Φ 70=some Gc){F:RO}{M:Mem}{c:Nat}(ok:cV F M c){v1 v2:V}{l1 l2:List Pc}(h1:dO F M c v1 l1)(h2:dO F M c v2 l2):
 Calls Φ F 70 [v1,v2] M c fun r M' c'=>r= .b (decide (l1=l2))∧Gr c M c' M':=by
 refine aI h ?_
 have n1:=h1.len
 have n2:=h2.len
 have mx1:l1.length≤9223372036854775807:=h1.2
 by_cases hlen:l1.length=l2.length
 ·have d0:decide (¬((l1.length:Int)=(l2.length:Int)))=false:=ak (by omega);simp only[WX,B70,n1,n2,d0];obtain⟨I,hI⟩:∃I:Nat→St→Prop,∀n s',I n s'↔(∃(i c1:Nat) (u:List (Option V)),n=l1.length-i∧i≤l1.length∧c≤c1∧s'= .mk ((aS4 u v1 v2 v1 (.i .i64 (l1.length:Int)) (.i .i64 (i:Int)))) [] M c1∧l1.take i=l2.take i):=⟨fun n s'=>_,fun _ _=>Iff.rfl⟩
  refine bT I ?_ l1.length _ ((hI _ _).2 ⟨0,_,(G2 (X8 (X1 (G2 (G1 (cw (X1 []))))))),rfl,aB _,ag _,rfl,rfl⟩);intro n s' hIs;obtain⟨i,c1,u,rfl,hi,hc1,rfl,hpre⟩:=(hI _ _).1 hIs;clear hIs;have q8:i<l1.length→du .add (.i .i64 (i:Int)) (.i .i64 1)=some (.i .i64 ((i+1:Nat):Int)):=fun _=>by rw[bJ _ _ (by omega) (by omega)];simp
  by_cases hlt:i<l1.length
  ·have q8:=q8 hlt;have hlt2:i<l2.length:=by omega
   have d1:decide ((i:Int)<(l1.length:Int))=true:=aj (by omega);obtain⟨b1,o1,_,ia1,ld1⟩:=CR h1.1 i hlt;obtain⟨b2,o2,_,ia2,ld2⟩:=CR h2.1 i hlt2;have ia1:=ia1 .i64;have ia2:=ia2 .i64;have hfr:=ok.free;unfold Fb at ld1 ld2;have hpv:=ae0 l1[i] l2[i];by_cases he:l1[i]=l2[i]
   ·have e1:decide (l1[i].1=l2[i].1)=true:=aj (by rw[he]);have e2:decide (l1[i].2=l2[i].2)=true:=aj (by rw[he]);simp only[WX,B70,d1,ia1,ia2,ld1,ld2,q8,e1,e2];exact⟨l1.length-(i+1),by omega,(hI _ _).2 ⟨i+1,_,(G2 (X8 (X1 (G2 (G1 (cw (X1 []))))))),rfl,hlt,by omega,rfl,qM hlt hlt2 hpre he⟩⟩
   ·rw[ak he]at hpv;have hne:=Dz hlt hlt2 he;by_cases e1:l1[i].1=l2[i].1
    ·have e2:decide (l1[i].2=l2[i].2)=false:=by rw[aj e1,Bool.true_and]at hpv;exact hpv
     have e1:=aj e1;simp only[WX,B70,d1,ia1,ia2,ld1,ld2,e1,e2];exact⟨by rw[ak hne],(Gr.refl ok).up (by omega)⟩
    ·have e1:=ak e1;simp only[WX,B70,d1,ia1,ia2,ld1,ld2,e1,Bool.false_and];exact⟨by rw[ak hne],(Gr.refl ok).up (by omega)⟩
  ·obtain rfl:i=l1.length:=by omega
   have d1:decide ((l1.length:Int)<(l1.length:Int))=false:=ak (by omega);simp only[WX,B70,d1];exact⟨by rw[aj (w5 hlen hpre)],(Gr.refl ok).up hc1⟩
 ·have d0:decide (¬((l1.length:Int)=(l2.length:Int)))=true:=aj (by omega);simp only[WX,B70,n1,n2,d0];exact⟨by rw[ak (fun e=>hlen (by rw[e]))],Gr.refl ok⟩
theorem w48(Φ:Nat→Option CF)(h:Φ 48=some Lf)(h70:Φ 70=some Gc){F:RO}{M:Mem}{c:Nat}(ok:cV F M c){v1 v2:V}{l1 l2:List Pc}(h1:dO F M c v1 l1)(h2:dO F M c v2 l2):
 Calls Φ F 48 [.g [v1],.g [v2]] M c fun r M' c'=>r= .b (decide (l1=l2))∧Gr c M c' M':=by
 refine aI h ?_
 obtain⟨y1,y2,y3⟩:=h1.one
 obtain⟨z1,z2,z3⟩:=h2.one
 have hG:∀v,flatten (V.g [v])=[v]:=fun _=>rfl
 have gX:=((Gr.refl ok).set c (af 36 [v1]) (ag _) (aA _) (aP _)).set (c+1) (af 36 [v2]) (by omega) (show c+1<c+2 by omega) (by omega)
 have m0:((M.set c (af 36 [v1])).set (c+1) (af 36 [v2])).get c=some (af 36 [v1]):=by rw[ah _ _ (by omega)];exact am _ _ _
 have m1:((M.set c (af 36 [v1])).set (c+1) (af 36 [v2])).get (c+1)=some (af 36 [v2]):=am _ _ _
 have l0:load1 F ((M.set c (af 36 [v1])).set (c+1) (af 36 [v2])) c 0=some v1:=aq m0 0
 have l1:load1 F ((M.set c (af 36 [v1])).set (c+1) (af 36 [v2])) (c+1) 0=some v2:=aq m1 0
 simp only[WX,Nat.reduceAdd,B48,hG,y3,z3,l0,l1]
 generalize(M.set c (af 36 [v1])).set (c+1) (af 36 [v2])=X at gX l0 l1⊢
 refine aw ((w70 Φ h70 (gX.ok ok) (h1.grow gX) (h2.grow gX)).mono ?_)
 rintro r M' c' ⟨rfl,g⟩
 simp only[WX]
 exact gX.trans g
abbrev NM(u:List (Option V))(x0 x1 x2 x15 x16 x17:V):T:=(.n (.n (.n (.n (.n (dA u 31) (some x15) (dA u 47)) (uO u 7) (ec u 39 23 55)) (uO u 3) (aQ u 35 19 51 11 43 27 59)) (some x1) (.n (.n (.n (dA u 33) (some x17) (dA u 49)) (uO u 9) (ec u 41 25 57)) (uO u 5) (aQ u 37 21 53 13 45 29 61))) (some x0) (.n (.n (.n (.n (dA u 32) (some x16) (dA u 48)) (uO u 8) (ec u 40 24 56)) (uO u 4) (aQ u 36 20 52 12 44 28 60)) (some x2) (.n (aQ u 34 18 50 10 42 26 58) (uO u 6) (aQ u 38 22 54 14 46 30 62))))
def UZ:CC:=(.reg [(qq a6 (.mv xF))])
def V0:CC:=(.reg [(qq dX (.mv z0)),(qq fy (.ln .slice gc)),(qq fR (.mv z1)),(qq fc (.ln .slice eX)),(qq gQ (.bi .neq eg ey))])
def V1:CC:=(.reg [(qq a6 (.mv xF))])
def V2:CC:=(.seq V0 (.cond iH (.seq V1 .ret) .skip))
def V3:CC:=(.reg [(qq eN (.mv z0)),(qq iw (.ln .slice iq)),(qq gk (.mv (x6 0)))])
def V4:CC:=(.reg [(qq gS (.bi .lss gH jP))])
def V5:CC:=(.reg [(qq lj (.mv gH)),(qq ke (.iaS 1 iq gH)),(qq gT (.ldn 1 mR)),(aa a8 (.al 36 [.l0])),(qq a7 (.mv lQ)),(ez (.st 1 z8 oc))])
def V6:CC:=(.reg [(qq lL (.mv z1)),(qq kl (.mv z7)),(qq kf (.iaS 1 og mW)),(qq mS (.ldn 1 pf)),(aa a9 (.al 36 [.l0])),(ez (.st 1 z9 qQ))])
def V7:CC:=(.reg [(qq mg (.mv z2)),(qq iU (.ldn 1 z8)),(qq mT (.ldn 1 z9)),(ee ll (.cv qx [qy,qR])),(qq mh (.un .not sN))])
def IQ:CC:=(.reg [(qq a6 (.mv xF))])
def IR:CC:=(.cond sY (.seq IQ .ret) .skip)
def IU:CC:=(.reg [(qq mU (.bi .add gH (x6 1))),(qq gk (.mv sZ))])
def IV:CC:=(.seq (.block 1 (.seq V5 (.seq V6 (.seq V7 IR)))) IU)
def IW:CC:=(.seq (.cond ir .skip (.exit 0)) IV)
def IX:CC:=(.reg [(qq a6 (.mv xT))])
def IY:CC:=(.seq (.seq V3 (.block 0 (.loop (.seq V4 IW)))) (.seq IX .ret))
def Pi:CF:= .mk 6 [.t a6] (.seq UZ (.seq V2 IY))
theorem e51(v0 v1 v2:V):bz 6 [v0,v1,v2]=(.n (.n jY (some v1) jY) (some v0) (.n jY (some v2) jY)):=rfl
def B51:=ai @e51 (ai (wu UZ.eq_1) (ai (wu V0.eq_1) (ai (wu V1.eq_1) (ai (wu V2.eq_1) (ai (wu V3.eq_1) (ai (wu V4.eq_1) (ai (wu V5.eq_1) (ai (wu V6.eq_1) (ai (wu V7.eq_1) (ai (wu IQ.eq_1) (ai (wu IR.eq_1) (ai (wu IU.eq_1) (ai (wu IV.eq_1) (ai (wu IW.eq_1) (ai (wu IX.eq_1) (wu IY.eq_1))))))))))))))))
def UX:CC:=(.reg [(aa a2 (.bx 42 1 z0)),(aa a3 (.bx 42 1 z1)),(qq a4 (.mv xF))])
def UY:CC:=(.reg [(qq a5 (.fa 0 z2)),(qq a6 (.ld1 z5)),(qq a7 (.fa 0 z3)),(qq a8 (.ld1 z7)),(ee a9 (.call 51 [z6,z8,(.c (.f 48 [] []))])),(qq a4 (.mv z9))])
def Qn:CF:= .mk 4 [.t a4] (.seq UX (.seq UY .ret))
theorem e50(v0 v1:V):bz 4 [v0,v1]=(.n (.n mL (some v1) mL) (some v0) iE):=rfl
def B50:=ai @e50 (ai (wu UX.eq_1) (wu UY.eq_1))
def UO:CC:=(.reg [(qq a6 (.mv xF))])
def UP:CC:=(.reg [(qq dX (.mv z0)),(qq fy (.ln .slice gc)),(qq fR (.mv z1)),(qq fc (.ln .slice eX)),(qq gQ (.bi .neq eg ey))])
def UQ:CC:=(.reg [(qq a6 (.mv xF))])
def UR:CC:=(.seq UP (.cond iH (.seq UQ .ret) .skip))
def US:CC:=(.reg [(qq eN (.mv z0)),(qq iw (.ln .slice iq)),(qq gk (.mv (x6 0)))])
def UT:CC:=(.reg [(qq gS (.bi .lss gH jP))])
def UU:CC:=(.reg [(qq lj (.mv gH)),(qq ke (.iaS 1 iq gH)),(qq gT (.ldn 1 mR)),(aa a8 (.al 42 [.l0])),(qq a7 (.mv lQ)),(ez (.st 1 z8 oc))])
def UV:CC:=(.reg [(qq lL (.mv z1)),(qq kl (.mv z7)),(qq kf (.iaS 1 og mW)),(qq mS (.ldn 1 pf)),(aa a9 (.al 42 [.l0])),(ez (.st 1 z9 qQ))])
def UW:CC:=(.reg [(qq mg (.mv z2)),(qq iU (.ldn 1 z8)),(qq mT (.ldn 1 z9)),(ee ll (.cv qx [qy,qR])),(qq mh (.un .not sN))])
def IH:CC:=(.reg [(qq a6 (.mv xF))])
def II:CC:=(.cond sY (.seq IH .ret) .skip)
def IJ:CC:=(.reg [(qq mU (.bi .add gH (x6 1))),(qq gk (.mv sZ))])
def IK:CC:=(.seq (.block 1 (.seq UU (.seq UV (.seq UW II)))) IJ)
def IL:CC:=(.seq (.cond ir .skip (.exit 0)) IK)
def IM:CC:=(.reg [(qq a6 (.mv xT))])
def IP:CC:=(.seq (.seq US (.block 0 (.loop (.seq UT IL)))) (.seq IM .ret))
def Y0:CF:= .mk 6 [.t a6] (.seq UO (.seq UR IP))
theorem e49(v0 v1 v2:V):bz 6 [v0,v1,v2]=(.n (.n jY (some v1) jY) (some v0) (.n jY (some v2) jY)):=rfl
def B49:=ai @e49 (ai (wu UO.eq_1) (ai (wu UP.eq_1) (ai (wu UQ.eq_1) (ai (wu UR.eq_1) (ai (wu US.eq_1) (ai (wu UT.eq_1) (ai (wu UU.eq_1) (ai (wu UV.eq_1) (ai (wu UW.eq_1) (ai (wu IH.eq_1) (ai (wu II.eq_1) (ai (wu IJ.eq_1) (ai (wu IK.eq_1) (ai (wu IL.eq_1) (ai (wu IM.eq_1) (wu IP.eq_1))))))))))))))))
def UK:CC:=(.reg [(aa a2 (.bx 39 6 z0)),(aa a3 (.bx 39 6 z1)),(qq a4 (.mv xF))])
def YX:=wu UK.eq_1
def UL:CC:=(.reg [(qq a5 (.fa 0 z2)),(qq a6 (.ld1 z5)),(qq a7 (.fa 0 z3)),(qq a8 (.ld1 z7)),(qq a9 (.bi .eql z6 z8)),(qq dX (.mv z9)),(aW fy (.fa 1 z2) dX),(aW fR (.ld1 eg) dX),(aW fc (.fa 1 z3) dX),(aW gQ (.ld1 ey) dX),(aW eN (.eq false .bool false eX iH) dX),(qq iw (.pk gc iq xF)),(qq gk (.mv jP)),(aW gS (.fa 4 z2) gk),(aW lj (.ld1 ir) gk),(aW ke (.fa 4 z3) gk),(aW gT (.ld1 mR) gk),(aW lL (.eq false .bool false lQ oc) gk),(qq kl (.pk gH og xF)),(qq kf (.mv mW)),(aW mS (.fa 2 z2) kf),(aW mg (.ldn 1 qQ) kf),(aW iU (.fa 2 z3) kf),(aW mT (.ldn 1 qy) kf),(pZ ll (.call 48 [qx,qR]) kf),(qq mh (.pk pf sN xF)),(qq mU (.mv sY)),(aW sQ (.fa 3 z2) mU),(aW sR (.ldn 1 wy) mU),(aW qz (.fa 3 z3) mU),(aW lM (.ldn 1 wA) mU),(pZ tA (.call 48 [wz,we]) mU),(qq pS (.pk sZ yO xF)),(qq mV (.mv uz)),(aW ou (.fa 5 z2) mV),(aW tB (.ld1 wB) mV),(aW t4 (.fa 5 z3) mV),(aW tC (.ld1 wg) mV),(pZ tD (.call 49 [yP,yQ,(.c (.f 50 [] []))]) mV),(qq qX (.pk wf yR xF)),(qq a4 (.mv wC))])
def aX6:=wu UL.eq_1
def ZP:CF:= .mk 6 [.t a4] (.seq UK (.seq UL .ret))
theorem e47(v0 v1:V):bz 6 [v0,v1]=(.n (.n jY (some v1) jY) (some v0) Bp):=rfl
def B47:=ai @e47 (ai @YX (@aX6))
deriving instance DecidableEq for eB
theorem fC.one{F:RO}{M:Mem}{c:Nat}{v:V}{l:List (List Pc)}(h:fC F M c v l):bF v=true∧flatten v=[v]∧aC [v]=true:=cE.one h
theorem fC.len{F:RO}{M:Mem}{c:Nat}{v:V}{l:List (List Pc)}(h:fC F M c v l):sU v=some (.i .i64 (l.length:Int)):=cE.len h
theorem fC.max{F:RO}{M:Mem}{c:Nat}{v:V}{l:List (List Pc)}(h:fC F M c v l):l.length≤9223372036854775807:=cE.max h
theorem ka.one{F:RO}{M:Mem}{c:Nat}{v:V}{l:List (List (List Pc))}(h:ka F M c v l):bF v=true∧flatten v=[v]∧aC [v]=true:=cE.one h
theorem ka.len{F:RO}{M:Mem}{c:Nat}{v:V}{l:List (List (List Pc))}(h:ka F M c v l):sU v=some (.i .i64 (l.length:Int)):=cE.len h
theorem ka.max{F:RO}{M:Mem}{c:Nat}{v:V}{l:List (List (List Pc))}(h:ka F M c v l):l.length≤9223372036854775807:=cE.max h
theorem iT.one{F:RO}{M:Mem}{c:Nat}{v:V}{l:List eB}(h:iT F M c v l):bF v=true∧flatten v=[v]∧aC [v]=true:=cE.one h
theorem iT.len{F:RO}{M:Mem}{c:Nat}{v:V}{l:List eB}(h:iT F M c v l):sU v=some (.i .i64 (l.length:Int)):=cE.len h
theorem iT.max{F:RO}{M:Mem}{c:Nat}{v:V}{l:List eB}(h:iT F M c v l):l.length≤9223372036854775807:=cE.max h
theorem w51(Φ:Nat→Option CF)(h:Φ 51=some Pi)(h48:Φ 48=some Lf)(h70:Φ 70=some Gc){F:RO}{M:Mem}{c:Nat}(ok:cV F M c){v1 v2:V}{l1 l2:List (List Pc)}(h1:fC F M c v1 l1)(h2:fC F M c v2 l2):
 Calls Φ F 51 [v1,v2,.f 48 [] []] M c fun r M' c'=>r= .b (decide (l1=l2))∧Gr c M c' M':=by
 refine aI h ?_
 have n1:=h1.len
 have n2:=h2.len
 have mx1:=h1.max
 have hG:∀v,flatten (V.g [v])=[v]:=fun _=>rfl
 by_cases hlen:l1.length=l2.length
 ·have d0:decide (¬((l1.length:Int)=(l2.length:Int)))=false:=ak (by omega);simp only[WX,B51,n1,n2,d0];obtain⟨I,hI⟩:∃I:Nat→St→Prop,∀n s',I n s'↔(∃(i c1:Nat) (M1:Mem) (u:List (Option V)),n=l1.length-i∧i≤l1.length∧s'= .mk ((NM u v1 v2 (.f 48 [] []) v1 (.i .i64 (l1.length:Int)) (.i .i64 (i:Int)))) [] M1 c1∧Gr c M c1 M1∧l1.take i=l2.take i):=⟨fun n s'=>_,fun _ _=>Iff.rfl⟩
  refine bT I ?_ l1.length _ ((hI _ _).2 ⟨0,_,_,(G2 (G1 (X8 (X4 (G2 (G1 (cP (X8 (X4 (X1 [])))))))))),rfl,aB _,rfl,Gr.refl ok,rfl⟩);intro n s' hIs;obtain⟨i,c1,M1,u,rfl,hi,rfl,gr1,hpre⟩:=(hI _ _).1 hIs;clear hIs;by_cases hlt:i<l1.length
  ·have q8:du .add (.i .i64 (i:Int)) (.i .i64 1)=some (.i .i64 ((i+1:Nat):Int)):=by rw[bJ _ _ (by omega) (by omega)];simp
   have hlt2:i<l2.length:=by omega
   have d1:decide ((i:Int)<(l1.length:Int))=true:=aj (by omega);have ok1:=gr1.ok ok;obtain⟨b1,o1,e1,hb1,ia1,ld1,el1,r1⟩:=cE.at (h1.grow gr1) (by decide) i hlt;obtain⟨b2,o2,e2,hb2,ia2,ld2,el2,r2⟩:=cE.at (h2.grow gr1) (by decide) i hlt2;have ia1:=ia1 .i64;have ia2:=ia2 .i64;obtain⟨x1,rfl,w1⟩:=r1;obtain⟨x2,rfl,w2⟩:=r2;obtain⟨y1,y2,y3⟩:=w1.one;obtain⟨z1,z2,z3⟩:=w2.one;have g1:Gr c1 M1 (c1+1) (M1.set c1 (af 36 [x1])):=(Gr.refl ok1).set c1 _ (ag _) (aA _) (aP _);have g2:Gr c1 M1 (c1+2) ((M1.set c1 (af 36 [x1])).set (c1+1) (af 36 [x2])):=g1.set (c1+1) _ (by omega) (by omega) (by omega);have m0:((M1.set c1 (af 36 [x1])).set (c1+1) (af 36 [x2])).get c1=some (af 36 [x1]):=by rw[ah _ _ (by omega)];exact am _ _ _
   have m1:((M1.set c1 (af 36 [x1])).set (c1+1) (af 36 [x2])).get (c1+1)=some (af 36 [x2]):=am _ _ _;have k0:=bc (F:=F) m0 1 rfl;have k1:=bc (F:=F) m1 1 rfl;have ld2':loadN F (M1.set c1 (af 36 [x1])) b2 o2 1=some [x2]:=(g1.loadN hb2 _ _).trans ld2;have hf1:flatten (V.g [x1])=[x1]:=by exact hG _
   have hf2:flatten (V.g [x2])=[x2]:=by exact hG _
   have ha1:aC [x1]=true:=by first|exact y3|exact z3
   have ha2:aC [x2]=true:=by first|exact y3|exact z3
   simp only[WX,Nat.reduceAdd,Nat.reduceLeDiff,B51,d1,ia1,ia2,ld1,ld2',hf1,hf2,ha1,ha2,k0,k1];generalize(M1.set c1 (af 36 [x1])).set (c1+1) (af 36 [x2])=X at g2 m0 m1 k0 k1⊢;refine aw ((w48 Φ h48 h70 (g2.ok ok1) (w1.grow g2) (w2.grow g2)).mono ?_);rintro r M2 c2 ⟨rfl,g3⟩;by_cases he:l1[i]=l2[i]
   ·have dd:decide (l1[i]=l2[i])=true:=aj he;simp only[WX,B51,dd,q8];exact⟨l1.length-(i+1),by omega,(hI _ _).2 ⟨i+1,_,_,(G2 (G1 (X8 (X4 (G2 (G1 (cP (X8 (X4 (X1 [])))))))))),rfl,hlt,rfl,gr1.trans (g2.trans g3),qM hlt hlt2 hpre he⟩⟩
   ·have dd:decide (l1[i]=l2[i])=false:=ak he;simp only[WX,B51,dd];exact⟨by rw[ak (Dz hlt hlt2 he)],gr1.trans (g2.trans g3)⟩
  ·obtain rfl:i=l1.length:=by omega
   have d1:decide ((l1.length:Int)<(l1.length:Int))=false:=ak (by omega);simp only[WX,B51,d1];exact⟨by rw[aj (w5 hlen hpre)],gr1⟩
 ·have d0:decide (¬((l1.length:Int)=(l2.length:Int)))=true:=aj (by omega);simp only[WX,B51,n1,n2,d0];exact⟨by rw[ak (fun e=>hlen (by rw[e]))],Gr.refl ok⟩
theorem w50(Φ:Nat→Option CF)(h:Φ 50=some Qn)(h51:Φ 51=some Pi)(h48:Φ 48=some Lf)(h70:Φ 70=some Gc){F:RO}{M:Mem}{c:Nat}(ok:cV F M c){v1 v2:V}{l1 l2:List (List Pc)}(h1:fC F M c v1 l1)(h2:fC F M c v2 l2):
 Calls Φ F 50 [.g [v1],.g [v2]] M c fun r M' c'=>r= .b (decide (l1=l2))∧Gr c M c' M':=by
 refine aI h ?_
 obtain⟨y1,y2,y3⟩:=h1.one
 obtain⟨z1,z2,z3⟩:=h2.one
 have hG:∀v,flatten (V.g [v])=[v]:=fun _=>rfl
 have gX:=((Gr.refl ok).set c (af 42 [v1]) (ag _) (aA _) (aP _)).set (c+1) (af 42 [v2]) (by omega) (show c+1<c+2 by omega) (by omega)
 have m0:((M.set c (af 42 [v1])).set (c+1) (af 42 [v2])).get c=some (af 42 [v1]):=by rw[ah _ _ (by omega)];exact am _ _ _
 have m1:((M.set c (af 42 [v1])).set (c+1) (af 42 [v2])).get (c+1)=some (af 42 [v2]):=am _ _ _
 have l0:load1 F ((M.set c (af 42 [v1])).set (c+1) (af 42 [v2])) c 0=some v1:=aq m0 0
 have l1:load1 F ((M.set c (af 42 [v1])).set (c+1) (af 42 [v2])) (c+1) 0=some v2:=aq m1 0
 simp only[WX,Nat.reduceAdd,B50,hG,y3,z3,l0,l1]
 generalize(M.set c (af 42 [v1])).set (c+1) (af 42 [v2])=X at gX l0 l1⊢
 refine aw ((w51 Φ h51 h48 h70 (gX.ok ok) (h1.grow gX) (h2.grow gX)).mono ?_)
 rintro r M' c' ⟨rfl,g⟩
 simp only[WX]
 exact gX.trans g
theorem w49(Φ:Nat→Option CF)(h:Φ 49=some Y0)(h50:Φ 50=some Qn)(h51:Φ 51=some Pi)(h48:Φ 48=some Lf)(h70:Φ 70=some Gc){F:RO}{M:Mem}{c:Nat}(ok:cV F M c){v1 v2:V}{l1 l2:List (List (List Pc))}(h1:ka F M c v1 l1)(h2:ka F M c v2 l2):
 Calls Φ F 49 [v1,v2,.f 50 [] []] M c fun r M' c'=>r= .b (decide (l1=l2))∧Gr c M c' M':=by
 refine aI h ?_
 have n1:=h1.len
 have n2:=h2.len
 have mx1:=h1.max
 have hG:∀v,flatten (V.g [v])=[v]:=fun _=>rfl
 by_cases hlen:l1.length=l2.length
 ·have d0:decide (¬((l1.length:Int)=(l2.length:Int)))=false:=ak (by omega);simp only[WX,B49,n1,n2,d0];obtain⟨I,hI⟩:∃I:Nat→St→Prop,∀n s',I n s'↔(∃(i c1:Nat) (M1:Mem) (u:List (Option V)),n=l1.length-i∧i≤l1.length∧s'= .mk ((NM u v1 v2 (.f 50 [] []) v1 (.i .i64 (l1.length:Int)) (.i .i64 (i:Int)))) [] M1 c1∧Gr c M c1 M1∧l1.take i=l2.take i):=⟨fun n s'=>_,fun _ _=>Iff.rfl⟩
  refine bT I ?_ l1.length _ ((hI _ _).2 ⟨0,_,_,(G2 (G1 (X8 (X4 (G2 (G1 (cP (X8 (X4 (X1 [])))))))))),rfl,aB _,rfl,Gr.refl ok,rfl⟩);intro n s' hIs;obtain⟨i,c1,M1,u,rfl,hi,rfl,gr1,hpre⟩:=(hI _ _).1 hIs;clear hIs;by_cases hlt:i<l1.length
  ·have q8:du .add (.i .i64 (i:Int)) (.i .i64 1)=some (.i .i64 ((i+1:Nat):Int)):=by rw[bJ _ _ (by omega) (by omega)];simp
   have hlt2:i<l2.length:=by omega
   have d1:decide ((i:Int)<(l1.length:Int))=true:=aj (by omega);have ok1:=gr1.ok ok;obtain⟨b1,o1,e1,hb1,ia1,ld1,el1,r1⟩:=cE.at (h1.grow gr1) (by decide) i hlt;obtain⟨b2,o2,e2,hb2,ia2,ld2,el2,r2⟩:=cE.at (h2.grow gr1) (by decide) i hlt2;have ia1:=ia1 .i64;have ia2:=ia2 .i64;obtain⟨x1,rfl,w1⟩:=r1;obtain⟨x2,rfl,w2⟩:=r2;obtain⟨y1,y2,y3⟩:=w1.one;obtain⟨z1,z2,z3⟩:=w2.one;have g1:Gr c1 M1 (c1+1) (M1.set c1 (af 42 [x1])):=(Gr.refl ok1).set c1 _ (ag _) (aA _) (aP _);have g2:Gr c1 M1 (c1+2) ((M1.set c1 (af 42 [x1])).set (c1+1) (af 42 [x2])):=g1.set (c1+1) _ (by omega) (by omega) (by omega);have m0:((M1.set c1 (af 42 [x1])).set (c1+1) (af 42 [x2])).get c1=some (af 42 [x1]):=by rw[ah _ _ (by omega)];exact am _ _ _
   have m1:((M1.set c1 (af 42 [x1])).set (c1+1) (af 42 [x2])).get (c1+1)=some (af 42 [x2]):=am _ _ _;have k0:=bc (F:=F) m0 1 rfl;have k1:=bc (F:=F) m1 1 rfl;have ld2':loadN F (M1.set c1 (af 42 [x1])) b2 o2 1=some [x2]:=(g1.loadN hb2 _ _).trans ld2;have hf1:flatten (V.g [x1])=[x1]:=by exact hG _
   have hf2:flatten (V.g [x2])=[x2]:=by exact hG _
   have ha1:aC [x1]=true:=by first|exact y3|exact z3
   have ha2:aC [x2]=true:=by first|exact y3|exact z3
   simp only[WX,Nat.reduceAdd,Nat.reduceLeDiff,B49,d1,ia1,ia2,ld1,ld2',hf1,hf2,ha1,ha2,k0,k1];generalize(M1.set c1 (af 42 [x1])).set (c1+1) (af 42 [x2])=X at g2 m0 m1 k0 k1⊢;refine aw ((w50 Φ h50 h51 h48 h70 (g2.ok ok1) (w1.grow g2) (w2.grow g2)).mono ?_);rintro r M2 c2 ⟨rfl,g3⟩;by_cases he:l1[i]=l2[i]
   ·have dd:decide (l1[i]=l2[i])=true:=aj he;simp only[WX,B49,dd,q8];exact⟨l1.length-(i+1),by omega,(hI _ _).2 ⟨i+1,_,_,(G2 (G1 (X8 (X4 (G2 (G1 (cP (X8 (X4 (X1 [])))))))))),rfl,hlt,rfl,gr1.trans (g2.trans g3),qM hlt hlt2 hpre he⟩⟩
   ·have dd:decide (l1[i]=l2[i])=false:=ak he;simp only[WX,B49,dd];exact⟨by rw[ak (Dz hlt hlt2 he)],gr1.trans (g2.trans g3)⟩
  ·obtain rfl:i=l1.length:=by omega
   have d1:decide ((l1.length:Int)<(l1.length:Int))=false:=ak (by omega);simp only[WX,B49,d1];exact⟨by rw[aj (w5 hlen hpre)],gr1⟩
 ·have d0:decide (¬((l1.length:Int)=(l2.length:Int)))=true:=aj (by omega);simp only[WX,B49,n1,n2,d0];exact⟨by rw[ak (fun e=>hlen (by rw[e]))],Gr.refl ok⟩
theorem ae5{p q:eB}:p=q↔p.join=q.join∧p.nt=q.nt∧p.beh=q.beh∧p.inp=q.inp∧p.out=q.out∧p.cmds=q.cmds:=by
 obtain⟨a,b,c,d,e,f⟩:=p
 obtain⟨a',b',c',d',e',f'⟩:=q
 simp only[eB.mk.injEq]
 constructor
 ·rintro⟨h1,h2,h3,h4,h5,h6⟩;exact⟨h1,h2,h5,h3,h4,h6⟩
 ·rintro⟨h1,h2,h5,h3,h4,h6⟩;exact⟨h1,h2,h3,h4,h5,h6⟩
theorem w47(Φ:Nat→Option CF)(h:Φ 47=some ZP)(h49:Φ 49=some Y0)(h50:Φ 50=some Qn)(h51:Φ 51=some Pi)(h48:Φ 48=some Lf)(h70:Φ 70=some Gc){F:RO}{M:Mem}{c:Nat}(ok:cV F M c){e1 e2:List V}{p q:eB}(h1:P1 F M c e1 p)(h2:P1 F M c e2 q):
 Calls Φ F 47 [.g e1,.g e2] M c fun r M' c'=>r= .b (decide (p=q))∧Gr c M c' M':=by
 refine aI h ?_
 obtain⟨i1,o1,k1,rfl,a1,a2,a3⟩:=h1
 obtain⟨i2,o2,k2,rfl,b1,b2,b3⟩:=h2
 obtain⟨x1,x2,x3⟩:=a1.one
 obtain⟨x4,x5,x6⟩:=a2.one
 obtain⟨x7,x8,x9⟩:=a3.one
 obtain⟨y1,y2,y3⟩:=b1.one
 obtain⟨y4,y5,y6⟩:=b2.one
 obtain⟨y7,y8,y9⟩:=b3.one
 obtain⟨r1,hr1⟩:∃r,r=[V.i .i64 p.join,.b p.nt,i1,o1,.b p.beh,k1]:=⟨_,rfl⟩
 obtain⟨r2,hr2⟩:∃r,r=[V.i .i64 q.join,.b q.nt,i2,o2,.b q.beh,k2]:=⟨_,rfl⟩
 have f1:flatten (V.g r1)=r1:=rfl
 have f2:flatten (V.g r2)=r2:=rfl
 have s1:aC r1=true:=by rw[hr1];simp only[aE,ce,x1,x4,x7,Bool.and_true,Bool.and_self];rfl
 have s2:aC r2=true:=by rw[hr2];simp only[aE,ce,y1,y4,y7,Bool.and_true,Bool.and_self];rfl
 have L1:r1.length=6:=by rw[hr1];rfl
 have L2:r2.length=6:=by rw[hr2];rfl
 rw[←hr1,←hr2]
 have gX:=((Gr.refl ok).set c (af 39 r1) (ag _) (aA _) (aP _)).set (c+1) (af 39 r2) (by omega) (show c+1<c+2 by omega) (by omega)
 have m0:((M.set c (af 39 r1)).set (c+1) (af 39 r2)).get c=some (af 39 r1):=by rw[ah _ _ (by omega)];exact am _ _ _
 have m1:((M.set c (af 39 r1)).set (c+1) (af 39 r2)).get (c+1)=some (af 39 r2):=am _ _ _
 have hfin:decide (p=q)=(decide (p.join=q.join)&&(decide (p.nt=q.nt)&&(decide (p.beh=q.beh)&&(decide (p.inp=q.inp)&&(decide (p.out=q.out)&&decide (p.cmds=q.cmds)))))):=by
  rw[Bool.eq_iff_iff];simp[ae5]
 simp only[WX,Nat.reduceAdd,e47,YX,f1,f2,s1,s2,L1,L2]
 generalize(M.set c (af 39 r1)).set (c+1) (af 39 r2)=X at gX m0 m1⊢
 have A0:load1 F X c 0=some (.i .i64 p.join):=(aq m0 0).trans (by rw[hr1];rfl)
 have A1:load1 F X c 1=some (.b p.nt):=(aq m0 1).trans (by rw[hr1];rfl)
 have A4:load1 F X c 4=some (.b p.beh):=(aq m0 4).trans (by rw[hr1];rfl)
 have A5:load1 F X c 5=some k1:=(aq m0 5).trans (by rw[hr1];rfl)
 have A2:loadN F X c 2 1=some [i1]:=by rw[d8 m0,d7 _ _ _ _ _ _ (by omega),hr1];rfl
 have A3:loadN F X c 3 1=some [o1]:=by rw[d8 m0,d7 _ _ _ _ _ _ (by omega),hr1];rfl
 have B0:load1 F X (c+1) 0=some (.i .i64 q.join):=(aq m1 0).trans (by rw[hr2];rfl)
 have B1:load1 F X (c+1) 1=some (.b q.nt):=(aq m1 1).trans (by rw[hr2];rfl)
 have B4:load1 F X (c+1) 4=some (.b q.beh):=(aq m1 4).trans (by rw[hr2];rfl)
 have B5:load1 F X (c+1) 5=some k2:=(aq m1 5).trans (by rw[hr2];rfl)
 have B2:loadN F X (c+1) 2 1=some [i2]:=by rw[d8 m1,d7 _ _ _ _ _ _ (by omega),hr2];rfl
 have B3:loadN F X (c+1) 3 1=some [o2]:=by rw[d8 m1,d7 _ _ _ _ _ _ (by omega),hr2];rfl
 have okX:=gX.ok ok
 have a1:=a1.grow gX
 have a2:=a2.grow gX
 have a3:=a3.grow gX
 have b1:=b1.grow gX
 have b2:=b2.grow gX
 have b3:=b3.grow gX
 rw[hfin]
 clear hfin m0 m1 hr1 hr2
 by_cases dj:p.join=q.join
 rotate_left
 ·have dj:=ak dj;simp only[WX,B47,A0,B0,dj,Bool.false_and];exact gX
 have dj:=aj dj
 cases dn:decide (p.nt=q.nt)with
 |false=>
  simp only[WX,B47,A0,B0,A1,B1,dj,dn,Bool.false_and];exact gX
 |true=>
 cases db:decide (p.beh=q.beh)with
 |false=>
  simp only[WX,B47,A0,B0,A1,B1,A4,B4,dj,dn,db,Bool.false_and];exact gX
 |true=>
 simp only[WX,B47,A0,B0,A1,B1,A4,B4,A2,B2,dj,dn,db]
 refine aw ((w48 Φ h48 h70 okX a1 b1).mono ?_)
 rintro r M2 c2 ⟨rfl,g2⟩
 cases di:decide (p.inp=q.inp)with
 |false=>
  simp only[WX,Bool.false_and];exact gX.trans g2
 |true=>
 have A3:loadN F M2 c 3 1=some [o1]:=(g2.loadN (by omega) _ _).trans A3
 have B3:loadN F M2 (c+1) 3 1=some [o2]:=(g2.loadN (by omega) _ _).trans B3
 have A5:load1 F M2 c 5=some k1:=(g2.load1 (by omega) _).trans A5
 have B5:load1 F M2 (c+1) 5=some k2:=(g2.load1 (by omega) _).trans B5
 simp only[WX,A3,B3]
 refine aw ((w48 Φ h48 h70 (g2.ok okX) (a2.grow g2) (b2.grow g2)).mono ?_)
 rintro r M3 c3 ⟨rfl,g3⟩
 cases d5:decide (p.out=q.out)with
 |false=>
  simp only[WX,Bool.false_and];exact gX.trans (g2.trans g3)
 |true=>
 have hle2:=g2.le
 have A5:load1 F M3 c 5=some k1:=(g3.load1 (by omega) _).trans A5
 have B5:load1 F M3 (c+1) 5=some k2:=(g3.load1 (by omega) _).trans B5
 simp only[WX,A5,B5]
 refine aw ((w49 Φ h49 h50 h51 h48 h70 ((g2.trans g3).ok okX) (a3.grow (g2.trans g3)) (b3.grow (g2.trans g3))).mono ?_)
 rintro r M4 c4 ⟨rfl,g4⟩
 simp only[WX]
 exact gX.trans ((g2.trans g3).trans g4)
def UB:CC:=(.reg [(qq a6 (.mv xF))])
def UC:CC:=(.reg [(qq dX (.mv z0)),(qq fy (.ln .slice gc)),(qq fR (.mv z1)),(qq fc (.ln .slice eX)),(qq gQ (.bi .neq eg ey))])
def UD:CC:=(.reg [(qq a6 (.mv xF))])
def UE:CC:=(.seq UC (.cond iH (.seq UD .ret) .skip))
def UF:CC:=(.reg [(qq eN (.mv z0)),(qq iw (.ln .slice iq)),(qq gk (.mv (x6 0)))])
def UG:CC:=(.reg [(qq gS (.bi .lss gH jP))])
def UH:CC:=(.reg [(qq lj (.mv gH)),(qq ke (.iaS 6 iq gH)),(qq gT (.ldn 6 mR)),(aa a8 (.al 39 [(.i .i64 0),(.b false),.l0,.l0,(.b false),.l0])),(qq a7 (.mv lQ)),(ez (.st 6 z8 oc))])
def UI:CC:=(.reg [(qq lL (.mv z1)),(qq kl (.mv z7)),(qq kf (.iaS 6 og mW)),(qq mS (.ldn 6 pf)),(aa a9 (.al 39 [(.i .i64 0),(.b false),.l0,.l0,(.b false),.l0])),(ez (.st 6 z9 qQ))])
def UJ:CC:=(.reg [(qq mg (.mv z2)),(qq iU (.ldn 6 z8)),(qq mT (.ldn 6 z9)),(ee ll (.cv qx [qy,qR])),(qq mh (.un .not sN))])
def IA:CC:=(.reg [(qq a6 (.mv xF))])
def IB:CC:=(.cond sY (.seq IA .ret) .skip)
def IC:CC:=(.reg [(qq mU (.bi .add gH (x6 1))),(qq gk (.mv sZ))])
def ID:CC:=(.seq (.block 1 (.seq UH (.seq UI (.seq UJ IB)))) IC)
def IE:CC:=(.seq (.cond ir .skip (.exit 0)) ID)
def IF:CC:=(.reg [(qq a6 (.mv xT))])
def IG:CC:=(.seq (.seq UF (.block 0 (.loop (.seq UG IE)))) (.seq IF .ret))
def c46:CF:= .mk 6 [.t a6] (.seq UB (.seq UE IG))
theorem e46(v0 v1 v2:V):bz 6 [v0,v1,v2]=(.n (.n jY (some v1) jY) (some v0) (.n jY (some v2) jY)):=rfl
def B46:=ai @e46 (ai (wu UB.eq_1) (ai (wu UC.eq_1) (ai (wu UD.eq_1) (ai (wu UE.eq_1) (ai (wu UF.eq_1) (ai (wu UG.eq_1) (ai (wu UH.eq_1) (ai (wu UI.eq_1) (ai (wu UJ.eq_1) (ai (wu IA.eq_1) (ai (wu IB.eq_1) (ai (wu IC.eq_1) (ai (wu ID.eq_1) (ai (wu IE.eq_1) (ai (wu IF.eq_1) (wu IG.eq_1))))))))))))))))
def Tv:CC:=(.reg [(aa a2 (.bx 25 1 z0)),(aa a3 (.bx 25 1 z1)),(qq a4 (.mv xF))])
def Tw:CC:=(.reg [(qq a5 (.fa 0 z2)),(qq a6 (.ld1 z5)),(qq a7 (.fa 0 z3)),(qq a8 (.ld1 z7)),(ee a9 (.call 46 [z6,z8,(.c (.f 47 [] []))])),(qq a4 (.mv z9))])
def c23:CF:= .mk 4 [.t a4] (.seq Tv (.seq Tw .ret))
theorem e23(v0 v1:V):bz 4 [v0,v1]=(.n (.n mL (some v1) mL) (some v0) iE):=rfl
def B23:=ai @e23 (ai (wu Tv.eq_1) (wu Tw.eq_1))
theorem P1.all{F:RO}{M:Mem}{c:Nat}{e:List V}{p:eB}(h:P1 F M c e p):aC e=true:=by
 obtain⟨i1,o1,k1,rfl,a1,a2,a3⟩:=h
 simp only[aE,ce,a1.one.1,a2.one.1,a3.one.1,Bool.and_true,Bool.and_self];rfl
theorem w46(Φ:Nat→Option CF)(h:Φ 46=some c46)(h47:Φ 47=some ZP)(h49:Φ 49=some Y0)(h50:Φ 50=some Qn)(h51:Φ 51=some Pi)(h48:Φ 48=some Lf)(h70:Φ 70=some Gc){F:RO}{M:Mem}{c:Nat}(ok:cV F M c){v1 v2:V}{l1 l2:List (eB)}(h1:iT F M c v1 l1)(h2:iT F M c v2 l2):
 Calls Φ F 46 [v1,v2,.f 47 [] []] M c fun r M' c'=>r= .b (decide (l1=l2))∧Gr c M c' M':=by
 refine aI h ?_
 have n1:=h1.len
 have n2:=h2.len
 have mx1:=h1.max
 have hG:∀v,flatten (V.g [v])=[v]:=fun _=>rfl
 by_cases hlen:l1.length=l2.length
 ·have d0:decide (¬((l1.length:Int)=(l2.length:Int)))=false:=ak (by omega);simp only[WX,B46,n1,n2,d0];obtain⟨I,hI⟩:∃I:Nat→St→Prop,∀n s',I n s'↔(∃(i c1:Nat) (M1:Mem) (u:List (Option V)),n=l1.length-i∧i≤l1.length∧s'= .mk ((NM u v1 v2 (.f 47 [] []) v1 (.i .i64 (l1.length:Int)) (.i .i64 (i:Int)))) [] M1 c1∧Gr c M c1 M1∧l1.take i=l2.take i):=⟨fun n s'=>_,fun _ _=>Iff.rfl⟩
  refine bT I ?_ l1.length _ ((hI _ _).2 ⟨0,_,_,(G2 (G1 (X8 (X4 (G2 (G1 (cP (X8 (X4 (X1 [])))))))))),rfl,aB _,rfl,Gr.refl ok,rfl⟩);intro n s' hIs;obtain⟨i,c1,M1,u,rfl,hi,rfl,gr1,hpre⟩:=(hI _ _).1 hIs;clear hIs;by_cases hlt:i<l1.length
  ·have q8:du .add (.i .i64 (i:Int)) (.i .i64 1)=some (.i .i64 ((i+1:Nat):Int)):=by rw[bJ _ _ (by omega) (by omega)];simp
   have hlt2:i<l2.length:=by omega
   have d1:decide ((i:Int)<(l1.length:Int))=true:=aj (by omega);have ok1:=gr1.ok ok;obtain⟨b1,o1,e1,hb1,ia1,ld1,el1,r1⟩:=cE.at (h1.grow gr1) (by decide) i hlt;obtain⟨b2,o2,e2,hb2,ia2,ld2,el2,r2⟩:=cE.at (h2.grow gr1) (by decide) i hlt2;have ia1:=ia1 .i64;have ia2:=ia2 .i64;have hov1:over [V.i .i64 0,.b false,.l0,.l0,.b false,.l0] 0 e1=e1:=by obtain⟨_,_,_,rfl,_⟩:=r1;rfl
   have hov2:over [V.i .i64 0,.b false,.l0,.l0,.b false,.l0] 0 e2=e2:=by obtain⟨_,_,_,rfl,_⟩:=r2;rfl
   have g1:Gr c1 M1 (c1+1) (M1.set c1 (af 39 e1)):=(Gr.refl ok1).set c1 _ (ag _) (aA _) (aP _);have g2:Gr c1 M1 (c1+2) ((M1.set c1 (af 39 e1)).set (c1+1) (af 39 e2)):=g1.set (c1+1) _ (by omega) (by omega) (by omega);have m0:((M1.set c1 (af 39 e1)).set (c1+1) (af 39 e2)).get c1=some (af 39 e1):=by rw[ah _ _ (by omega)];exact am _ _ _
   have m1:((M1.set c1 (af 39 e1)).set (c1+1) (af 39 e2)).get (c1+1)=some (af 39 e2):=am _ _ _;have k0:=bc (F:=F) m0 6 el1;have k1:=bc (F:=F) m1 6 el2;have ld2':loadN F (M1.set c1 (af 39 e1)) b2 o2 6=some e2:=(g1.loadN hb2 _ _).trans ld2;have hf1:flatten (V.g e1)=e1:=by rfl
   have hf2:flatten (V.g e2)=e2:=by rfl
   have ha1:aC e1=true:=by first|exact r1.all|exact r2.all
   have ha2:aC e2=true:=by first|exact r1.all|exact r2.all
   simp only[WX,Nat.reduceAdd,Nat.reduceLeDiff,B46,d1,ia1,ia2,ld1,ld2',hf1,hf2,ha1,ha2,el1,el2,hov1,hov2,k0,k1];generalize(M1.set c1 (af 39 e1)).set (c1+1) (af 39 e2)=X at g2 m0 m1 k0 k1⊢;refine aw ((w47 Φ h47 h49 h50 h51 h48 h70 (g2.ok ok1) (P1.grow g2 _ _ r1) (P1.grow g2 _ _ r2)).mono ?_);rintro r M2 c2 ⟨rfl,g3⟩;by_cases he:l1[i]=l2[i]
   ·have dd:decide (l1[i]=l2[i])=true:=aj he;simp only[WX,B46,dd,q8];exact⟨l1.length-(i+1),by omega,(hI _ _).2 ⟨i+1,_,_,(G2 (G1 (X8 (X4 (G2 (G1 (cP (X8 (X4 (X1 [])))))))))),rfl,hlt,rfl,gr1.trans (g2.trans g3),qM hlt hlt2 hpre he⟩⟩
   ·have dd:decide (l1[i]=l2[i])=false:=ak he;simp only[WX,B46,dd];exact⟨by rw[ak (Dz hlt hlt2 he)],gr1.trans (g2.trans g3)⟩
  ·obtain rfl:i=l1.length:=by omega
   have d1:decide ((l1.length:Int)<(l1.length:Int))=false:=ak (by omega);simp only[WX,B46,d1];exact⟨by rw[aj (w5 hlen hpre)],gr1⟩
 ·have d0:decide (¬((l1.length:Int)=(l2.length:Int)))=true:=aj (by omega);simp only[WX,B46,n1,n2,d0];exact⟨by rw[ak (fun e=>hlen (by rw[e]))],Gr.refl ok⟩
theorem w23(Φ:Nat→Option CF)(h:Φ 23=some c23)(h46:Φ 46=some c46)(h47:Φ 47=some ZP)(h49:Φ 49=some Y0)(h50:Φ 50=some Qn)(h51:Φ 51=some Pi)(h48:Φ 48=some Lf)(h70:Φ 70=some Gc){F:RO}{M:Mem}{c:Nat}(ok:cV F M c){v1 v2:V}{l1 l2:List eB}(h1:iT F M c v1 l1)(h2:iT F M c v2 l2):
 Calls Φ F 23 [.g [v1],.g [v2]] M c fun r M' c'=>r= .b (decide (l1=l2))∧Gr c M c' M':=by
 refine aI h ?_
 obtain⟨y1,y2,y3⟩:=h1.one
 obtain⟨z1,z2,z3⟩:=h2.one
 have hG:∀v,flatten (V.g [v])=[v]:=fun _=>rfl
 have gX:=((Gr.refl ok).set c (af 25 [v1]) (ag _) (aA _) (aP _)).set (c+1) (af 25 [v2]) (by omega) (show c+1<c+2 by omega) (by omega)
 have m0:((M.set c (af 25 [v1])).set (c+1) (af 25 [v2])).get c=some (af 25 [v1]):=by rw[ah _ _ (by omega)];exact am _ _ _
 have m1:((M.set c (af 25 [v1])).set (c+1) (af 25 [v2])).get (c+1)=some (af 25 [v2]):=am _ _ _
 have l0:load1 F ((M.set c (af 25 [v1])).set (c+1) (af 25 [v2])) c 0=some v1:=aq m0 0
 have l1':load1 F ((M.set c (af 25 [v1])).set (c+1) (af 25 [v2])) (c+1) 0=some v2:=aq m1 0
 simp only[WX,Nat.reduceAdd,B23,hG,y3,z3,l0,l1']
 generalize(M.set c (af 25 [v1])).set (c+1) (af 25 [v2])=X at gX l0 l1'⊢
 refine aw ((w46 Φ h46 h47 h49 h50 h51 h48 h70 (gX.ok ok) (h1.grow gX) (h2.grow gX)).mono ?_)
 rintro r M' c' ⟨rfl,g⟩
 simp only[WX]
 exact gX.trans g
end
end Go.Proofs.YtmbpllipombieaaDoor.Ev
