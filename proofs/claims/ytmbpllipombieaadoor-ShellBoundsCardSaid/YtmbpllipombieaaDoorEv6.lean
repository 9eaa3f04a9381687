/- What is proved here: pieces of the evaluator's soundness: if the evaluator comes to a value, the model's run comes to it, for every world and tape; no conditions beyond the hypotheses of each theorem. -/
import Derived.Test.YtmbpllipombieaaDoorEv5
set_option linter.unusedSimpArgs false
set_option linter.unusedVariables false
set_option linter.defProp false
set_option maxRecDepth 10000
set_option maxHeartbeats 16000000
namespace Go.Proofs.YtmbpllipombieaaDoor.Ev
open Go
noncomputable section
theorem r56(Φ:Nat→Option CF)(h:Φ 56=some c56)(h55:Φ 55=some (.orc (bh h55)))(h73:Φ 73=some (.orc (bh h73)))(h75:Φ 75=some (.orc (bh h75)))(h76:Φ 76=some (.orc (bh h88)))(h77:Φ 77=some (.orc (bh h77)))(h74:Φ 74=some PV){F:RO}{M:Mem}{c:Nat}(ok:cU F M c)(s:List UInt8)(hs:s.length≤400000):
 Calls Φ F 56 [sV s] M c fun r M' c'=>WdP F s c r M' c'∧Gr c M c' M':=by
 refine aM h ?_
 have hF:∀w,flatten (sV w)=[sV w]:=fun _=>rfl
 have aS:∀w,aE [sV w]=true:=fun _=>rfl
 simp only[WX,Nat.reduceAdd,Gf,hF,aS]
 obtain⟨I,hI⟩:∃I:Nat→Nat→St→Prop,∀n l st,I n l st↔(∃(i:Nat) (M1:Mem) (c1:Nat) (w:List Pc) (text:List UInt8) (sm:Bool) (u:List (Option V)),i≤s.length∧st= .mk ((iX u (.p c 0) (.p (c+1) 0) (.p (c+2) 0) (.p (c+3) 0) (.p (c+4) 0) (.p (c+5) 0) (P0 c))) [] M1 c1∧w.length≤2*i∧text.length≤i∧WS M c s M1 c1 w text sm i∧jN s [] [] false 0=jN (s.drop i) w text sm i∧((l=1∧n=2*(s.length-i)+2)∨(l=2∧n=2*(s.length-i)+1∧ ∃hi:i<s.length,s[i]=39)∨(l=0∧n=0∧iW (s.drop i)=none))):=⟨fun n l st=>_,fun _ _ _=>Iff.rfl⟩
 have FIN:∀(u:List (Option V)) (M':Mem) (c':Nat) (v:V) (p i:Nat) (w:List Pc),i≤s.length→jN s [] [] false 0=some (w,i)→Gr c M c' M'→c+6≤c'→M'.get (c+1)=some (af 36 [v])→bm M' (c+6) c' p 64 2 v (kW w)→nW F [.cn (.r .h) 1,.t (.l (.l .h))] (fun r M' c'=>WdP F s c r M' c'∧Gr c M c' M') .ret (.mk ((tY u (.p (c+1) 0) (.i .i64 (i:Int)))) [] M' c'):=by
  intro u M' c' v p i w hi hr g h6 hm hA;obtain⟨w1,w2,w3⟩:=j4 hA;have hld:=bj (F:=F) hm 1 rfl;simp only[WX,hld];exact⟨.inl ⟨w,i,v,hr,hi,rfl,p,BT hA (by omega)⟩,g⟩
 have BAD:∀(u:List (Option V)) (M':Mem) (c':Nat),jN s [] [] false 0=none→Gr c M c' M'→c+6≤c'→M'.get (c+1)=some (af 36 [.l0])→nW F [.cn (.r .h) 1,.t (.l (.l .h))] (fun r M' c'=>WdP F s c r M' c'∧Gr c M c' M') .ret (.mk ((tY u (.p (c+1) 0) (.i .i64 0))) [] M' c'):=by
  intro u M' c' hr g h6 hm;have hld:=bj (F:=F) hm 1 rfl;simp only[WX,hld];exact⟨.inr ⟨hr,rfl⟩,g⟩
 have L1:∀(i:Nat) (M1:Mem) (c1:Nat) (w:List Pc) (text:List UInt8) (sm:Bool) (u:List (Option V)),i≤s.length→w.length≤2*i→text.length≤i→WS M c s M1 c1 w text sm i→jN s [] [] false 0=jN (s.drop i) w text sm i→Wp (.seq .skip (.seq uz uA)) (K Φ none 56 F) (.mk ((iX u (.p c 0) (.p (c+1) 0) (.p (c+2) 0) (.p (c+3) 0) (.p (c+4) 0) (.p (c+5) 0) (P0 c))) [] M1 c1) (jo I (2*(s.length-i)+2) (nW F [.cn (.r .h) 1,.t (.l (.l .h))] (fun r M' c'=>WdP F s c r M' c'∧Gr c M c' M'))):=by
  intro i M1 c1 w text sm u hi hw ht hW hr;refine aW0 Φ h55 h73 h75 h74 ok hi hs (by omega) (by omega) hW (X1 (G2 (X1 (G4 (X1 (G1 (cF (cH (ce (X4 (X1 []))))))))))) _ ?_ ?_ ?_ ?_
  ·intro hst u;rw[jp];exact⟨0,by omega,(hI _ _ _).2 ⟨i,M1,c1,w,text,sm,_,hi,rfl,hw,ht,hW,hr,.inr (.inr ⟨rfl,rfl,hst⟩)⟩⟩
  ·intro hlt h39 u;rw[jp];exact⟨2*(s.length-i)+1,by omega,(hI _ _ _).2 ⟨i,M1,c1,w,text,sm,_,hi,rfl,hw,ht,hW,hr,.inr (.inl ⟨rfl,rfl,hlt,h39⟩)⟩⟩
  ·intro u M' c' j w' text' sm' h1 h2 h3 h4 h5 h6;rw[jp];exact⟨2*(s.length-j)+2,by omega,(hI _ _ _).2 ⟨j,M',c',w',text',sm',_,h2,rfl,by omega,by omega,h6,hr.trans h5,.inl ⟨rfl,rfl⟩⟩⟩
  ·intro hst u M' c' g h6 hm;rw[dF];exact BAD _ M' c' (hr.trans (CS hst)) g h6 hm
 have L2:∀(i:Nat) (M1:Mem) (c1:Nat) (w:List Pc) (text:List UInt8) (sm:Bool) (u:List (Option V)),i≤s.length→w.length≤2*i→text.length≤i→WS M c s M1 c1 w text sm i→jN s [] [] false 0=jN (s.drop i) w text sm i→Wp JA (K Φ none 56 F) (.mk ((iX u (.p c 0) (.p (c+1) 0) (.p (c+2) 0) (.p (c+3) 0) (.p (c+4) 0) (.p (c+5) 0) (P0 c))) [] M1 c1) (pI zt (K Φ none 56 F) (jo I (2*(s.length-i)+2) (nW F [.cn (.r .h) 1,.t (.l (.l .h))] (fun r M' c'=>WdP F s c r M' c'∧Gr c M c' M')))):=by
  intro i M1 c1 w text sm u hi hw ht hW hr;have:=L1 i M1 c1 w text sm u hi hw ht hW hr;rw[Bt,Df,xR,Bt]at this;exact this
 refine u9 I ?_ (2*(s.length-0)+2) _ _ ?_
 ·intro n l st hIs;obtain⟨i,M1,c1,w,text,sm,u,hi,rfl,hw,ht,hW,hr,hcs⟩:=(hI _ _ _).1 hIs;clear hIs;rcases hcs with⟨rfl,rfl⟩|⟨rfl,rfl,hlt,h39⟩|⟨rfl,rfl,hst⟩
  ·exact⟨_,rfl,L1 i M1 c1 w text sm u hi hw ht hW hr⟩
  ·refine⟨_,rfl,?_⟩;refine aW1 Φ h76 h77 ok hlt hs (by omega) (by omega) h39 hW u _ ?_ ?_
   ·intro u M' c' k hst hj hW';rw[jp];refine⟨2*(s.length-(i+(k+2)))+2,by omega,(hI _ _ _).2 ⟨i+(k+2),M',c',w,_,true,_,hj,rfl,by omega,?_,hW',?_,.inl ⟨rfl,rfl⟩⟩⟩
    ·rw[aO,List.length_take];omega
    ·rw[hr,rC hst,List.drop_drop]
   ·intro hst u M' c' g h6 hm;rw[dF];exact BAD _ M' c' (hr.trans (CS hst)) g h6 hm
  ·refine⟨_,rfl,?_⟩;refine aV9 Φ h74 ok hi hs (by omega) (by omega) hst hW u _ ?_;intro u M' c' v p g h6 hm hA;rw[dF];exact FIN _ M' c' v p i _ hi (hr.trans (xI hst)) g h6 hm hA
 ·simp only[WX,Nat.reduceAdd,Nat.reduceLeDiff,YL,YM,YN,O7,O8,O9];have g:=((((((Gr.refl ok).set c (af 9 [sV s]) (ah _) (aA _) (aG _)).set (c+1) (af 36 [V.l0]) (by omega) (show c+1<c+2 by omega) (by omega)).set (c+2) (af 34 [V.l0]) (by omega) (show c+2<c+3 by omega) (by omega)).set (c+3) (af 96 [V.l0]) (by omega) (show c+3<c+4 by omega) (by omega)).set (c+4) (af 4 [V.b false]) (by omega) (show c+4<c+5 by omega) (by omega)).set (c+5) (af 3 [V.i IntKind.i64 0]) (by omega) (show c+5<c+6 by omega) (by omega);have hW0:WS M c s ((((((M.set c (af 9 [sV s])).set (c+1) (af 36 [V.l0])).set (c+2) (af 34 [V.l0])).set (c+3) (af 96 [V.l0])).set (c+4) (af 4 [V.b false])).set (c+5) (af 3 [V.i IntKind.i64 0])) (c+6) [] [] false 0:=by
   refine⟨.l0,.l0,0,0,g,ah _,?_,?_,?_,?_,?_,am _ _ _,bm.nil,bm.nil⟩
   ·rw[ag _ _ (by omega),ag _ _ (by omega),ag _ _ (by omega),ag _ _ (by omega),ag _ _ (by omega)];exact am _ _ _
   ·rw[ag _ _ (by omega),ag _ _ (by omega),ag _ _ (by omega),ag _ _ (by omega)];exact am _ _ _
   ·rw[ag _ _ (by omega),ag _ _ (by omega),ag _ _ (by omega)];exact am _ _ _
   ·rw[ag _ _ (by omega),ag _ _ (by omega)];exact am _ _ _
   ·rw[ag _ _ (by omega)];exact am _ _ _
  exact L2 0 _ (c+6) [] [] false (X1 (G2 (X1 (G4 (X1 (G1 (cF (cH (ce (X4 (X1 []))))))))))) (az _) (az _) (az _) hW0 (by rw[List.drop_zero])
abbrev Tk:=Nat×List UInt8×List Pc
def yf:Nat→List UInt8→Nat→List Tk
 |0,_,_=>[]
 |_+1,[],_=>[]
 |f+1,x::t,i=>
  if x=32 then yf f t (i+1)
  else if cP (x::t)≠[]then(i,cP (x::t),[])::yf f ((x::t).drop (cP (x::t)).length) (i+(cP (x::t)).length)
  else match jN (x::t) [] [] false 0 with
   |none=>[]
   |some (ps,n)=>if n=0 then[]else(i,[],ps)::yf f ((x::t).drop n) (i+n)
theorem ip{l:List UInt8}(h:l≠[]):0<l.length:=by cases l with|nil=>exact absurd rfl h|cons a l=>simp
theorem iY:∀(f g:Nat) (r:List UInt8) (i:Nat),r.length<f→r.length<g→yf f r i=yf g r i
 |0,_,_,_,h,_=>by omega
 |_,0,_,_,_,h=>by omega
 |f+1,g+1,[],_,_,_=>rfl
 |f+1,g+1,x::t,i,h1,h2=>by
  rw[aw]at h1 h2;unfold yf;split
  ·exact iY f g t _ (by omega) (by omega)
  ·split
   ·rename_i hs;have:=ip hs;rw[iY f g _ _ (by rw[bu,aw];omega) (by rw[bu,aw];omega)]
   ·split
    ·rfl
    ·split
     ·rfl
     ·rename_i hn;rw[iY f g _ _ (by rw[bu,aw];omega) (by rw[bu,aw];omega)]
def tk(r:List UInt8)(i:Nat):List Tk:=yf (r.length+1) r i
theorem Yw{t:List UInt8}(i:Nat):tk (32::t) i=tk t (i+1):=by
 unfold tk;rw[yf,ac rfl]
 exact iY _ _ _ _ (by rw[aw];omega) (by omega)
theorem aj7{x:UInt8}{t:List UInt8}(i:Nat)(hx:x≠32)(hs:cP (x::t)≠[]):tk (x::t) i=(i,cP (x::t),[])::tk ((x::t).drop (cP (x::t)).length) (i+(cP (x::t)).length):=by
 have:=ip hs
 unfold tk;rw[yf,ab hx,ac hs,iY _ _ _ _ ?_ (aA _)]
 rw[bu,aw];omega
theorem Yx{x:UInt8}{t:List UInt8}{ps:List Pc}{n:Nat}(i:Nat)(hx:x≠32)(hs:cP (x::t)=[])(hr:jN (x::t) [] [] false 0=some (ps,n))(hn:n≠0):tk (x::t) i=(i,[],ps)::tk ((x::t).drop n) (i+n):=by
 unfold tk;rw[yf,ab hx,ab (fun h=>h hs),hr]
 dsimp only
 rw[ab hn,iY _ _ _ _ ?_ (aA _)]
 rw[bu,aw];omega
theorem NK{x:UInt8}{t:List UInt8}(i:Nat)(hx:x≠32)(hs:cP (x::t)=[])(hr:∀ps n,jN (x::t) [] [] false 0=some (ps,n)→n=0):tk (x::t) i=[]:=by
 unfold tk;rw[yf,ab hx,ab (fun h=>h hs)]
 split
 ·rfl
 ·rename_i ps n h;rw[ac (hr ps n h)]
def rT:Nat→List UInt8→Bool
 |0,_=>true
 |_+1,[]=>true
 |f+1,x::t=>
  if x=32 then rT f t
  else if cP (x::t)≠[]then rT f ((x::t).drop (cP (x::t)).length)
  else match jN (x::t) [] [] false 0 with
   |none=>false
   |some (_,n)=>if n=0 then false else rT f ((x::t).drop n)
theorem gw:∀(f g:Nat) (r:List UInt8),r.length<f→r.length<g→rT f r=rT g r
 |0,_,_,h,_=>by omega
 |_,0,_,_,h=>by omega
 |f+1,g+1,[],_,_=>rfl
 |f+1,g+1,x::t,h1,h2=>by
  rw[aw]at h1 h2;unfold rT;split
  ·exact gw f g t (by omega) (by omega)
  ·split
   ·rename_i hs;have:=ip hs;rw[gw f g _ (by rw[bu,aw];omega) (by rw[bu,aw];omega)]
   ·split
    ·rfl
    ·split
     ·rfl
     ·rename_i hn;rw[gw f g _ (by rw[bu,aw];omega) (by rw[bu,aw];omega)]
def rS(r:List UInt8):Bool:=rT (r.length+1) r
theorem NI{t:List UInt8}:rS (32::t)=rS t:=by
 unfold rS;rw[rT,ac rfl]
 exact gw _ _ _ (by rw[aw];omega) (by omega)
theorem RL{x:UInt8}{t:List UInt8}(hx:x≠32)(hs:cP (x::t)≠[]):rS (x::t)=rS ((x::t).drop (cP (x::t)).length):=by
 have:=ip hs
 unfold rS;rw[rT,ab hx,ac hs,gw _ _ _ ?_ (aA _)]
 rw[bu,aw];omega
theorem NJ{x:UInt8}{t:List UInt8}{ps:List Pc}{n:Nat}(hx:x≠32)(hs:cP (x::t)=[])(hr:jN (x::t) [] [] false 0=some (ps,n))(hn:n≠0):rS (x::t)=rS ((x::t).drop n):=by
 unfold rS;rw[rT,ab hx,ab (fun h=>h hs),hr]
 dsimp only
 rw[ab hn,gw _ _ _ ?_ (aA _)]
 rw[bu,aw];omega
theorem D9{x:UInt8}{t:List UInt8}(hx:x≠32)(hs:cP (x::t)=[])(hr:∀ps n,jN (x::t) [] [] false 0=some (ps,n)→n=0):rS (x::t)=false:=by
 unfold rS;rw[rT,ab hx,ab (fun h=>h hs)]
 split
 ·rfl
 ·rename_i ps n h;rw[ac (hr ps n h)]
theorem rI(l:List UInt8):(cP l).length≤l.length:=by
 match l with
 |[]=>exact ah _
 |[a]=>rw[Ry];split<;>simp
 |a::b::r=>rw[vu];split
           ·simp
           ·split<;>simp
theorem pZ:∀(f:Nat) (r:List UInt8) (i:Nat),(yf f r i).length≤r.length
 |0,_,_=>az _
 |_+1,[],_=>ah _
 |f+1,x::t,i=>by
  unfold yf;split
  ·have:=pZ f t (i+1);rw[aw];omega
  ·split
   ·rename_i hs;have:=ip hs;have:=pZ f ((x::t).drop (cP (x::t)).length) (i+(cP (x::t)).length);rw[bu]at this;have:=rI (x::t);simp only[aw]at *;omega
   ·split
    ·exact az _
    ·split
     ·exact az _
     ·rename_i ps n h hn;have:=pZ f ((x::t).drop n) (i+n);rw[bu]at this;simp only[aw]at *;omega
theorem aj6(r:List UInt8)(i:Nat):(tk r i).length≤r.length:=pZ _ _ _
abbrev b05(u:List (Option V))(x0 x1 x5:V):T:=(.n (.n (.n (aJ u 31 15 47 7 39 23 55) (uO u 3) (aJ u 35 19 51 11 43 27 59)) (some x1) (.n (aJ u 33 17 49 9 41 25 57) (some x5) (aJ u 37 21 53 13 45 29 61))) (some x0) (.n (.n (aJ u 32 16 48 8 40 24 56) (uO u 4) (aJ u 36 20 52 12 44 28 60)) (uO u 2) (.n (aJ u 34 18 50 10 42 26 58) (uO u 6) (aJ u 38 22 54 14 46 30 62))))
def Ta:CC:=(.reg [(qq a4 (.mv xF))])
def Tb:CC:=(.reg [(qq a5 (.mv (x6 0)))])
def Tc:CC:=(.reg [(qq a8 (.mv z5)),(qq a9 (.mv z0)),(qq dV (.ln .str z9)),(qq fo (.bi .lss z8 fT))])
def Td:CC:=(.reg [(qq fF (.mv z0)),(qq eO (.mv z5)),(qq gp (.ixS eP ej)),(qq eC (.bi .eql i9 (.c (.i .u8 32))))])
def Te:CC:=(.reg [(qq i7 (.mv z5)),(qq fY (.bi .add j3 (x6 1))),(qq a5 (.mv gy))])
def Tf:CC:=(.cond i5 (.seq Te (.exit 1)) .skip)
def Tg:CC:=(.reg [(qq gG (.mv z0)),(qq kG (.mv z5)),(qq jI (.slS ju (some mA) none)),(ee i4 (.call 55 [mB])),(qq lw (.bld [(.s 0 0),.l0] [(0,1,nK)])),(aa a6 (.al 59 [(.s 0 0),.l0])),(ez (.st 2 z6 nL)),(qq a7 (.mv (x6 0)))])
def Th:CC:=(.reg [(qq kH (.fa 0 z6)),(qq jJ (.ld1 mC)),(qq mq (.ln .str oJ)),(qq a7 (.mv qh))])
def Ti:CC:=(.reg [(qq lL (.mv z7)),(qq iH (.bi .eql pL (x6 0)))])
def HI:CC:=(.reg [(qq kI (.mv z0)),(qq lM (.mv z5)),(qq mr (.slS qj (some rZ) none)),(ee sf (.call 56 [sk])),(qq nO (.mv vN)),(qq sg (.ex 0 qi)),(qq pM (.ex 1 qi)),(qq lm (.fa 1 z6)),(ez (.st 1 vP yo)),(qq a7 (.mv vO))])
def HJ:CC:=(.seq Ti (.cond nE HI .skip))
def HK:CC:=(.reg [(qq sP (.mv z7)),(qq po (.bi .eql yp (x6 0))),(qq mt (.mv ua)),(aH nP (.mv z1) mt),(aH sQ (.mv z5) mt),(aH sw (.ldn 2 z6) mt),(gK sR (.cv w7 [yq,vQ]) mt),(aH sS (.un .not yr) mt),(qq qy (.pk w6 xT yt))])
def HL:CC:=(.reg [(qq a4 (.mv xF))])
def HM:CC:=(.cond w8 (.seq HL .ret) .skip)
def HN:CC:=(.reg [(qq ui (.mv z5)),(qq nQ (.mv z7)),(qq uj (.bi .add yI FH)),(qq a5 (.mv yJ))])
def HO:CC:=(.seq (.seq Th HJ) (.seq (.seq HK HM) HN))
def HP:CC:=(.seq (.seq Tc (.cond ec .skip (.exit 0))) (.block 1 (.seq (.seq Td Tf) (.seq Tg HO))))
def HQ:CC:=(.reg [(qq a4 (.mv xT))])
def HR:CC:=(.seq Tb (.seq (.block 0 (.loop HP)) (.seq HQ .ret)))
def c28:CF:= .mk 6 [.t a4] (.seq Ta HR)
theorem e28(v0 v1:V):bA 6 [v0,v1]=(.n (.n j1 (some v1) j1) (some v0) AZ):=rfl
def FO:=ai @e28 (ai (wu Ta.eq_1) (ai (wu Tb.eq_1) (ai (wu Tc.eq_1) (ai (wu Td.eq_1) (ai (wu Te.eq_1) (ai (wu Tf.eq_1) (ai (wu Tg.eq_1) (ai (wu Th.eq_1) (ai (wu Ti.eq_1) (ai (wu HI.eq_1) (ai (wu HJ.eq_1) (ai (wu HK.eq_1) (ai (wu HL.eq_1) (ai (wu HM.eq_1) (ai (wu HN.eq_1) (ai (wu HO.eq_1) (ai (wu HP.eq_1) (ai (wu HQ.eq_1) (wu HR.eq_1)))))))))))))))))))
theorem bp3(Φ:Nat→Option CF)(h:Φ 28=some c28)(h56:Φ 56=some c56)(h55:Φ 55=some (.orc (bh h55)))(h73:Φ 73=some (.orc (bh h73)))(h75:Φ 75=some (.orc (bh h75)))(h76:Φ 76=some (.orc (bh h88)))(h77:Φ 77=some (.orc (bh h77)))(h74:Φ 74=some PV){F:RO}{M:Mem}{c:Nat}{yv:V}{s:List UInt8}(hs:s.length≤400000){I:Nat→Mem→Nat→Prop}{J:Mem→Nat→Prop}(h0:I 0 M c)
 (hOk:∀k M1 c1,I k M1 c1→cU F M1 c1∧c≤c1) (hGr:∀k M1 c1 M2 c2,I k M1 c1→Gr c1 M1 c2 M2→I k M2 c2)
 (hY:∀k M1 c1 pv b,(hk:k<(tk s 0).length)→I k M1 c1→bD pv=true→bm M1 c c1 b 64 2 pv (kW (tk s 0)[k].2.2)→nF (mL (K Φ none 28 F) yv [.i .i64 ((tk s 0)[k].1:Int),.g [sV (tk s 0)[k].2.1,pv]] M1 c1) fun r M' c'=>(r= .b true∧I (k+1) M' c')∨(r= .b false∧J M' c')):
 Calls Φ F 28 [sV s,yv] M c fun r M' c'=>(r= .b (rS s)∧I (tk s 0).length M' c')∨(r= .b false∧J M' c'):=by
 refine aM h ?_
 simp only[WX,FO]
 obtain⟨Iv,hIv⟩:∃Iv:Nat→St→Prop,∀n s',Iv n s'↔(∃(i k:Nat) (M1:Mem) (c1:Nat) (u:List (Option V)),n=s.length-i∧i≤s.length∧k≤(tk s 0).length∧s'= .mk ((b05 u (sV s) yv (.i .i64 (i:Int)))) [] M1 c1∧tk (s.drop i) i=(tk s 0).drop k∧I k M1 c1∧rS s=rS (s.drop i)):=⟨fun n s'=>_,fun _ _=>Iff.rfl⟩
 refine bS Iv ?_ s.length _ ((hIv _ _).2 ⟨0,0,_,_,(G2 (X2 (X1 (G1 (cH (ce (X8 (X1 [])))))))),rfl,az _,az _,rfl,rfl,h0,rfl⟩)
 intro n s' hIs
 obtain⟨i,k,M1,c1,u,rfl,hi,hk,rfl,hpre,hik,hto⟩:=(hIv _ _).1 hIs
 clear hIs
 obtain⟨ok1,hc1⟩:=hOk _ _ _ hik
 have hF:∀w,flatten (sV w)=[sV w]:=fun _=>rfl
 have hO:∀w,bD (sV w)=true:=fun _=>rfl
 have FIN:tk (s.drop i) i=[]→k=(tk s 0).length:=by
  intro ht;rw[ht]at hpre;have:=List.drop_eq_nil_iff.1 hpre.symm;omega
 by_cases hlt:i<s.length
 ·have d1:decide ((i:Int)<(s.length:Int))=true:=aj (by omega);have hix:uW (sV s) (.i .i64 (i:Int))=some (.i .u8 ((s[i]).toNat:Int)):=EG s .i64 i hlt;have hdr:s.drop i=s[i]::s.drop (i+1):=cQ hlt;have hsl:xW (sV s) (some (.i .i64 (i:Int))) none=some (sV (s[i]::s.drop (i+1))):=by rw[←hdr];exact Np s .i64 i hi
  have hsg:=LI (s[i]::s.drop (i+1));rw[Nf]at hsg;have hxn:∀k:UInt8,decide (((s[i]).toNat:Int)=(k.toNat:Int))=decide (s[i]=k):=fun k=>by congr 1;exact propext ⟨fun e=>UInt8.toNat_inj.1 (by omega),fun e=>by rw[e]⟩
  have x32:=hxn 32;simp only[UInt8.reduceToNat,Int.cast_ofNat_Int]at x32;clear hxn;by_cases h32:s[i]=32
  ·rw[aj h32]at x32;have q1:cZ .add (.i .i64 (i:Int)) (.i .i64 1)=some (.i .i64 ((i+1:Nat):Int)):=by rw[bF _ _ (by omega) (by omega)];simp
   simp only[WX,reduceCtorEq,FO,d1,hix,x32,q1];exact⟨s.length-(i+1),by omega,(hIv _ _).2 ⟨i+1,k,M1,c1,(G2 (X2 (X1 (G1 (cH (ce (X8 (X1 [])))))))),rfl,hlt,hk,rfl,by rw[←hpre,hdr,h32,Yw],hik,by rw[hto,hdr,h32,NI]⟩⟩
  ·rw[ak h32]at x32;have fS:=hF;have a2:∀w v,bD v=true→aE [sV w,v]=true:=fun w v hv=>by rw[aD,aD,cg,hv];rfl
   by_cases hsn:cP (s[i]::s.drop (i+1))=[]
   ·rw[hsn]at hsg;have d0:decide (((([]:List UInt8).length:Nat):Int)=0)=true:=rfl;have e0:sV []=V.s 0 0:=rfl;simp only[WX,Nat.reduceAdd,Nat.reduceLeDiff,FO,d1,hix,x32,hsl,h55,hsg,hF,hO,Int.ofNat_zero];have gX:=(Gr.refl ok1).set c1 (af 59 [sV [],V.l0]) (ah _) (aA _) (aG _);have okX:=gX.ok ok1;refine av ((r56 Φ h56 h55 h73 h75 h76 h77 h74 okX (s[i]::s.drop (i+1)) (by rw[←hdr,bu];omega)).mono ?_);rintro r M2 c2 ⟨hwd,g2⟩;have hG:∀v,flatten (V.g [v])=[v]:=fun _=>rfl;have m1:=(g2.old c1 (by omega)).trans (am M1 c1 (af 59 [sV [],V.l0]));have hle2:=g2.le;rcases hwd with⟨ps,n,v2,hrd,hn,rfl,b2,hA2⟩|⟨hrd,rfl⟩
    ·obtain⟨w1,w2,w3⟩:=j4 hA2;have st1:=aK m1 1 [v2] (by simp) w3;have gF:Gr c1 M1 c2 (M2.set c1 (af 59 (over [sV [],V.l0] 1 [v2]))):=(gX.trans g2).set c1 _ (ah _) (by omega) (ah _);have ldx:=bj (F:=F) (am M2 c1 (af 59 [sV [],v2])) 2 rfl;have hov:over [sV [],V.l0] 1 [v2]=[sV [],v2]:=rfl;rw[hov]at st1 gF;by_cases hn0:n=0
     ·have dn:decide ((n:Int)=0)=true:=aj (by omega);simp only[WX,FO,hG,st1,dn];exact .inl ⟨by rw[hto,hdr,D9 h32 hsn (fun ps' n' e=>by rw[hrd]at e;injection e with e;injection e with e1 e2;omega)],FIN (by rw[hdr];exact NK i h32 hsn (fun ps' n' e=>by rw[hrd]at e;injection e with e;injection e with e1 e2;omega))▸hGr _ _ _ _ _ hik gF⟩
     ·have dn:decide ((n:Int)=0)=false:=ak (by omega);obtain⟨j,hj⟩:∃j,j=i+n:=⟨_,rfl⟩
      have hjl:j≤s.length:=by rw[←hdr,bu]at hn;omega
      have q2:cZ .add (.i .i64 (i:Int)) (.i .i64 (n:Int))=some (.i .i64 (j:Int)):=by rw[bF _ _ (by omega) (by omega),hj];simp
      have ht:=Yx i h32 hsn hrd hn0;rw[←hdr,hpre,List.drop_drop,←hj]at ht;have hklt:k<(tk s 0).length:=by
       by_cases hh:k<(tk s 0).length
       ·exact hh
       ·rw[List.drop_eq_nil_of_le (by omega)]at ht;cases ht
      rw[cQ hklt]at ht;injection ht with g1 g2'
      have hy:=hY k _ c2 v2 b2 hklt (hGr _ _ _ _ _ hik gF) w1 (by rw[g1];exact BT (jQ hA2 (by omega)) (by omega));rw[g1]at hy;simp only[WX,FO,hG,st1,dn,ldx];refine av (hy.mono ?_);rintro b M3 c3 (⟨rfl,hi3⟩|⟨rfl,hj3⟩)
      ·simp only[WX,FO,q2];exact⟨s.length-j,by omega,(hIv _ _).2 ⟨j,k+1,M3,c3,(G2 (X2 (X1 (G1 (cH (ce (X8 (X1 [])))))))),rfl,hjl,hklt,rfl,g2'.symm,hi3,by rw[hto,hdr,NJ h32 hsn hrd hn0,hj,←hdr,List.drop_drop]⟩⟩
      ·simp only[WX,FO];exact .inr hj3
    ·have st1:=aK m1 1 [V.l0] (by simp) rfl;have gF:Gr c1 M1 c2 (M2.set c1 (af 59 (over [sV [],V.l0] 1 [V.l0]))):=(gX.trans g2).set c1 _ (ah _) (by omega) (ah _);have dn:decide ((0:Int)=0)=true:=rfl;simp only[WX,Nat.reduceAdd,FO,hG,st1];exact .inl ⟨by rw[hto,hdr,D9 h32 hsn (fun ps' n' e=>by rw[hrd]at e;cases e)],FIN (by rw[hdr];exact NK i h32 hsn (fun ps' n' e=>by rw[hrd]at e;cases e))▸hGr _ _ _ _ _ hik gF⟩
   ·have dg:decide (((cP (s[i]::s.drop (i+1))).length:Int)=0)=false:=ak (by have:=ip hsn;omega);simp only[WX,Nat.reduceAdd,Nat.reduceLeDiff,FO,d1,hix,x32,hsl,h55,hsg,hF,hO,dg];have gX:=(Gr.refl ok1).set c1 (af 59 [sV (cP (s[i]::s.drop (i+1))),V.l0]) (ah _) (aA _) (aG _);obtain⟨j,hj⟩:∃j,j=i+(cP (s[i]::s.drop (i+1))).length:=⟨_,rfl⟩
    have hgl:=rI (s[i]::s.drop (i+1));have hgp:=ip hsn;have hjl:j≤s.length:=by rw[←hdr,bu,hdr]at hgl;omega
    have q2:cZ .add (.i .i64 (i:Int)) (.i .i64 ((cP (s[i]::s.drop (i+1))).length:Int))=some (.i .i64 (j:Int)):=by rw[bF _ _ (by omega) (by omega),hj];simp
    have ht:=aj7 i h32 hsn;rw[←hj,show(s[i]::s.drop (i+1)).drop (cP (s[i]::s.drop (i+1))).length=s.drop j from by rw[hj,←hdr,List.drop_drop]]at ht;have ht2:=hpre;rw[hdr,ht]at ht2;have hklt:k<(tk s 0).length:=by
     by_cases hh:k<(tk s 0).length
     ·exact hh
     ·rw[show(tk s 0).drop k=[]from List.drop_eq_nil_of_le (by omega)]at ht2;cases ht2
    rw[cQ hklt]at ht2;injection ht2 with g1 g2'
    have hy:=hY k _ (c1+1) .l0 0 hklt (hGr _ _ _ _ _ hik gX) rfl (by rw[←g1];exact bm.nil);rw[←g1]at hy;refine av (hy.mono ?_);rintro b M3 c3 (⟨rfl,hi3⟩|⟨rfl,hj3⟩)
    ·simp only[WX,FO,q2];exact⟨s.length-j,by omega,(hIv _ _).2 ⟨j,k+1,M3,c3,(G2 (X2 (X1 (G1 (cH (ce (X8 (X1 [])))))))),rfl,hjl,hklt,rfl,g2',hi3,by rw[hto,hdr,RL h32 hsn,hj,←hdr,List.drop_drop]⟩⟩
    ·simp only[WX,FO];exact .inr hj3
 ·obtain rfl:i=s.length:=by omega
  have d1:decide ((s.length:Int)<(s.length:Int))=false:=ak (by omega);simp only[WX,FO,d1];exact .inl ⟨by rw[hto,dG];rfl,FIN (by rw[dG];rfl)▸hik⟩
theorem Cs{F:RO}{M:Mem}{c:Nat}{v:V}{ps:List Pc}(h:cB F M c 2 v (kW ps))(i:Nat)(hi:i<ps.length):∃b o,b<c∧(∀k,iN 2 v (.i k (i:Int))=some (.p b o))∧loadN F M b o 2=some (EZ ps[i]):=by
 obtain⟨b,o,h1,h2,h3⟩:=h.at i (by rw[dY];exact hi)
 have e:(kW ps)[i]'(by rw[dY];exact hi)=EZ ps[i]:=by simp[kW]
 rw[e]at h3
 exact⟨b,o,h1,h2,h3.load (by simp[EZ])⟩
def VT:CC:=(.reg [(qq a2 (.mv z0)),(qq a3 (.nck z2)),(qq a4 (.fa 0 z3)),(qq a5 (.ld1 z4)),(qq a6 (.eq false .ptr true z5 (.c .p0)))])
def VU:CC:=(.reg [(qq a7 (.mv z0)),(qq a8 (.mv z0)),(qq a9 (.up z8)),(qq dV (.mv z9)),(qq fo (.dn 99 2 fT)),(qq fF (.nck z7)),(qq eO (.fa 0 eP)),(ez (.st 1 ej ec))])
def VV:CC:=(.reg [(qq gp (.mv z0)),(qq eC (.nck i9)),(qq i7 (.fa 0 i5)),(qq fY (.ld1 j3)),(qq gG (.mv z0)),(qq kG (.eq true .ptr false gy ju))])
def VW:CC:=(.cond z6 VU (.seq VV (.cond mA .bad .skip)))
def vW:CF:= .mk 5 [] (.seq VT VW)
theorem e71(v0:V):bA 5 [v0]=(.n j1 (some v0) j1):=rfl
def B71:=ai @e71 (ai (wu VT.eq_1) (ai (wu VU.eq_1) (ai (wu VV.eq_1) (wu VW.eq_1))))
def Xx:CC:=(.dreg 16 [(0,0,(qq a5 (.mv z0))),(1,1,(qq a6 (.nck z5))),(2,3,(qq a7 (.fa 1 z6))),(3,7,(qq a8 (.ld1 z7))),(4,15,(qq a9 (.cp z8))),(5,31,(qq dV (.bi .mul (x6 2) z9))),(6,0,(qq fo (.mv z1))),(7,127,(qq fF (.bi .add fT ec))),(8,255,(aa eO (.nz 5 eP))),(9,0,(qq gp (.mv z0))),(10,512,(qq eC (.nck i9))),(11,1536,(qq i7 (.fa 1 i5))),(12,3584,(qq fY (.ld1 j3))),(13,7680,(qq gG (.ln .slice gy))),(14,16383,(qq kG (.slL 1 ej none (some ju) none))),(15,32767,(qq a4 (.mv mA)))])
def Xy:CC:=(.reg [(qq jI (.mv z4)),(qq i4 (.mv z0)),(qq lw (.nck nK)),(qq kH (.fa 1 nL)),(qq jJ (.ld1 mC)),(ee mq (.cpy 1 mB oJ))])
def Xz:CC:=(.reg [(qq lL (.mv z0)),(qq iH (.mv z4)),(qq nO (.nck pL)),(qq kI (.fa 1 qi)),(ez (.st 1 qj nE))])
def OZ:CF:= .mk 5 [] (.seq Xx (.seq Xy Xz))
theorem e89(v0 v1:V):bA 5 [v0,v1]=(.n (.n ir (some v1) ir) (some v0) j1):=rfl
def B89:=ai @e89 (ai (wu Xx.eq_1) (ai (wu Xy.eq_1) (wu Xz.eq_1)))
def Wk:CC:=(.reg [(qq a4 (.mv z0)),(ee a5 (.call 71 [z4]))])
def Wl:CC:=(.reg [(qq a6 (.mv z1)),(qq a7 (.bi .lss z6 (x6 0)))])
def Wm:CC:=(.reg [(qq a8 (.mki 9 (.c (.s 36 226187813140227768008177986391742176399534891738691412630441701833056540972817830802547)))),⟨none,.q (.bad),none⟩])
def Wn:CC:=(.dreg 13 [(0,0,(qq a9 (.mv z0))),(1,1,(qq dV (.nck z9))),(2,3,(qq fo (.fa 1 fT))),(3,7,(qq fF (.ld1 ec))),(4,15,(qq eO (.cp eP))),(5,0,(qq gp (.mv z0))),(6,32,(qq eC (.nck i9))),(7,96,(qq i7 (.fa 1 i5))),(8,224,(qq fY (.ld1 j3))),(9,480,(qq gG (.ln .slice gy))),(10,1023,(qq kG (.bi .sub ej ju))),(11,0,(qq jI (.mv z1))),(12,4095,(qq i4 (.bi .lss mA mB)))])
def Wo:CC:=(.reg [(qq lw (.mv z0)),(qq kH (.mv z1)),(ee jJ (.call 89 [nL,mC]))])
def Wq:CC:=(.seq Wn (.cond nK Wo .skip))
def Wr:CC:=(.seq (.seq Wl (.cond z7 Wm .skip)) Wq)
def PW:CF:= .mk 5 [] (.seq Wk Wr)
theorem e79(v0 v1:V):bA 5 [v0,v1]=(.n (.n ir (some v1) ir) (some v0) j1):=rfl
def B79:=ai @e79 (ai (wu Wk.eq_1) (ai (wu Wl.eq_1) (ai (wu Wm.eq_1) (ai (wu Wn.eq_1) (ai (wu Wo.eq_1) (ai (wu Wq.eq_1) (wu Wr.eq_1)))))))
def UF:CC:=(.reg [(qq a4 (.mv (x6 0))),(qq a5 (.mv (.c .a0)))])
def UG:CC:=(.reg [(qq a6 (.mv z0)),(ee a7 (.call 71 [z6]))])
def UH:CC:=(.reg [(qq a8 (.mv z0)),(qq a9 (.mv z0)),(qq dV (.nck z9)),(qq fo (.fa 1 fT)),(qq fF (.ld1 ec)),(qq eO (.mv z1)),(ee gp (.app 5 1 1 eP ej)),(qq eC (.nck z8)),(qq i7 (.fa 1 i5)),(ez (.st 1 j3 i9))])
def UI:CC:=(.reg [(qq fY (.mv z1)),(qq gG (.ln .str gy)),(qq a4 (.mv ju)),(qq a5 (.mv (.c .a0)))])
def yB:CF:= .mk 5 [.t a4,.t a5] (.seq UF (.seq UG (.seq UH (.seq UI .ret))))
theorem e52(v0 v1:V):bA 5 [v0,v1]=(.n (.n ir (some v1) ir) (some v0) j1):=rfl
def B52:=ai @e52 (ai (wu UF.eq_1) (ai (wu UG.eq_1) (ai (wu UH.eq_1) (wu UI.eq_1))))
def UJ:CC:=(.dreg 12 [(0,0,(qq a3 (.mv z0))),(1,1,(qq a4 (.nck z3))),(2,3,(qq a5 (.fa 1 z4))),(3,7,(qq a6 (.ld1 z5))),(4,15,(qq a7 (.sd z6))),(5,0,(qq a8 (.mv z0))),(6,32,(qq a9 (.nck z8))),(7,96,(qq dV (.fa 1 z9))),(8,224,(qq fo (.ld1 fT))),(9,480,(qq fF (.ln .slice ec))),(10,1023,(ee eO (.us 5 z7 eP))),(11,2047,(qq a2 (.mv ej)))])
def UK:CC:=(.seq (.reg [(qq a2 (.mv (.c (.s 0 0))))]) (.seq UJ .ret))
def yC:CF:= .mk 4 [.t a2] UK
theorem e54(v0:V):bA 4 [v0]=(.n ir (some v0) ir):=rfl
def B54:=ai @e54 (ai (wu UJ.eq_1) (wu UK.eq_1))
def jv(M:Mem)(c0 c b bb:Nat)(l:List UInt8):Prop:=
 c0≤b∧b<c∧b≠bb∧ ∃a v,M.get b=some (af 99 [a,v])∧(a= .p0∨a= .p b 0)∧oK M c0 c bb v l
theorem jv.up{M M':Mem}{c0 c c' b bb:Nat}{l:List UInt8}(h:jv M c0 c b bb l)(hc:c≤c')(hb:∀x,x<c→M'.get x=M.get x):jv M' c0 c' b bb l:=by
 obtain⟨h1,h2,h1003,a,v,h1004,h1005,h1006⟩:=h
 exact⟨h1,by omega,h1003,a,v,by rw[hb b h2];exact h1004,h1005,h1006.up hc (hb bb)⟩
theorem ad3{F:RO}(lit:Bool)(M:Mem):vX F M .ptr lit .p0 .p0=some true:=Eq.trans rfl (Eq.refl _)
theorem ad4{F:RO}(lit:Bool)(M:Mem)(b o:Nat):vX F M .ptr lit (.p b o) .p0=some false:=Eq.trans rfl (Eq.refl _)
theorem ad5{F:RO}(lit:Bool)(M:Mem)(b o:Nat):vX F M .ptr lit (.p b o) (.p b o)=some true:=by
 show xq F M b o b o=_
 unfold xq
 rw[bI,aj rfl,cond_true,Nat.beq_refl]
theorem C2{M:Mem}{c0 c b:Nat}{v:V}{l:List UInt8}(h:oK M c0 c b v l):bD v=true∧flatten v=[v]∧tD v=some (.i .i64 (l.length:Int)):=by
 rcases h with⟨rfl,rfl⟩|⟨_,_,n,_,rfl,_⟩
 ·exact⟨rfl,rfl,An⟩
 ·exact⟨rfl,rfl,Mg _ _ _ _ _⟩
theorem r71(Φ:Nat→Option CF)(h:Φ 71=some vW){F:RO}{M:Mem}{c b:Nat}{a v:V}(hM:M.get b=some (af 99 [a,v]))(ha:a= .p0∨a= .p b 0):
 Calls Φ F 71 [.p b 0] M c fun _ M' c'=>M'=M.set b (af 99 [.p b 0,v])∧c'=c:=by
 refine aM h ?_
 have l0:load1 F M b 0=some a:=aq hM 0
 rcases ha with rfl|rfl
 ·have hu:upV F M (.p b 0)=some (.p b 0):=RM hM (by simp);have hd:dnV 99 2 F M (.p b 0)=some (.p b 0):=Qb hM;have hst:=aK hM 0 [.p b 0] (by simp) rfl;simp only[WX,B71,u6,iA,l0,ad3,bq9,bq6,hu,hd,hst]
 ·simp only[WX,B71,u6,iA,l0,ad4,ad5];exact cX hM
theorem r89(Φ:Nat→Option CF)(h:Φ 89=some OZ){F:RO}{M:Mem}{c b:Nat}(ok:cU F M c)(hb:b<c)(hM:M.get b=some (af 99 [.p b 0,.l0]))(n:Nat)(hn:n≤1099511627776):
 Calls Φ F 89 [.p b 0,.i .i64 (n:Int)] M c fun _ M' c'=>M'=(M.set (c+8) (oz 5 n [])).set b (af 99 [.p b 0,.u (c+8) 0 0 0 n])∧c'=c+16:=by
 refine aM h ?_
 have l1:load1 F M b 1=some .l0:=aq hM 1
 have hlk:(look F M (c+8)).isNone=true:=by rw[ok.look (show c≤c+8 by omega)];rfl
 have hne:b≠c+8:=by omega
 have m2:cZ .mul (.i .i64 2) (.i .i64 0)=some (.i .i64 0):=Cf 2 0 (by omega) (by omega)
 have a2:cZ .add (.i .i64 0) (.i .i64 (n:Int))=some (.i .i64 (n:Int)):=by rw[bF _ _ (by omega) (by omega)];simp
 have hsl:sJ 1 (.u (c+8) 0 n 0 n) none (some (.i .i64 0)) none=some (.u (c+8) 0 0 0 n):=by
  show(lI 1 (c+8) 0 0 n 0 0).val=_;unfold lI;rw[bW,bW,aj (az n),aj (az 0)];show(Y8 (c+8) 0 0 0 n).val=_;rw[uZ];rfl
 have l2:load1 F (M.set (c+8) (oz 5 n [])) b 1=some .l0:=by rw[wW _ _ _ hne];exact l1
 have hg2:(M.set (c+8) (oz 5 n [])).get b=some (af 99 [.p b 0,.l0]):=by rw[ag _ _ hne];exact hM
 have hst:=aK hg2 1 [.u (c+8) 0 0 0 n] (by simp) rfl
 simp only[WX,Nat.reduceAdd,B89,nV,iA,u6,l1,Ll,zN,m2,a2,ZV,vF,ng,aW5,hn,hlk,cI,bv,hne,ne_eq,not_false_eq_true,ac7,hsl,iy,l2,Ot,ab3,hst]
theorem jm{n:Nat}(h:n≤1073741824):kr n 1=true:=gk (by omega) (by omega)
theorem r79(Φ:Nat→Option CF)(h:Φ 79=some PW)(h71:Φ 71=some vW)(h89:Φ 89=some OZ){F:RO}{M0 M:Mem}{c0 c b:Nat}(ok:cU F M c)(hg:Gr c0 M0 c M)(k1:c0≤b)(k2:b<c)(hM:M.get b=some (af 99 [.p0,.l0]))(n:Nat)(hn:n≤1099511627776):
 Calls Φ F 79 [.p b 0,.i .i64 (n:Int)] M c fun _ M' c'=>∃bb',jv M' c0 c' b bb' []∧Gr c0 M0 c' M'∧c≤c'∧(∀x,x<c→x≠b→M'.get x=M.get x):=by
 refine aM h ?_
 simp only[WX,B79]
 refine av ((r71 Φ h71 hM (.inl rfl)).mono ?_)
 rintro v1 M1 c1 ⟨rfl,rfl⟩
 have hg1:=hg.set b (af 99 [.p b 0,.l0]) k1 k2 (ah _)
 have ok1:=ok.put (y:=af 99 [.p b 0,.l0]) k2 hM
 have g1:(M.set b (af 99 [.p b 0,.l0])).get b=some (af 99 [.p b 0,.l0]):=am _ _ _
 have l1:load1 F (M.set b (af 99 [.p b 0,.l0])) b 1=some .l0:=aq g1 1
 have d0:decide ((n:Int)<0)=false:=ak (by omega)
 have s0:cZ .sub (.i .i64 0) (.i .i64 0)=some (.i .i64 0):=by rw[zC];rfl
 by_cases hz:n=0
 ·have d1:decide ((0:Int)<(n:Int))=false:=ak (by omega);simp only[WX,B79,d0,nV,iA,l1,Ll,zN,s0,d1];exact⟨c1,⟨k1,by omega,by omega,_,_,g1,.inr rfl,.inl ⟨rfl,rfl⟩⟩,hg1.up (by omega),by omega,fun x hx hxb=>ag _ _ hxb⟩
 ·have d1:decide ((0:Int)<(n:Int))=true:=aj (by omega);simp only[WX,B79,d0,nV,iA,l1,Ll,zN,s0,d1];have ok2:cU F (M.set b (af 99 [.p b 0,.l0])) (c1+13):=⟨fun x hx=>ok1.hiM x (by omega),fun x hx=>ok1.hiF x (by omega),ok1.ap,by have:=ok1.ge;omega⟩
  refine av ((r89 Φ h89 ok2 (by omega) g1 n hn).mono ?_);rintro v2 M2 c2 ⟨rfl,rfl⟩;simp only[WX,Nat.reduceAdd];refine⟨c1+13+8,⟨k1,by omega,by omega,_,_,am _ _ _,.inr rfl,.inr ⟨by omega,by omega,n,⟨az _,by omega⟩,rfl,?_⟩⟩,?_,by omega,fun x hx hxb=>?_⟩
  ·rw[ag _ _ (by omega),am];rfl
  ·exact((hg1.up (show c1≤c1+13 by omega)).set (c1+13+8) _ (by have:=hg.le;omega) (show c1+13+8<c1+13+16 by omega) (by omega)).set b _ k1 (by omega) (by omega)
  ·rw[ag _ _ hxb,ag _ _ (by omega),ag _ _ hxb]
theorem r52(Φ:Nat→Option CF)(h:Φ 52=some yB)(h71:Φ 71=some vW){F:RO}{M0 M:Mem}{c0 c b bb:Nat}{l:List UInt8}(ok:cU F M c)(hg:Gr c0 M0 c M)(hb:jv M c0 c b bb l)(s:List UInt8)(hr:kr (l.length+s.length) 1=true):
 Calls Φ F 52 [.p b 0,sV s] M c fun _ M' c'=>∃bb',jv M' c0 c' b bb' (l++s)∧Gr c0 M0 c' M'∧c≤c'∧(∀x,x<c→x≠b→x≠bb→M'.get x=M.get x)∧(bb'=bb∨c≤bb'):=by
 obtain⟨k1,k2,k3,a,v,hM,ha,hbuf⟩:=hb
 refine aM h ?_
 simp only[WX,B52]
 refine av ((r71 Φ h71 hM ha).mono ?_)
 rintro v1 M1 c1 ⟨rfl,rfl⟩
 have hg1:=hg.set b (af 99 [.p b 0,v]) k1 k2 (ah _)
 have g1:(M.set b (af 99 [.p b 0,v])).get b=some (af 99 [.p b 0,v]):=am _ _ _
 have l1:load1 F (M.set b (af 99 [.p b 0,v])) b 1=some v:=aq g1 1
 have hbuf1:oK (M.set b (af 99 [.p b 0,v])) c0 c1 bb v l:=by
  rcases hbuf with h|⟨a1,a2,n,a3,a4,a5⟩
  ·exact .inl h
  ·exact .inr ⟨a1,a2,n,a3,a4,by rw[ag _ _ (Ne.symm k3)];exact a5⟩
 simp only[WX,B52,u6,iA,l1]
 refine av ((aa2 (F:=F) (s:=s) hbuf1 hg1 hr).mono ?_)
 rintro v2 M2 c2 ⟨bb',hb2,hg2,hle,hfr,hbb⟩
 have g2:M2.get b=some (af 99 [.p b 0,v]):=by rw[hfr b (by omega) k3];exact g1
 obtain⟨o1,o2,_⟩:=C2 hb2
 have hst:=aK g2 1 [v2] (by simp) (by rw[aD,o1];rfl)
 simp only[WX,Nat.reduceAdd,B52,u6,iA,o2,hst]
 have hne:b≠bb':=by rcases hbb with h|h<;>omega
 refine⟨bb',⟨k1,by omega,hne,_,_,am _ _ _,.inr rfl,?_⟩,hg2.set b _ k1 (by omega) (ah _),hle,fun x hx hxb hxbb=>?_,hbb⟩
 ·rcases hb2 with h|⟨a1,a2,n,a3,a4,a5⟩
  ·exact .inl h
  ·exact .inr ⟨a1,a2,n,a3,a4,by rw[ag _ _ (Ne.symm hne)];exact a5⟩
 ·rw[ag _ _ hxb,hfr x hx hxbb,ag _ _ hxb]
def usE(F:RO)(M:Mem)(c ty:Nat)(x n:V):RC:=Lt ty (.c x) (.c n) F M c .e
theorem vL{Φ:Nat→Option CF}{rd:Option Nat}{fn:Nat}{F:RO}(ty:Nat)(x n:X)(M:Mem)(c:Nat)(t:T):ew (.us ty x n) (K Φ rd fn F) M c t=usE F M c ty (x.ev t) (n.ev t):=Eq.trans rfl (Eq.refl _)
theorem b21{F:RO}(M:Mem)(c ty:Nat):usE F M c ty .p0 (.i .i64 0)= .k (.s 0 0) M c:=Eq.trans rfl (Eq.refl _)
theorem ak1{F:RO}(M:Mem)(c ty b o:Nat):usE F M c ty (.p b o) (.i .i64 0)= .k (.s 0 0) M c:=Eq.trans rfl (Eq.refl _)
theorem RN{F:RO}{M:Mem}{b n:Nat}(c:Nat){l:List UInt8}(hM:M.get b=some (oz 5 n (l.map bV)))(hn:l.length≤n)(hl:l≠[])(hl2:l.length≤1099511627776):
 ∃y,usE F M c 5 (.p b 0) (.i .i64 (l.length:Int))= .k (sV l) (M.set b y) c:=by
 have hld:=(rE (F:=F) hM (by rw[List.length_map];exact hn)).load (by
  intro e;rw[List.map_eq_nil_iff]at e;exact hl e)
 rw[List.length_map]at hld
 have h0:l.length≠0:=fun e=>hl (List.length_eq_zero_iff.1 e)
 refine⟨.cells 5 n false (if 0≤0+l.length then 0+l.length else 0) false [] (gm (l.map bV)),?_⟩
 show C9 F M c 5 b 0 l.length=_
 unfold C9
 rw[bI,ak h0,cond_false]
 have ht:NL M b 5=true:=by unfold NL;rw[hM];rfl
 rw[ht,bW,aj hl2]
 show(match loadN F M b 0 l.length with|some vs=>Ca M c b 0 (fw vs)|none=>RC.f)=_
 rw[hld]
 show Ca M c b 0 (fw (l.map bV))=_
 rw[qH]
 have hf:kP M b 0 l.length=some (M.set b (.cells 5 n false (if 0≤0+l.length then 0+l.length else 0) false [] (gm (l.map bV)))):=by
  unfold kP;rw[hM];show(bif false then none else fN (bif Nat.ble 0 (Nat.add 0 l.length)then Nat.add 0 l.length else 0) fun fz=>some (M.set b (.cells 5 n false fz false [] (gm (l.map bV)))))=_;rw[cond_false,bp,bW];by_cases h:0≤0+l.length
  ·rw[aj (show 0≤Nat.add 0 l.length from h),ac h];rfl
  ·exact absurd (az _) h
 show(match kP M b 0 l.length with|some M=>fN l.length fun n=>fN (bT l) fun s=>RC.k (.s n s) M c|none=> .f)=_
 rw[hf]
 show(fN l.length fun n=>fN (bT l) fun s=>RC.k (.s n s) _ c)=_
 rw[bp,bp];rfl
theorem r54(Φ:Nat→Option CF)(h:Φ 54=some yC){F:RO}{M0 M:Mem}{c0 c b bb:Nat}{l:List UInt8}(ok:cU F M c)(hg:Gr c0 M0 c M)(hb:jv M c0 c b bb l)(hl:l.length≤1099511627776):
 Calls Φ F 54 [.p b 0] M c fun r M' c'=>r=sV l∧Gr c0 M0 c' M'∧c≤c'∧(∀x,x≠bb→M'.get x=M.get x):=by
 obtain⟨k1,k2,k3,a,v,hM,ha,hbuf⟩:=hb
 refine aM h ?_
 have l1:load1 F M b 1=some v:=aq hM 1
 obtain⟨o1,o2,o1003⟩:=C2 hbuf
 rcases hbuf with⟨rfl,rfl⟩|⟨a1,a2,n,⟨a3,a4⟩,rfl,a5⟩
 ·have hf:=ok.free;rw[aL]at o1003;simp only[WX,Nat.reducePow,Nat.reduceDiv,Nat.reduceMod,Nat.reduceBEq,kC,B54,nV,iA,l1,Lm,ai5,o1003,vL,b21,Int.ofNat_zero,hf];exact⟨rfl,hg.up (by omega),by omega,fun _ _=>trivial⟩
 ·by_cases hl0:l=[]
  ·subst hl0;have hf:=ok.free;rw[aL]at o1003;simp only[WX,Nat.reducePow,Nat.reduceDiv,Nat.reduceMod,Nat.reduceBEq,kC,B54,nV,iA,l1,Lm,Yh a4,o1003,vL,ak1,Int.ofNat_zero,hf];exact⟨rfl,hg.up (by omega),by omega,fun _ _=>trivial⟩
  ·obtain⟨y,hy⟩:=RN (F:=F) (c+12) a5 a3 hl0 hl;have hf:bH (M.set bb y) F=true:=(ok.put (y:=y) a2 a5).free;simp only[WX,Nat.reducePow,Nat.reduceDiv,Nat.reduceMod,Nat.reduceBEq,kC,B54,nV,iA,l1,Lm,Yh a4,o1003,vL,hy,hf];exact⟨(hg.set bb y a1 a2 (ah _)).up (by omega),by omega,fun x hx=>ag _ _ hx⟩
abbrev b02(u:List (Option V))(x0 x1 x5 x39 x40 x41:V):T:=(.n (.n (.n (.n (aJ u 63 31 95 15 79 47 111) (uO u 7) (.n (.n (eg u 71) (some x39) (eg u 103)) (uO u 23) (ek u 87 55 119))) (uO u 3) (.n (aJ u 67 35 99 19 83 51 115) (uO u 11) (aJ u 75 43 107 27 91 59 123))) (some x1) (.n (.n (aJ u 65 33 97 17 81 49 113) (uO u 9) (.n (.n (eg u 73) (some x41) (eg u 105)) (uO u 25) (ek u 89 57 121))) (some x5) (.n (aJ u 69 37 101 21 85 53 117) (uO u 13) (aJ u 77 45 109 29 93 61 125)))) (some x0) (.n (.n (.n (aJ u 64 32 96 16 80 48 112) (uO u 8) (.n (.n (eg u 72) (some x40) (eg u 104)) (uO u 24) (ek u 88 56 120))) (uO u 4) (.n (aJ u 68 36 100 20 84 52 116) (uO u 12) (aJ u 76 44 108 28 92 60 124))) (uO u 2) (.n (.n (aJ u 66 34 98 18 82 50 114) (uO u 10) (aJ u 74 42 106 26 90 58 122)) (uO u 6) (.n (aJ u 70 38 102 22 86 54 118) (uO u 14) (aJ u 78 46 110 30 94 62 126)))))
abbrev b03(u:List (Option V))(x0 x1 x8 x63 x64 x65:V):T:=(.n (.n (.n (.n (.n (.n (.n .e (some x63) .e) (uO u 31) (eg u 95)) (uO u 15) (ek u 79 47 111)) (uO u 7) (aJ u 71 39 103 23 87 55 119)) (uO u 3) (.n (aJ u 67 35 99 19 83 51 115) (uO u 11) (aJ u 75 43 107 27 91 59 123))) (some x1) (.n (.n (.n (.n (.n .e (some x65) .e) (uO u 33) (eg u 97)) (uO u 17) (ek u 81 49 113)) (uO u 9) (aJ u 73 41 105 25 89 57 121)) (uO u 5) (.n (aJ u 69 37 101 21 85 53 117) (uO u 13) (aJ u 77 45 109 29 93 61 125)))) (some x0) (.n (.n (.n (.n (.n (.n .e (some x64) .e) (uO u 32) (eg u 96)) (uO u 16) (ek u 80 48 112)) (some x8) (aJ u 72 40 104 24 88 56 120)) (uO u 4) (.n (aJ u 68 36 100 20 84 52 116) (uO u 12) (aJ u 76 44 108 28 92 60 124))) (uO u 2) (.n (.n (aJ u 66 34 98 18 82 50 114) (uO u 10) (aJ u 74 42 106 26 90 58 122)) (uO u 6) (.n (aJ u 70 38 102 22 86 54 118) (uO u 14) (aJ u 78 46 110 30 94 62 126)))))
def Vj:CC:=(.reg [(qq a4 (.mv (.c (.s 0 0))))])
def Vk:CC:=(.reg [(qq fo (.mv z0)),(qq fF (.ln .slice ec))])
def Vl:CC:=(.reg [(qq gp (.bi .eql eP (x6 0))),(qq eO (.mv i9))])
def Vm:CC:=(.reg [(qq a4 (.mv (.c (.s 0 0))))])
def Vn:CC:=(.reg [(qq i7 (.bi .eql eP (x6 1))),(qq eC (.mv j3))])
def Vo:CC:=(.reg [(qq fY (.mv z0)),(qq gG (.iaS 1 gy (x6 0))),(qq kG (.ld1 ju)),(qq a4 (.mv mA))])
def Vp:CC:=(.seq Vn (.cond i5 (.seq Vo .ret) .skip))
def Vq:CC:=(.seq Vl (.cond ej (.seq Vm .ret) Vp))
def Vr:CC:=(.reg [(qq a5 (.mv (x6 0)))])
def JQ:CC:=(.reg [(qq jI (.mv z1)),(qq i4 (.ln .str mB)),(qq lw (.bi .gtr nK (x6 0)))])
def JR:CC:=(.reg [(qq kH (.mv z1)),(qq jJ (.ln .str mC)),(qq mq (.mv z0)),(qq lL (.ln .slice qh)),(qq iH (.bi .sub pL (x6 1))),(qq nO (.bi .quo (x6 9223372036854775807) nE)),(qq kI (.bi .geq oJ qi))])
def JS:CC:=(.reg [(qq lM (.mki 9 (.c (.s 36 232023140547069528372253906381035003553488466437483087989658184371904395368843875349619)))),⟨none,.q (.bad),none⟩])
def JT:CC:=(.seq JR (.cond qj JS .skip))
def JU:CC:=(.reg [(qq mr (.mv z5)),(qq sf (.mv z1)),(qq sg (.ln .str vN)),(qq pM (.mv z0)),(qq lm (.ln .slice vO)),(qq sP (.bi .sub vP (x6 1))),(qq po (.bi .mul yo yp)),(qq mt (.bi .add sk ua)),(qq a5 (.mv w6))])
def JV:CC:=(.cond nL (.seq JT JU) .skip)
def JW:CC:=(.reg [(qq nP (.mv z0)),(qq sQ (.ln .slice w7)),(qq sw (.mv (x6 0)))])
def JX:CC:=(.reg [(qq sR (.bi .lss vQ yq))])
def JY:CC:=(.reg [(qq sS (.iaS 1 w7 vQ)),(qq qy (.ld1 yt)),(qq a7 (.mv w8))])
def JZ:CC:=(.reg [(qq ui (.mv z7)),(qq nQ (.ln .str yI)),(qq uj (.mv z5)),(qq vR (.bi .sub (x6 9223372036854775807) yJ)),(qq wh (.bi .gtr FH BA))])
def K0:CC:=(.reg [(qq wj (.mki 9 (.c (.s 36 232023140547069528372253906381035003553488466437483087989658184371904395368843875349619)))),⟨none,.q (.bad),none⟩])
def K1:CC:=(.seq JZ (.cond FI K0 .skip))
def K8:CC:=(.reg [(qq wl (.mv z5)),(qq sy (.mv z7)),(qq yQ (.ln .str Dk)),(qq BG (.bi .add Dj G5)),(qq a5 (.mv G6))])
def Ka:CC:=(.reg [(qq BH (.bi .add vQ (x6 1))),(qq sw (.mv Ow))])
def Kb:CC:=(.seq (.cond yr .skip (.exit 1)) (.seq (.block 2 (.seq JY (.seq K1 K8))) Ka))
def Kc:CC:=(.reg [(aa a8 (.al 99 [.p0,.l0]))])
def Kd:CC:=(.reg [(qq yR (.mv z5)),(ee BI (.call 79 [z8,FK]))])
def Ke:CC:=(.reg [(qq BJ (.mv z0)),(qq vT (.iaS 1 Oy (x6 0))),(qq BK (.ld1 Oz)),(ee vU (.call 52 [z8,OA]))])
def Kf:CC:=(.reg [(qq BL (.mv z0)),(qq vV (.slL 1 OB (some (x6 1)) none none)),(qq BM (.ln .slice FL)),(qq yS (.mv (x6 0)))])
def Kg:CC:=(.reg [(qq qz (.bi .lss FM P5))])
def Kh:CC:=(.cond G7 .skip (.exit 3))
def Ki:CC:=(.reg [(qq uk (.iaS 1 FL FM)),(qq yT (.ld1 G9)),(qq dV (.mv FN))])
def Kj:CC:=(.reg [(qq yU (.mv z1)),(ee yV (.call 52 [z8,Ga]))])
def Kk:CC:=(.reg [(qq yz (.mv fT)),(ee yW (.call 52 [z8,Gb]))])
def Kl:CC:=(.reg [(qq fG (.bi .add FM (x6 1))),(qq yS (.mv w9))])
def Km:CC:=(.seq Kh (.seq (.block 4 (.seq Ki (.seq Kj Kk))) Kl))
def Ko:CC:=(.reg [(ee yA (.call 54 [z8])),(qq a4 (.mv Gc))])
def Kq:CC:=(.seq (.seq Kf (.block 3 (.loop (.seq Kg Km)))) (.seq Ko .ret))
def Kr:CC:=(.seq (.seq JW (.block 1 (.loop (.seq JX Kb)))) (.seq Kc (.seq Kd (.seq Ke Kq))))
def Ks:CC:=(.seq (.seq Vk (.block 0 Vq)) (.seq Vr (.seq (.seq JQ JV) Kr)))
def OX:CF:= .mk 7 [.t a4] (.seq Vj Ks)
theorem e60(v0 v1:V):bA 7 [v0,v1]=(.n (.n AZ (some v1) AZ) (some v0) Nk):=rfl
def Gg:=ai @e60 (ai (wu Vj.eq_1) (ai (wu Vk.eq_1) (ai (wu Vl.eq_1) (ai (wu Vm.eq_1) (ai (wu Vn.eq_1) (ai (wu Vo.eq_1) (ai (wu Vp.eq_1) (ai (wu Vq.eq_1) (ai (wu Vr.eq_1) (ai (wu JQ.eq_1) (ai (wu JR.eq_1) (ai (wu JS.eq_1) (ai (wu JT.eq_1) (ai (wu JU.eq_1) (ai (wu JV.eq_1) (ai (wu JW.eq_1) (ai (wu JX.eq_1) (ai (wu JY.eq_1) (ai (wu JZ.eq_1) (ai (wu K0.eq_1) (ai (wu K1.eq_1) (ai (wu K8.eq_1) (ai (wu Ka.eq_1) (ai (wu Kb.eq_1) (ai (wu Kc.eq_1) (ai (wu Kd.eq_1) (ai (wu Ke.eq_1) (ai (wu Kf.eq_1) (ai (wu Kg.eq_1) (ai (wu Kh.eq_1) (ai (wu Ki.eq_1) (ai (wu Kj.eq_1) (ai (wu Kk.eq_1) (ai (wu Kl.eq_1) (ai (wu Km.eq_1) (ai (wu Ko.eq_1) (ai (wu Kq.eq_1) (ai (wu Kr.eq_1) (wu Ks.eq_1)))))))))))))))))))))))))))))))))))))))
theorem D6{F:RO}{M:Mem}{c:Nat}{v:V}{l:List (List UInt8)}(hs:cB F M c 1 v (fQ l)):tD v=some (.i .i64 (l.length:Int)):=by
 have:=hs.len;rwa [fQ,List.length_map]at this
def dq:List (List UInt8)→Nat
 |[]=>0
 |w::r=>w.length+1+dq r
theorem rN:∀(l:List (List UInt8)) (k:Nat),dq (l.take k)≤dq l
 |[],k=>by rw[List.take_nil];exact ah _
 |w::r,0=>az _
 |w::r,k+1=>by rw[List.take_succ_cons,dq,dq];have:=rN r k;omega
theorem bO:∀(a b:List (List UInt8)),dq (a++b)=dq a+dq b
 |[],b=>by rw[List.nil_append,dq];omega
 |w::r,b=>by rw[List.cons_append,dq,dq,bO r b];omega
theorem vz:∀(a:List (List UInt8)),a.length≤dq a
 |[]=>ah _
 |w::r=>by rw[aw,dq];have:=vz r;omega
theorem vw{l:List (List UInt8)}{i:Nat}(h:i<l.length):l[i].length≤dq l:=by
 induction l generalizing i with
 |nil=>cases h
 |cons w r ih=>
  cases i with
  |zero=>rw[List.getElem_cons_zero,dq];omega
  |succ i=>rw[List.getElem_cons_succ,dq];have:=ih (i:=i) (by simpa using h);omega
def dM(s:List UInt8):List (List UInt8)→List UInt8
 |[]=>[]
 |w::r=>w++(r.map fun x=>s++x).flatten
theorem EJ(s w:List UInt8)(r:List (List UInt8))(x:List UInt8):dM s (w::(r++[x]))=dM s (w::r)++s++x:=by
 simp[dM,List.map_append,List.flatten_append]
theorem Mc(s:List UInt8):∀(w:List UInt8) (r:List (List UInt8)),(dM s (w::r)).length≤dq (w::r)+s.length*r.length:=by
 intro w r
 induction r generalizing w with
 |nil=>simp[dM,dq]
 |cons x r ih=>
  have:=ih x;simp only[dM,dq,List.map_cons,List.flatten_cons,aO,aw]at this⊢;rw[Nat.mul_add];omega
theorem EI(s:List UInt8)(l:List (List UInt8)):(dM s l).length≤dq l+s.length*l.length:=by
 cases l with
 |nil=>simp[dM]
 |cons w r=>have:=Mc s w r;rw[aw,Nat.mul_add];omega
theorem EK(s:List UInt8)(L:List (List UInt8))(i:Nat)(h:i+1<L.length):dM s (L.take (i+1+1))=dM s (L.take (i+1))++s++L[i+1]:=by
 cases L with
 |nil=>cases h
 |cons w r=>
  rw[List.take_succ_cons,List.take_succ_cons,List.getElem_cons_succ,List.take_succ_eq_append_getElem (by simpa using h),EJ]
theorem uT(a b:Int)(h1: -9223372036854775808≤a-b)(h2:a-b<9223372036854775808):cZ .sub (.i .i64 a) (.i .i64 b)=some (.i .i64 (a-b)):=by
 rw[zC,nD h1 h2]
theorem Qx(a b:Nat)(hb:0<b)(ha:a<9223372036854775808):cZ .quo (.i .i64 (a:Int)) (.i .i64 (b:Int))=some (.i .i64 ((a/b:Nat):Int)):=by
 have hle:a/b≤a:=Nat.div_le_self a b
 show(oO .i64 (a:Int) (b:Int)).val=_
 unfold oO
 rw[cS,ak (show¬((b:Int)=0) by omega),cond_false,fj,j0,←Int.ofNat_tdiv]
 generalize a/b=q at hle⊢
 rw[nD (by omega) (by omega)];rfl
theorem r60(Φ:Nat→Option CF)(h:Φ 60=some OX)(h79:Φ 79=some PW)(h52:Φ 52=some yB)(h54:Φ 54=some yC)(h71:Φ 71=some vW)(h89:Φ 89=some OZ){F:RO}{M:Mem}{c:Nat}{v:V}{l:List (List UInt8)}{s:List UInt8}(ok:cU F M c)(hs:cB F M c 1 v (fQ l))
 (hl:dq l≤1000000) (hs1:1≤s.length) (hs2:s.length≤100):Calls Φ F 60 [v,sV s] M c fun r M' c'=>r=sV (dM s l)∧Gr c M c' M':=by
 refine aM h ?_
 have hn:=D6 hs
 have hll:=vz l
 match l,hs,hn,hl,hll with
 |[],hs,hn,hl,hll=>
  rw[aL]at hn;simp only[WX,Gg,hn,Int.ofNat_zero];exact⟨rfl,Gr.refl ok⟩
 |[w],hs,hn,hl,hll=>
  obtain⟨b1,o1,_,ia1,ld1⟩:=rM hs 0 (by simp);have ia1:=ia1 .i64;rw[List.length_singleton]at hn;rw[Int.ofNat_zero]at ia1;rw[List.getElem_cons_zero]at ld1;simp only[WX,Int.reduceEq,Gg,hn,Int.ofNat_one,ia1,ld1];exact⟨by simp[dM],Gr.refl ok⟩
 |w0::w1::r,hs,hn,hl,hll=>
  generalize hL:w0::w1::r=L at hs hn hl hll⊢;have hL2:2≤L.length:=by rw[←hL];simp
  have d0:decide ((L.length:Int)=0)=false:=ak (by omega);have d1:decide ((L.length:Int)=1)=false:=ak (by omega);have d2:decide ((0:Int)<(s.length:Int))=true:=aj (by omega);have sb:cZ .sub (.i .i64 (L.length:Int)) (.i .i64 1)=some (.i .i64 ((L.length-1:Nat):Int)):=by rw[uT _ _ (by omega) (by omega)];congr 2;omega
  have qu:=Qx 9223372036854775807 (L.length-1) (by omega) (by omega);rw[show((9223372036854775807:Nat):Int)=9223372036854775807 from rfl]at qu;have hq:9223372036854≤9223372036854775807/(L.length-1):=by
   rw[Nat.le_div_iff_mul_le (by omega)];have:9223372036854*(L.length-1)≤9223372036854*1000000:=Nat.mul_le_mul_left _ (by omega);omega
  have d3:decide (((9223372036854775807/(L.length-1):Nat):Int)≤(s.length:Int))=false:=ak (by omega);have hmb:s.length*(L.length-1)≤100*1000000:=Nat.mul_le_mul hs2 (by omega);have mu:cZ .mul (.i .i64 (s.length:Int)) (.i .i64 ((L.length-1:Nat):Int))=some (.i .i64 ((s.length*(L.length-1):Nat):Int)):=by
   have:((s.length:Int)*((L.length-1:Nat):Int))=((s.length*(L.length-1):Nat):Int):=by rw[Int.natCast_mul]
   rw[Cf _ _ (by rw[this];omega) (by rw[this];omega),this]
  have ad:cZ .add (.i .i64 0) (.i .i64 ((s.length*(L.length-1):Nat):Int))=some (.i .i64 ((s.length*(L.length-1):Nat):Int)):=by rw[bF _ _ (by omega) (by omega)];simp
  simp only[WX,Gg,hn,d0,d1,d2,sb,qu,d3,mu,ad];obtain⟨I1,hI1⟩:∃I:Nat→St→Prop,∀n s',I n s'↔(∃(i a:Nat) (u:List (Option V)),n=L.length-i∧i≤L.length∧s'= .mk ((b02 u v (sV s) (.i .i64 (a:Int)) v (.i .i64 (L.length:Int)) (.i .i64 (i:Int)))) [] M c∧a≤100000000+dq (L.take i)):=⟨fun n s'=>_,fun _ _=>Iff.rfl⟩
  refine bS I1 ?_ L.length _ ((hI1 _ _).2 ⟨0,s.length*(L.length-1),(G2 (X2 (X1 (G1 (cH (X1 (G2 (G1 (cF (ce (X4 (X1 [])))))))))))),rfl,az _,rfl,by omega⟩);intro n s' hIs;obtain⟨i,a,u,rfl,hi,rfl,ha⟩:=(hI1 _ _).1 hIs;clear hIs;have htk:=rN L i;by_cases hlt:i<L.length
  ·have e1:decide ((i:Int)<(L.length:Int))=true:=aj (by omega);obtain⟨b1,o1,_,ia1,ld1⟩:=rM hs i hlt;have hge:=vw hlt;have sb2:cZ .sub (.i .i64 9223372036854775807) (.i .i64 (a:Int))=some (.i .i64 (9223372036854775807-(a:Int))):=uT _ _ (by omega) (by omega);have e2:decide ((9223372036854775807-(a:Int))<(L[i].length:Int))=false:=ak (by omega);have ad2:cZ .add (.i .i64 (a:Int)) (.i .i64 (L[i].length:Int))=some (.i .i64 ((a+L[i].length:Nat):Int)):=by rw[bF _ _ (by omega) (by omega)];simp
   have q8:cZ .add (.i .i64 (i:Int)) (.i .i64 1)=some (.i .i64 ((i+1:Nat):Int)):=by rw[bF _ _ (by omega) (by omega)];simp
   simp only[WX,Gg,e1,ia1,ld1,sb2,e2,ad2,q8];refine⟨L.length-(i+1),by omega,(hI1 _ _).2 ⟨i+1,a+L[i].length,(G2 (X2 (X1 (G1 (cH (X1 (G2 (G1 (cF (ce (X4 (X1 [])))))))))))),rfl,by omega,rfl,?_⟩⟩;rw[List.take_succ_eq_append_getElem hlt,bO,dq,dq];omega
  ·have e1:decide ((i:Int)<(L.length:Int))=false:=ak (by omega);have gr0:Gr c M (c+1) (M.set c (af 99 [.p0,.l0])):=(Gr.refl ok).set c _ (ah _) (aA _) (aG _);have ok0:=gr0.ok ok;simp only[WX,Gg,e1];refine av ((r79 Φ h79 h71 h89 ok0 gr0 (ah _) (aA _) (am _ _ _) a (by omega)).mono ?_);rintro v1 M1 c1 ⟨bb,hb1,gr1,hle1,hfr1⟩;have ok1:=gr1.ok ok;have hs1':=hs.grow gr1;obtain⟨b1,o1,hb1c,ia1,ld1⟩:=rM hs1' 0 (by omega);have ia1:=ia1 .i64;rw[Int.ofNat_zero]at ia1;simp only[WX,Gg,ia1,ld1];have hg0:=vw (l:=L) (i:=0) (by omega);refine av ((r52 Φ h52 h71 ok1 gr1 hb1 L[0] (jm (by simp only[aL];omega))).mono ?_);rintro v2 M2 c2 ⟨bb2,hb2,gr2,hle2,_,_⟩;rw[List.nil_append]at hb2;have ok2:=gr2.ok ok;obtain⟨v3,⟨_,_,hsl,_⟩,hs3⟩:=Nm (lo:=1) (hi:=(fQ L).length) hs (by simp[fQ];omega) (ah _);have hsl':sJ 1 v (some (.i .i64 1)) none none=some v3:=congrArg QR.val (hsl rfl);have hs3':cB F M c 1 v3 (fQ (L.drop 1)):=by
    rw[List.take_length,fQ,←List.map_drop]at hs3;exact hs3
   have hn3:=D6 hs3';rw[bu]at hn3;simp only[WX,Gg,hsl',hn3];obtain⟨I2,hI2⟩:∃I:Nat→St→Prop,∀n s',I n s'↔(∃(i:Nat) (M3:Mem) (c1003 bb3:Nat) (u:List (Option V)),n=L.length-1-i∧i≤L.length-1∧s'= .mk ((b03 u v (sV s) (.p c 0) v3 (.i .i64 ((L.length-1:Nat):Int)) (.i .i64 (i:Int)))) [] M3 c1003∧jv M3 c c1003 c bb3 (dM s (L.take (i+1)))∧Gr c M c1003 M3):=⟨fun n s'=>_,fun _ _=>Iff.rfl⟩
   refine bS I2 ?_ (L.length-1) _ ((hI2 _ _).2 ⟨0,M2,c2,bb2,(G2 (X4 (X2 (G1 (cH (ce (X4 (X2 (G2 (G1 (cH (ce (X8 (X4 (X1 []))))))))))))))),rfl,az _,rfl,?_,gr2⟩)
   ·intro n s' hIs;obtain⟨i,M3,c1003,bb3,u,rfl,hi,rfl,hb3,gr3⟩:=(hI2 _ _).1 hIs;clear hIs;have hs4:=hs3'.grow gr3;have ok3:=gr3.ok ok;have hj:=EI s (L.take (i+1));have hj2:=rN L (i+1);have hj3:s.length*(L.take (i+1)).length≤100*1000000:=Nat.mul_le_mul hs2 (by rw[List.length_take];omega);by_cases hlt:i<L.length-1
    ·have e1:decide ((i:Int)<((L.length-1:Nat):Int))=true:=aj (by omega);obtain⟨b1004,o1004,hb4,ia4,ld4⟩:=rM hs4 i (by rw[bu];omega);have hge:(L.drop 1)[i]'(by rw[bu];omega)=L[i+1]:=by rw[List.getElem_drop];congr 1;omega
     rw[hge]at ld4;have hgl:=vw (l:=L) (i:=i+1) (by omega);have q8:cZ .add (.i .i64 (i:Int)) (.i .i64 1)=some (.i .i64 ((i+1:Nat):Int)):=by rw[bF _ _ (by omega) (by omega)];simp
     simp only[WX,Gg,e1,ia4,ld4];refine av ((r52 Φ h52 h71 ok3 gr3 hb3 s (jm (by omega))).mono ?_);rintro v5 M5 c1005 ⟨bb5,hb5,gr5,hle5,_,_⟩;have ok5:=gr5.ok ok;simp only[WX,Gg];refine av ((r52 Φ h52 h71 ok5 gr5 hb5 L[i+1] (jm (by rw[aO];omega))).mono ?_);rintro v6 M6 c1006 ⟨bb6,hb6,gr6,hle6,_,_⟩;simp only[WX,Gg,q8];refine⟨L.length-1-(i+1),by omega,(hI2 _ _).2 ⟨i+1,M6,c1006,bb6,(G2 (X4 (X2 (G1 (cH (ce (X4 (X2 (G2 (G1 (cH (ce (X8 (X4 (X1 []))))))))))))))),rfl,by omega,rfl,?_,gr6⟩⟩;rw[EK s L i (by omega)];exact hb6
    ·have e1:decide ((i:Int)<((L.length-1:Nat):Int))=false:=ak (by omega);simp only[WX,Gg,e1];refine av ((r54 Φ h54 ok3 gr3 hb3 (by omega)).mono ?_);rintro v5 M5 c1005 ⟨rfl,gr5,_,_⟩;simp only[WX];refine⟨?_,gr5⟩;rw[List.take_of_length_le (by omega)]
   ·rw[show L.take (0+1)=[L[0]] by rw[List.take_succ_eq_append_getElem (show 0<L.length by omega)];rfl]
    simpa [dM]using hb2
theorem vn:∀(f:Nat) (r:List UInt8) (w:List Pc) (text:List UInt8) (sm:Bool) (n:Nat) (ps:List Pc) (m:Nat),yF f r w text sm n=some (ps,m)→ps.length≤w.length+2*f
 |0,_,_,_,_,_,_,_,h=>by cases h
 |f+1,r,w,text,sm,n,ps,m,h=>by
  rw[yF]at h;split at h
  ·injection h with h;injection h with h1 h2
   rw[←h1];unfold nn;split<;>simp<;>omega
  ·cases h
  ·have:=vn f _ _ _ _ _ _ _ h;have e:(ko w text).length≤w.length+2:=by unfold ko;split<;>simp
   omega
  ·have:=vn f _ _ _ _ _ _ _ h;omega
theorem vA:∀(f:Nat) (r:List UInt8) (i:Nat),∀t∈yf f r i,t.2.2.length≤2*(r.length+1)
 |0,_,_,t,h=>by cases h
 |_+1,[],_,t,h=>by cases h
 |f+1,x::l,i,t,h=>by
  unfold yf at h;split at h
  ·have:=vA f l _ t h;rw[aw];omega
  ·split at h
   ·rcases be.1 h with rfl|h
    ·simp
    ·have:=vA f _ _ t h;rw[bu]at this;omega
   ·split at h
    ·cases h
    ·rename_i ps n hr;split at h
     ·cases h
     ·rcases be.1 h with rfl|h
      ·have:=vn _ _ _ _ _ _ _ _ hr;simp only[aL]at this;show ps.length≤_;omega
      ·have:=vA f _ _ t h;rw[bu]at this;omega
theorem mJ{v w:V}{f:List UInt8→Option V}(h:(sA v).bind f=some w):∃l,v=sV l∧f l=some w:=by
 obtain⟨l,h1,h2⟩:=aQ.1 h
 exact⟨l,af8 h1,h2⟩
theorem C0{v w:V}{f:UInt8→Option V}(h:(OT v).bind f=some w):∃b,v=bV b∧f b=some w:=by
 obtain⟨l,h1,h2⟩:=aQ.1 h
 exact⟨l,af7 h1,h2⟩
theorem aX0{ct:Nat}(h:1000≤ct):cU [] (.e:Mem) ct:=⟨fun b _=>rfl,fun b _=>rfl,fun b hb=>(by cases hb),h⟩
section
variable{P:Program}(hm:P.follows .mixedOrders=true){Φ:Nat→Option CF}(hΦ:en P Φ)
include hm hΦ
theorem o87(h:Φ 87=some c87):dK P 87 (bh LM):=gj hm hΦ (by
 intro args v ct hv hct;unfold LM at hv;split at hv
 ·obtain⟨l,rfl,hv1⟩:=mJ hv;obtain⟨p,rfl,hv2⟩:=mJ hv1;obtain rfl:=ae hv2;exact⟨trivial,t87 Φ h _ _ _⟩
 ·cases hv)
theorem o88(h:Φ 88=some c88):dK P 88 (bh h88):=gj hm hΦ (by
 intro args v ct hv hct;unfold h88 at hv;split at hv
 ·obtain⟨l,rfl,hv1⟩:=mJ hv;obtain⟨b,rfl,hv2⟩:=C0 hv1;obtain rfl:=ae hv2;exact⟨trivial,t88 Φ h _ _ _⟩
 ·cases hv)
theorem o73(h:Φ 73=some c73)(LM:Φ 87=some (.orc (bh LM))):dK P 73 (bh h73):=gj hm hΦ (by
 intro args v ct hv hct;unfold h73 at hv;split at hv
 ·obtain⟨l,rfl,hv1⟩:=mJ hv;obtain⟨p,rfl,hv2⟩:=mJ hv1;obtain rfl:=ae hv2;exact⟨trivial,t73 Φ h LM _ _ _⟩
 ·cases hv)
theorem o76(h:Φ 76=some c76)(h88':Φ 88=some (.orc (bh h88))):dK P 76 (bh h88):=gj hm hΦ (by
 intro args v ct hv hct;unfold h88 at hv;split at hv
 ·obtain⟨l,rfl,hv1⟩:=mJ hv;obtain⟨b,rfl,hv2⟩:=C0 hv1;obtain rfl:=ae hv2;exact⟨trivial,t76 Φ h h88' _ _ _⟩
 ·cases hv)
theorem o75(h:Φ 75=some c75)(h76:Φ 76=some (.orc (bh h88))):dK P 75 (bh h75):=gj hm hΦ (by
 intro args v ct hv hct;unfold h75 at hv;split at hv
 ·obtain⟨b,rfl,hv1⟩:=C0 hv;obtain rfl:=ae hv1;exact⟨trivial,t75 Φ h h76 _ _⟩
 ·cases hv)
theorem o78(h:Φ 78=some c78):dK P 78 (bh FY):=gj hm hΦ (by
 intro args v ct hv hct;unfold FY at hv;split at hv
 ·obtain⟨b,rfl,hv1⟩:=C0 hv;obtain rfl:=ae hv1;exact⟨trivial,t78 Φ h _ _⟩
 ·cases hv)
theorem o77(h:Φ 77=some c77)(FY:Φ 78=some (.orc (bh FY)))(h75:Φ 75=some (.orc (bh h75))):dK P 77 (bh h77):=gj hm hΦ (by
 intro args v ct hv hct;unfold h77 at hv;split at hv
 ·obtain⟨l,rfl,hv1⟩:=mJ hv;split at hv1
  ·rename_i hl;obtain rfl:=ae hv1;exact⟨trivial,t77 Φ h FY l hl _⟩
  ·cases hv1
 ·obtain⟨l,rfl,hv1⟩:=mJ hv;split at hv1
  ·rename_i hl;obtain rfl:=ae hv1;exact⟨trivial,bp8 Φ h h75 l hl _⟩
  ·cases hv1
 ·cases hv)
theorem o55(h:Φ 55=some c55)(h73:Φ 73=some (.orc (bh h73))):dK P 55 (bh h55):=gj hm hΦ (by
 intro args v ct hv hct;unfold h55 at hv;split at hv
 ·obtain⟨l,rfl,hv1⟩:=mJ hv;obtain rfl:=ae hv1;obtain⟨r,M1,c1,e,rfl,_⟩:=r55 Φ h h73 (aX0 hct) l;exact⟨trivial,M1,c1,e⟩
 ·cases hv)
end
abbrev b06(u:List (Option V))(x0 x1 x11 x12 x13:V):T:=(.n (.n (.n (ek u 15 7 23) (uO u 3) (.n (eg u 19) (some x11) (eg u 27))) (some x1) (.n (ek u 17 9 25) (uO u 5) (.n (eg u 21) (some x13) (eg u 29)))) (some x0) (.n (.n (ek u 16 8 24) (uO u 4) (.n (eg u 20) (some x12) (eg u 28))) (uO u 2) (aJ u 18 10 26 6 22 14 30)))
def VI:CC:=(.reg [(qq a4 (.mv xF))])
def VJ:CC:=(.reg [(qq a6 (.mv z0)),(qq a7 (.ln .slice z6)),(qq a8 (.mv z1)),(qq a9 (.ln .slice z8)),(qq dV (.bi .neq z7 z9))])
def VK:CC:=(.reg [(qq a4 (.mv xF))])
def VL:CC:=(.seq VJ (.cond fT (.seq VK .ret) .skip))
def VM:CC:=(.reg [(qq fo (.mv z0)),(qq fF (.ln .slice ec)),(qq eO (.mv (x6 0)))])
def VN:CC:=(.reg [(qq gp (.bi .lss ej eP))])
def VP:CC:=(.reg [(qq eC (.mv ej)),(qq a5 (.mv i5))])
def VQ:CC:=(.dreg 9 [(0,0,(qq i7 (.mv z0))),(1,0,(qq fY (.mv z5))),(2,3,(qq gG (.iaS 2 j3 gy))),(3,7,(qq kG (.ldn 2 ju))),(4,0,(qq jI (.mv z1))),(5,0,(qq i4 (.mv z5))),(6,48,(qq lw (.iaS 2 mB nK))),(7,112,(qq kH (.ldn 2 nL))),(8,255,(qq jJ (.eq true (.agg [(0,.str),(1,.bool)]) false mA mC)))])
def VS:CC:=(.reg [(qq a4 (.mv xF))])
def KC:CC:=(.seq VQ (.cond oJ (.seq VS .ret) .skip))
def KD:CC:=(.reg [(qq mq (.bi .add ej (x6 1))),(qq eO (.mv qh))])
def KE:CC:=(.seq (.cond i9 .skip (.exit 0)) (.seq (.block 1 (.seq VP KC)) KD))
def KF:CC:=(.reg [(qq a4 (.mv xT))])
def KG:CC:=(.seq (.seq VM (.block 0 (.loop (.seq VN KE)))) (.seq KF .ret))
def KZ:CF:= .mk 5 [.t a4] (.seq VI (.seq VL KG))
theorem e70(v0 v1:V):bA 5 [v0,v1]=(.n (.n ir (some v1) ir) (some v0) j1):=rfl
def B70:=ai @e70 (ai (wu VI.eq_1) (ai (wu VJ.eq_1) (ai (wu VK.eq_1) (ai (wu VL.eq_1) (ai (wu VM.eq_1) (ai (wu VN.eq_1) (ai (wu VP.eq_1) (ai (wu VQ.eq_1) (ai (wu VS.eq_1) (ai (wu KC.eq_1) (ai (wu KD.eq_1) (ai (wu KE.eq_1) (ai (wu KF.eq_1) (wu KG.eq_1))))))))))))))
def Uj:CC:=(.reg [(aa a2 (.bx 36 1 z0)),(aa a3 (.bx 36 1 z1)),(qq a4 (.mv xF))])
def Uk:CC:=(.reg [(qq a5 (.fa 0 z2)),(qq a6 (.ld1 z5)),(qq a7 (.fa 0 z3)),(qq a8 (.ld1 z7)),(ee a9 (.call 70 [z6,z8])),(qq a4 (.mv z9))])
def OW:CF:= .mk 4 [.t a4] (.seq Uj (.seq Uk .ret))
theorem e48(v0 v1:V):bA 4 [v0,v1]=(.n (.n nI (some v1) nI) (some v0) ir):=rfl
def B48:=ai @e48 (ai (wu Uj.eq_1) (wu Uk.eq_1))
abbrev Ml:Nat:=9223372036854775807
def dt(F:RO)(M:Mem)(c:Nat)(v:V)(w:List Pc):Prop:=cB F M c 2 v (kW w)∧w.length≤Ml
def cA{α:Type}(F:RO)(R:Mem→Nat→List V→α→Prop)(sz:Nat)(M:Mem)(c:Nat)(v:V)(l:List α):Prop:=∃es:List (List V),cB F M c sz v es∧es.length=l.length∧l.length≤Ml∧ ∀i (h:i<es.length) (h':i<l.length),R M c es[i] l[i]
def W1(F:RO)(M:Mem)(c:Nat)(e:List V)(w:List Pc):Prop:=∃x,e=[x]∧dt F M c x w
def eM(F:RO)(M:Mem)(c:Nat)(v:V)(l:List (List Pc)):Prop:=cA F (W1 F) 1 M c v l
def C1(F:RO)(M:Mem)(c:Nat)(e:List V)(l:List (List Pc)):Prop:=∃x,e=[x]∧eM F M c x l
def iw(F:RO)(M:Mem)(c:Nat)(v:V)(l:List (List (List Pc))):Prop:=cA F (C1 F) 1 M c v l
structure fm where
 join:Int
 nt:Bool
 inp:List Pc
 out:List Pc
 beh:Bool
 cmds:List (List (List Pc))
def P1(F:RO)(M:Mem)(c:Nat)(e:List V)(p:fm):Prop:=∃vi vo vc,e=[.i .i64 p.join,.b p.nt,vi,vo,.b p.beh,vc]∧dt F M c vi p.inp∧dt F M c vo p.out∧iw F M c vc p.cmds
def iG(F:RO)(M:Mem)(c:Nat)(v:V)(l:List fm):Prop:=cA F (P1 F) 6 M c v l
theorem dt.grow{F:RO}{M M':Mem}{c c':Nat}{v:V}{w:List Pc}(h:dt F M c v w)(g:Gr c M c' M'):dt F M' c' v w:=⟨h.1.grow g,h.2⟩
theorem cA.grow{α:Type}{F:RO}{R:Mem→Nat→List V→α→Prop}{sz:Nat}{M M':Mem}{c c':Nat}{v:V}{l:List α}(hR:∀e x,R M c e x→R M' c' e x)(h:cA F R sz M c v l)(g:Gr c M c' M'):cA F R sz M' c' v l:=by
 obtain⟨es,h1,h2,h3,h4⟩:=h
 exact⟨es,h1.grow g,h2,h3,fun i h h'=>hR _ _ (h4 i h h')⟩
theorem W1.grow{F:RO}{M M':Mem}{c c':Nat}(g:Gr c M c' M')(e:List V)(w:List Pc)(h:W1 F M c e w):W1 F M' c' e w:=by obtain⟨x,h1,h2⟩:=h;exact⟨x,h1,h2.grow g⟩
theorem eM.grow{F:RO}{M M':Mem}{c c':Nat}{v:V}{l:List (List Pc)}(h:eM F M c v l)(g:Gr c M c' M'):eM F M' c' v l:=cA.grow (W1.grow g) h g
theorem C1.grow{F:RO}{M M':Mem}{c c':Nat}(g:Gr c M c' M')(e:List V)(w:List (List Pc))(h:C1 F M c e w):C1 F M' c' e w:=by obtain⟨x,h1,h2⟩:=h;exact⟨x,h1,h2.grow g⟩
theorem iw.grow{F:RO}{M M':Mem}{c c':Nat}{v:V}{l:List (List (List Pc))}(h:iw F M c v l)(g:Gr c M c' M'):iw F M' c' v l:=cA.grow (C1.grow g) h g
theorem P1.grow{F:RO}{M M':Mem}{c c':Nat}(g:Gr c M c' M')(e:List V)(w:fm)(h:P1 F M c e w):P1 F M' c' e w:=by obtain⟨vi,vo,vc,h1,h2,h3,h4⟩:=h;exact⟨vi,vo,vc,h1,h2.grow g,h3.grow g,h4.grow g⟩
theorem iG.grow{F:RO}{M M':Mem}{c c':Nat}{v:V}{l:List fm}(h:iG F M c v l)(g:Gr c M c' M'):iG F M' c' v l:=cA.grow (P1.grow g) h g
theorem pW{F:RO}{M:Mem}{c sz:Nat}{v:V}{es:List (List V)}(h:cB F M c sz v es):bD v=true∧flatten v=[v]∧aE [v]=true:=by
 rcases h with⟨_,⟨_,rfl|⟨b,o0,o,rfl⟩⟩|⟨b,o,⟨cap,_,rfl⟩|⟨el,kn,_,rfl⟩,_⟩⟩<;>exact⟨rfl,rfl,rfl⟩
theorem cA.one{α:Type}{F:RO}{R:Mem→Nat→List V→α→Prop}{sz:Nat}{M:Mem}{c:Nat}{v:V}{l:List α}(h:cA F R sz M c v l):bD v=true∧flatten v=[v]∧aE [v]=true:=by
 obtain⟨es,h1,_⟩:=h;exact pW h1
theorem dt.one{F:RO}{M:Mem}{c:Nat}{v:V}{w:List Pc}(h:dt F M c v w):bD v=true∧flatten v=[v]∧aE [v]=true:=pW h.1
theorem cA.len{α:Type}{F:RO}{R:Mem→Nat→List V→α→Prop}{sz:Nat}{M:Mem}{c:Nat}{v:V}{l:List α}(h:cA F R sz M c v l):tD v=some (.i .i64 (l.length:Int)):=by
 obtain⟨es,h1,h2,_⟩:=h;rw[←h2];exact h1.len
theorem cA.max{α:Type}{F:RO}{R:Mem→Nat→List V→α→Prop}{sz:Nat}{M:Mem}{c:Nat}{v:V}{l:List α}(h:cA F R sz M c v l):l.length≤9223372036854775807:=by
 obtain⟨es,h1,h2,h3,_⟩:=h;exact h3
theorem dt.len{F:RO}{M:Mem}{c:Nat}{v:V}{w:List Pc}(h:dt F M c v w):tD v=some (.i .i64 (w.length:Int)):=by have:=h.1.len;rwa [dY]at this
theorem cA.at{α:Type}{F:RO}{R:Mem→Nat→List V→α→Prop}{sz:Nat}{M:Mem}{c:Nat}{v:V}{l:List α}(h:cA F R sz M c v l)(hsz:0<sz)(i:Nat)(hi:i<l.length):
 ∃b o e,b<c∧(∀k,iN sz v (.i k (i:Int))=some (.p b o))∧loadN F M b o sz=some e∧e.length=sz∧R M c e l[i]:=by
 obtain⟨es,h1,h2,h3,h4⟩:=h
 obtain⟨b,o,a1,a2,a3⟩:=h1.at i (by omega)
 have hl:es[i].length=sz:=h1.1 _ (List.getElem_mem _)
 exact⟨b,o,es[i],a1,a2,by have:=a3.load (by intro e;rw[e]at hl;simp at hl;omega);rwa [hl]at this,hl,h4 i _ hi⟩
theorem q9{α:Type}{l1 l2:List α}{i:Nat}(h1:i<l1.length)(h2:i<l2.length)(h:l1.take i=l2.take i)(he:l1[i]=l2[i]):l1.take (i+1)=l2.take (i+1):=by
 rw[List.take_succ_eq_append_getElem h1,List.take_succ_eq_append_getElem h2,h,he]
theorem Da{α:Type}{l1 l2:List α}{i:Nat}(h1:i<l1.length)(h2:i<l2.length)(he:l1[i]≠l2[i]):l1≠l2:=fun e=>he (by subst e;rfl)
theorem vD{α:Type}{l1 l2:List α}(hl:l1.length=l2.length)(h:l1.take l1.length=l2.take l1.length):l1=l2:=by
 rw[List.take_length,hl,List.take_length]at h;exact h
theorem ag4(p q:Pc):(decide (p.1=q.1)&&decide (p.2=q.2))=decide (p=q):=by
 obtain⟨a,b⟩:=p
 obtain⟨a',b'⟩:=q
 rw[Bool.eq_iff_iff]
 simp
theorem w70(Φ:Nat→Option CF)(h:Φ 70=some KZ){F:RO}{M:Mem}{c:Nat}(ok:cU F M c){v1 v2:V}{l1 l2:List Pc}(h1:dt F M c v1 l1)(h2:dt F M c v2 l2):
 Calls Φ F 70 [v1,v2] M c fun r M' c'=>r= .b (decide (l1=l2))∧Gr c M c' M':=by
 refine aM h ?_
 have n1:=h1.len
 have n2:=h2.len
 have mx1:l1.length≤9223372036854775807:=h1.2
 by_cases hlen:l1.length=l2.length
 ·have d0:decide (¬((l1.length:Int)=(l2.length:Int)))=false:=ak (by omega);simp only[WX,B70,n1,n2,d0];obtain⟨I,hI⟩:∃I:Nat→St→Prop,∀n s',I n s'↔(∃(i c1:Nat) (u:List (Option V)),n=l1.length-i∧i≤l1.length∧c≤c1∧s'= .mk ((b06 u v1 v2 v1 (.i .i64 (l1.length:Int)) (.i .i64 (i:Int)))) [] M c1∧l1.take i=l2.take i):=⟨fun n s'=>_,fun _ _=>Iff.rfl⟩
  refine bS I ?_ l1.length _ ((hI _ _).2 ⟨0,_,(G2 (X8 (X1 (G2 (G1 (ce (X1 []))))))),rfl,az _,ah _,rfl,rfl⟩);intro n s' hIs;obtain⟨i,c1,u,rfl,hi,hc1,rfl,hpre⟩:=(hI _ _).1 hIs;clear hIs;have q8:i<l1.length→cZ .add (.i .i64 (i:Int)) (.i .i64 1)=some (.i .i64 ((i+1:Nat):Int)):=fun _=>by rw[bF _ _ (by omega) (by omega)];simp
  by_cases hlt:i<l1.length
  ·have q8:=q8 hlt;have hlt2:i<l2.length:=by omega
   have d1:decide ((i:Int)<(l1.length:Int))=true:=aj (by omega);obtain⟨b1,o1,_,ia1,ld1⟩:=Cs h1.1 i hlt;obtain⟨b2,o2,_,ia2,ld2⟩:=Cs h2.1 i hlt2;have ia1:=ia1 .i64;have ia2:=ia2 .i64;have hfr:=ok.free;unfold EZ at ld1 ld2;have hpv:=ag4 l1[i] l2[i];by_cases he:l1[i]=l2[i]
   ·have e1:decide (l1[i].1=l2[i].1)=true:=aj (by rw[he]);have e2:decide (l1[i].2=l2[i].2)=true:=aj (by rw[he]);simp only[WX,B70,d1,ia1,ia2,ld1,ld2,q8,e1,e2];exact⟨l1.length-(i+1),by omega,(hI _ _).2 ⟨i+1,_,(G2 (X8 (X1 (G2 (G1 (ce (X1 []))))))),rfl,hlt,by omega,rfl,q9 hlt hlt2 hpre he⟩⟩
   ·rw[ak he]at hpv;have hne:=Da hlt hlt2 he;by_cases e1:l1[i].1=l2[i].1
    ·have e2:decide (l1[i].2=l2[i].2)=false:=by rw[aj e1,Bool.true_and]at hpv;exact hpv
     have e1:=aj e1;simp only[WX,B70,d1,ia1,ia2,ld1,ld2,e1,e2];exact⟨by rw[ak hne],(Gr.refl ok).up (by omega)⟩
    ·have e1:=ak e1;simp only[WX,B70,d1,ia1,ia2,ld1,ld2,e1,Bool.false_and];exact⟨by rw[ak hne],(Gr.refl ok).up (by omega)⟩
  ·obtain rfl:i=l1.length:=by omega
   have d1:decide ((l1.length:Int)<(l1.length:Int))=false:=ak (by omega);simp only[WX,B70,d1];exact⟨by rw[aj (vD hlen hpre)],(Gr.refl ok).up hc1⟩
 ·have d0:decide (¬((l1.length:Int)=(l2.length:Int)))=true:=aj (by omega);simp only[WX,B70,n1,n2,d0];exact⟨by rw[ak (fun e=>hlen (by rw[e]))],Gr.refl ok⟩
theorem w48(Φ:Nat→Option CF)(h:Φ 48=some OW)(h70:Φ 70=some KZ){F:RO}{M:Mem}{c:Nat}(ok:cU F M c){v1 v2:V}{l1 l2:List Pc}(h1:dt F M c v1 l1)(h2:dt F M c v2 l2):
 Calls Φ F 48 [.g [v1],.g [v2]] M c fun r M' c'=>r= .b (decide (l1=l2))∧Gr c M c' M':=by
 refine aM h ?_
 obtain⟨y1,y2,y3⟩:=h1.one
 obtain⟨z1,z2,z3⟩:=h2.one
 have hG:∀v,flatten (V.g [v])=[v]:=fun _=>rfl
 have gX:=((Gr.refl ok).set c (af 36 [v1]) (ah _) (aA _) (aG _)).set (c+1) (af 36 [v2]) (by omega) (show c+1<c+2 by omega) (by omega)
 have m0:((M.set c (af 36 [v1])).set (c+1) (af 36 [v2])).get c=some (af 36 [v1]):=by rw[ag _ _ (by omega)];exact am _ _ _
 have m1:((M.set c (af 36 [v1])).set (c+1) (af 36 [v2])).get (c+1)=some (af 36 [v2]):=am _ _ _
 have l0:load1 F ((M.set c (af 36 [v1])).set (c+1) (af 36 [v2])) c 0=some v1:=aq m0 0
 have l1:load1 F ((M.set c (af 36 [v1])).set (c+1) (af 36 [v2])) (c+1) 0=some v2:=aq m1 0
 simp only[WX,Nat.reduceAdd,B48,hG,y3,z3,l0,l1]
 generalize(M.set c (af 36 [v1])).set (c+1) (af 36 [v2])=X at gX l0 l1⊢
 refine av ((w70 Φ h70 (gX.ok ok) (h1.grow gX) (h2.grow gX)).mono ?_)
 rintro r M' c' ⟨rfl,g⟩
 simp only[WX]
 exact gX.trans g
abbrev Nz(u:List (Option V))(x0 x1 x2 x15 x16 x17:V):T:=(.n (.n (.n (.n (.n (eg u 31) (some x15) (eg u 47)) (uO u 7) (ek u 39 23 55)) (uO u 3) (aJ u 35 19 51 11 43 27 59)) (some x1) (.n (.n (.n (eg u 33) (some x17) (eg u 49)) (uO u 9) (ek u 41 25 57)) (uO u 5) (aJ u 37 21 53 13 45 29 61))) (some x0) (.n (.n (.n (.n (eg u 32) (some x16) (eg u 48)) (uO u 8) (ek u 40 24 56)) (uO u 4) (aJ u 36 20 52 12 44 28 60)) (some x2) (.n (aJ u 34 18 50 10 42 26 58) (uO u 6) (aJ u 38 22 54 14 46 30 62))))
def Uw:CC:=(.reg [(qq a6 (.mv xF))])
def Ux:CC:=(.reg [(qq dV (.mv z0)),(qq fo (.ln .slice fT)),(qq fF (.mv z1)),(qq eO (.ln .slice eP)),(qq gp (.bi .neq ec ej))])
def Uy:CC:=(.reg [(qq a6 (.mv xF))])
def Uz:CC:=(.seq Ux (.cond i9 (.seq Uy .ret) .skip))
def UA:CC:=(.reg [(qq eC (.mv z0)),(qq i7 (.ln .slice i5)),(qq fY (.mv (x6 0)))])
def UB:CC:=(.reg [(qq gG (.bi .lss gy j3))])
def UC:CC:=(.reg [(qq kG (.mv gy)),(qq jI (.iaS 1 i5 gy)),(qq i4 (.ldn 1 mB)),(aa a8 (.al 36 [.l0])),(qq a7 (.mv mA)),(ez (.st 1 z8 nK))])
def UD:CC:=(.reg [(qq lw (.mv z1)),(qq kH (.mv z7)),(qq jJ (.iaS 1 nL mC)),(qq mq (.ldn 1 oJ)),(aa a9 (.al 36 [.l0])),(ez (.st 1 z9 qh))])
def UE:CC:=(.reg [(qq lL (.mv z2)),(qq iH (.ldn 1 z8)),(qq nO (.ldn 1 z9)),(ee kI (.cv pL [nE,qi])),(qq lM (.un .not qj))])
def IE:CC:=(.reg [(qq a6 (.mv xF))])
def IF:CC:=(.cond rZ (.seq IE .ret) .skip)
def IG:CC:=(.reg [(qq mr (.bi .add gy (x6 1))),(qq fY (.mv sk))])
def IH:CC:=(.seq (.block 1 (.seq UC (.seq UD (.seq UE IF)))) IG)
def II:CC:=(.seq (.cond ju .skip (.exit 0)) IH)
def IJ:CC:=(.reg [(qq a6 (.mv xT))])
def IK:CC:=(.seq (.seq UA (.block 0 (.loop (.seq UB II)))) (.seq IJ .ret))
def PS:CF:= .mk 6 [.t a6] (.seq Uw (.seq Uz IK))
theorem e51(v0 v1 v2:V):bA 6 [v0,v1,v2]=(.n (.n j1 (some v1) j1) (some v0) (.n j1 (some v2) j1)):=rfl
def B51:=ai @e51 (ai (wu Uw.eq_1) (ai (wu Ux.eq_1) (ai (wu Uy.eq_1) (ai (wu Uz.eq_1) (ai (wu UA.eq_1) (ai (wu UB.eq_1) (ai (wu UC.eq_1) (ai (wu UD.eq_1) (ai (wu UE.eq_1) (ai (wu IE.eq_1) (ai (wu IF.eq_1) (ai (wu IG.eq_1) (ai (wu IH.eq_1) (ai (wu II.eq_1) (ai (wu IJ.eq_1) (wu IK.eq_1))))))))))))))))
def Uu:CC:=(.reg [(aa a2 (.bx 42 1 z0)),(aa a3 (.bx 42 1 z1)),(qq a4 (.mv xF))])
def Uv:CC:=(.reg [(qq a5 (.fa 0 z2)),(qq a6 (.ld1 z5)),(qq a7 (.fa 0 z3)),(qq a8 (.ld1 z7)),(ee a9 (.call 51 [z6,z8,(.c (.f 48 [] []))])),(qq a4 (.mv z9))])
def XJ:CF:= .mk 4 [.t a4] (.seq Uu (.seq Uv .ret))
theorem e50(v0 v1:V):bA 4 [v0,v1]=(.n (.n nI (some v1) nI) (some v0) ir):=rfl
def B50:=ai @e50 (ai (wu Uu.eq_1) (wu Uv.eq_1))
def Ul:CC:=(.reg [(qq a6 (.mv xF))])
def Um:CC:=(.reg [(qq dV (.mv z0)),(qq fo (.ln .slice fT)),(qq fF (.mv z1)),(qq eO (.ln .slice eP)),(qq gp (.bi .neq ec ej))])
def Un:CC:=(.reg [(qq a6 (.mv xF))])
def Uo:CC:=(.seq Um (.cond i9 (.seq Un .ret) .skip))
def Up:CC:=(.reg [(qq eC (.mv z0)),(qq i7 (.ln .slice i5)),(qq fY (.mv (x6 0)))])
def Uq:CC:=(.reg [(qq gG (.bi .lss gy j3))])
def Ur:CC:=(.reg [(qq kG (.mv gy)),(qq jI (.iaS 1 i5 gy)),(qq i4 (.ldn 1 mB)),(aa a8 (.al 42 [.l0])),(qq a7 (.mv mA)),(ez (.st 1 z8 nK))])
def Us:CC:=(.reg [(qq lw (.mv z1)),(qq kH (.mv z7)),(qq jJ (.iaS 1 nL mC)),(qq mq (.ldn 1 oJ)),(aa a9 (.al 42 [.l0])),(ez (.st 1 z9 qh))])
def Ut:CC:=(.reg [(qq lL (.mv z2)),(qq iH (.ldn 1 z8)),(qq nO (.ldn 1 z9)),(ee kI (.cv pL [nE,qi])),(qq lM (.un .not qj))])
def Ix:CC:=(.reg [(qq a6 (.mv xF))])
def Iy:CC:=(.cond rZ (.seq Ix .ret) .skip)
def Iz:CC:=(.reg [(qq mr (.bi .add gy (x6 1))),(qq fY (.mv sk))])
def IA:CC:=(.seq (.block 1 (.seq Ur (.seq Us (.seq Ut Iy)))) Iz)
def IB:CC:=(.seq (.cond ju .skip (.exit 0)) IA)
def IC:CC:=(.reg [(qq a6 (.mv xT))])
def ID:CC:=(.seq (.seq Up (.block 0 (.loop (.seq Uq IB)))) (.seq IC .ret))
def c49:CF:= .mk 6 [.t a6] (.seq Ul (.seq Uo ID))
theorem e49(v0 v1 v2:V):bA 6 [v0,v1,v2]=(.n (.n j1 (some v1) j1) (some v0) (.n j1 (some v2) j1)):=rfl
def B49:=ai @e49 (ai (wu Ul.eq_1) (ai (wu Um.eq_1) (ai (wu Un.eq_1) (ai (wu Uo.eq_1) (ai (wu Up.eq_1) (ai (wu Uq.eq_1) (ai (wu Ur.eq_1) (ai (wu Us.eq_1) (ai (wu Ut.eq_1) (ai (wu Ix.eq_1) (ai (wu Iy.eq_1) (ai (wu Iz.eq_1) (ai (wu IA.eq_1) (ai (wu IB.eq_1) (ai (wu IC.eq_1) (wu ID.eq_1))))))))))))))))
def Uh:CC:=(.reg [(aa a2 (.bx 39 6 z0)),(aa a3 (.bx 39 6 z1)),(qq a4 (.mv xF))])
def YK:=wu Uh.eq_1
def Ui:CC:=(.reg [(qq a5 (.fa 0 z2)),(qq a6 (.ld1 z5)),(qq a7 (.fa 0 z3)),(qq a8 (.ld1 z7)),(qq a9 (.bi .eql z6 z8)),(qq dV (.mv z9)),(aR fo (.fa 1 z2) dV),(aR fF (.ld1 ec) dV),(aR eO (.fa 1 z3) dV),(aR gp (.ld1 ej) dV),(aR eC (.eq false .bool false eP i9) dV),(qq i7 (.pk fT i5 xF)),(qq fY (.mv j3)),(aR gG (.fa 4 z2) fY),(aR kG (.ld1 ju) fY),(aR jI (.fa 4 z3) fY),(aR i4 (.ld1 mB) fY),(aR lw (.eq false .bool false mA nK) fY),(qq kH (.pk gy nL xF)),(qq jJ (.mv mC)),(aR mq (.fa 2 z2) jJ),(aR lL (.ldn 1 qh) jJ),(aR iH (.fa 2 z3) jJ),(aR nO (.ldn 1 nE) jJ),(k9 kI (.call 48 [pL,qi]) jJ),(qq lM (.pk oJ qj xF)),(qq mr (.mv rZ)),(aR sf (.fa 3 z2) mr),(aR sg (.ldn 1 vN) mr),(aR pM (.fa 3 z3) mr),(aR lm (.ldn 1 vO) mr),(k9 sP (.call 48 [yo,vP]) mr),(qq po (.pk sk yp xF)),(qq mt (.mv ua)),(aR nP (.fa 5 z2) mt),(aR sQ (.ld1 w7) mt),(aR sw (.fa 5 z3) mt),(aR sR (.ld1 vQ) mt),(k9 sS (.call 49 [yq,yr,(.c (.f 50 [] []))]) mt),(qq qy (.pk w6 yt xF)),(qq a4 (.mv w8))])
def b63:=wu Ui.eq_1
def c47:CF:= .mk 6 [.t a4] (.seq Uh (.seq Ui .ret))
theorem e47(v0 v1:V):bA 6 [v0,v1]=(.n (.n j1 (some v1) j1) (some v0) AZ):=rfl
def B47:=ai @e47 (ai @YK (@b63))
deriving instance DecidableEq for fm
theorem eM.one{F:RO}{M:Mem}{c:Nat}{v:V}{l:List (List Pc)}(h:eM F M c v l):bD v=true∧flatten v=[v]∧aE [v]=true:=cA.one h
theorem eM.len{F:RO}{M:Mem}{c:Nat}{v:V}{l:List (List Pc)}(h:eM F M c v l):tD v=some (.i .i64 (l.length:Int)):=cA.len h
theorem eM.max{F:RO}{M:Mem}{c:Nat}{v:V}{l:List (List Pc)}(h:eM F M c v l):l.length≤9223372036854775807:=cA.max h
theorem iw.one{F:RO}{M:Mem}{c:Nat}{v:V}{l:List (List (List Pc))}(h:iw F M c v l):bD v=true∧flatten v=[v]∧aE [v]=true:=cA.one h
theorem iw.len{F:RO}{M:Mem}{c:Nat}{v:V}{l:List (List (List Pc))}(h:iw F M c v l):tD v=some (.i .i64 (l.length:Int)):=cA.len h
theorem iw.max{F:RO}{M:Mem}{c:Nat}{v:V}{l:List (List (List Pc))}(h:iw F M c v l):l.length≤9223372036854775807:=cA.max h
theorem iG.one{F:RO}{M:Mem}{c:Nat}{v:V}{l:List fm}(h:iG F M c v l):bD v=true∧flatten v=[v]∧aE [v]=true:=cA.one h
theorem iG.len{F:RO}{M:Mem}{c:Nat}{v:V}{l:List fm}(h:iG F M c v l):tD v=some (.i .i64 (l.length:Int)):=cA.len h
theorem iG.max{F:RO}{M:Mem}{c:Nat}{v:V}{l:List fm}(h:iG F M c v l):l.length≤9223372036854775807:=cA.max h
theorem w51(Φ:Nat→Option CF)(h:Φ 51=some PS)(h48:Φ 48=some OW)(h70:Φ 70=some KZ){F:RO}{M:Mem}{c:Nat}(ok:cU F M c){v1 v2:V}{l1 l2:List (List Pc)}(h1:eM F M c v1 l1)(h2:eM F M c v2 l2):
 Calls Φ F 51 [v1,v2,.f 48 [] []] M c fun r M' c'=>r= .b (decide (l1=l2))∧Gr c M c' M':=by
 refine aM h ?_
 have n1:=h1.len
 have n2:=h2.len
 have mx1:=h1.max
 have hG:∀v,flatten (V.g [v])=[v]:=fun _=>rfl
 by_cases hlen:l1.length=l2.length
 ·have d0:decide (¬((l1.length:Int)=(l2.length:Int)))=false:=ak (by omega);simp only[WX,B51,n1,n2,d0];obtain⟨I,hI⟩:∃I:Nat→St→Prop,∀n s',I n s'↔(∃(i c1:Nat) (M1:Mem) (u:List (Option V)),n=l1.length-i∧i≤l1.length∧s'= .mk ((Nz u v1 v2 (.f 48 [] []) v1 (.i .i64 (l1.length:Int)) (.i .i64 (i:Int)))) [] M1 c1∧Gr c M c1 M1∧l1.take i=l2.take i):=⟨fun n s'=>_,fun _ _=>Iff.rfl⟩
  refine bS I ?_ l1.length _ ((hI _ _).2 ⟨0,_,_,(G2 (G1 (X8 (X4 (G2 (G1 (cH (X8 (X4 (X1 [])))))))))),rfl,az _,rfl,Gr.refl ok,rfl⟩);intro n s' hIs;obtain⟨i,c1,M1,u,rfl,hi,rfl,gr1,hpre⟩:=(hI _ _).1 hIs;clear hIs;by_cases hlt:i<l1.length
  ·have q8:cZ .add (.i .i64 (i:Int)) (.i .i64 1)=some (.i .i64 ((i+1:Nat):Int)):=by rw[bF _ _ (by omega) (by omega)];simp
   have hlt2:i<l2.length:=by omega
   have d1:decide ((i:Int)<(l1.length:Int))=true:=aj (by omega);have ok1:=gr1.ok ok;obtain⟨b1,o1,e1,hb1,ia1,ld1,el1,r1⟩:=cA.at (h1.grow gr1) (by decide) i hlt;obtain⟨b2,o2,e2,hb2,ia2,ld2,el2,r2⟩:=cA.at (h2.grow gr1) (by decide) i hlt2;have ia1:=ia1 .i64;have ia2:=ia2 .i64;obtain⟨x1,rfl,w1⟩:=r1;obtain⟨x2,rfl,w2⟩:=r2;obtain⟨y1,y2,y3⟩:=w1.one;obtain⟨z1,z2,z3⟩:=w2.one;have g1:Gr c1 M1 (c1+1) (M1.set c1 (af 36 [x1])):=(Gr.refl ok1).set c1 _ (ah _) (aA _) (aG _);have g2:Gr c1 M1 (c1+2) ((M1.set c1 (af 36 [x1])).set (c1+1) (af 36 [x2])):=g1.set (c1+1) _ (by omega) (by omega) (by omega);have m0:((M1.set c1 (af 36 [x1])).set (c1+1) (af 36 [x2])).get c1=some (af 36 [x1]):=by rw[ag _ _ (by omega)];exact am _ _ _
   have m1:((M1.set c1 (af 36 [x1])).set (c1+1) (af 36 [x2])).get (c1+1)=some (af 36 [x2]):=am _ _ _;have k0:=bj (F:=F) m0 1 rfl;have k1:=bj (F:=F) m1 1 rfl;have ld2':loadN F (M1.set c1 (af 36 [x1])) b2 o2 1=some [x2]:=(g1.loadN hb2 _ _).trans ld2;have hf1:flatten (V.g [x1])=[x1]:=by exact hG _
   have hf2:flatten (V.g [x2])=[x2]:=by exact hG _
   have ha1:aE [x1]=true:=by first|exact y3|exact z3
   have ha2:aE [x2]=true:=by first|exact y3|exact z3
   simp only[WX,Nat.reduceAdd,Nat.reduceLeDiff,B51,d1,ia1,ia2,ld1,ld2',hf1,hf2,ha1,ha2,k0,k1];generalize(M1.set c1 (af 36 [x1])).set (c1+1) (af 36 [x2])=X at g2 m0 m1 k0 k1⊢;refine av ((w48 Φ h48 h70 (g2.ok ok1) (w1.grow g2) (w2.grow g2)).mono ?_);rintro r M2 c2 ⟨rfl,g3⟩;by_cases he:l1[i]=l2[i]
   ·have dd:decide (l1[i]=l2[i])=true:=aj he;simp only[WX,B51,dd,q8];exact⟨l1.length-(i+1),by omega,(hI _ _).2 ⟨i+1,_,_,(G2 (G1 (X8 (X4 (G2 (G1 (cH (X8 (X4 (X1 [])))))))))),rfl,hlt,rfl,gr1.trans (g2.trans g3),q9 hlt hlt2 hpre he⟩⟩
   ·have dd:decide (l1[i]=l2[i])=false:=ak he;simp only[WX,B51,dd];exact⟨by rw[ak (Da hlt hlt2 he)],gr1.trans (g2.trans g3)⟩
  ·obtain rfl:i=l1.length:=by omega
   have d1:decide ((l1.length:Int)<(l1.length:Int))=false:=ak (by omega);simp only[WX,B51,d1];exact⟨by rw[aj (vD hlen hpre)],gr1⟩
 ·have d0:decide (¬((l1.length:Int)=(l2.length:Int)))=true:=aj (by omega);simp only[WX,B51,n1,n2,d0];exact⟨by rw[ak (fun e=>hlen (by rw[e]))],Gr.refl ok⟩
theorem w50(Φ:Nat→Option CF)(h:Φ 50=some XJ)(h51:Φ 51=some PS)(h48:Φ 48=some OW)(h70:Φ 70=some KZ){F:RO}{M:Mem}{c:Nat}(ok:cU F M c){v1 v2:V}{l1 l2:List (List Pc)}(h1:eM F M c v1 l1)(h2:eM F M c v2 l2):
 Calls Φ F 50 [.g [v1],.g [v2]] M c fun r M' c'=>r= .b (decide (l1=l2))∧Gr c M c' M':=by
 refine aM h ?_
 obtain⟨y1,y2,y3⟩:=h1.one
 obtain⟨z1,z2,z3⟩:=h2.one
 have hG:∀v,flatten (V.g [v])=[v]:=fun _=>rfl
 have gX:=((Gr.refl ok).set c (af 42 [v1]) (ah _) (aA _) (aG _)).set (c+1) (af 42 [v2]) (by omega) (show c+1<c+2 by omega) (by omega)
 have m0:((M.set c (af 42 [v1])).set (c+1) (af 42 [v2])).get c=some (af 42 [v1]):=by rw[ag _ _ (by omega)];exact am _ _ _
 have m1:((M.set c (af 42 [v1])).set (c+1) (af 42 [v2])).get (c+1)=some (af 42 [v2]):=am _ _ _
 have l0:load1 F ((M.set c (af 42 [v1])).set (c+1) (af 42 [v2])) c 0=some v1:=aq m0 0
 have l1:load1 F ((M.set c (af 42 [v1])).set (c+1) (af 42 [v2])) (c+1) 0=some v2:=aq m1 0
 simp only[WX,Nat.reduceAdd,B50,hG,y3,z3,l0,l1]
 generalize(M.set c (af 42 [v1])).set (c+1) (af 42 [v2])=X at gX l0 l1⊢
 refine av ((w51 Φ h51 h48 h70 (gX.ok ok) (h1.grow gX) (h2.grow gX)).mono ?_)
 rintro r M' c' ⟨rfl,g⟩
 simp only[WX]
 exact gX.trans g
theorem w49(Φ:Nat→Option CF)(h:Φ 49=some c49)(h50:Φ 50=some XJ)(h51:Φ 51=some PS)(h48:Φ 48=some OW)(h70:Φ 70=some KZ){F:RO}{M:Mem}{c:Nat}(ok:cU F M c){v1 v2:V}{l1 l2:List (List (List Pc))}(h1:iw F M c v1 l1)(h2:iw F M c v2 l2):
 Calls Φ F 49 [v1,v2,.f 50 [] []] M c fun r M' c'=>r= .b (decide (l1=l2))∧Gr c M c' M':=by
 refine aM h ?_
 have n1:=h1.len
 have n2:=h2.len
 have mx1:=h1.max
 have hG:∀v,flatten (V.g [v])=[v]:=fun _=>rfl
 by_cases hlen:l1.length=l2.length
 ·have d0:decide (¬((l1.length:Int)=(l2.length:Int)))=false:=ak (by omega);simp only[WX,B49,n1,n2,d0];obtain⟨I,hI⟩:∃I:Nat→St→Prop,∀n s',I n s'↔(∃(i c1:Nat) (M1:Mem) (u:List (Option V)),n=l1.length-i∧i≤l1.length∧s'= .mk ((Nz u v1 v2 (.f 50 [] []) v1 (.i .i64 (l1.length:Int)) (.i .i64 (i:Int)))) [] M1 c1∧Gr c M c1 M1∧l1.take i=l2.take i):=⟨fun n s'=>_,fun _ _=>Iff.rfl⟩
  refine bS I ?_ l1.length _ ((hI _ _).2 ⟨0,_,_,(G2 (G1 (X8 (X4 (G2 (G1 (cH (X8 (X4 (X1 [])))))))))),rfl,az _,rfl,Gr.refl ok,rfl⟩);intro n s' hIs;obtain⟨i,c1,M1,u,rfl,hi,rfl,gr1,hpre⟩:=(hI _ _).1 hIs;clear hIs;by_cases hlt:i<l1.length
  ·have q8:cZ .add (.i .i64 (i:Int)) (.i .i64 1)=some (.i .i64 ((i+1:Nat):Int)):=by rw[bF _ _ (by omega) (by omega)];simp
   have hlt2:i<l2.length:=by omega
   have d1:decide ((i:Int)<(l1.length:Int))=true:=aj (by omega);have ok1:=gr1.ok ok;obtain⟨b1,o1,e1,hb1,ia1,ld1,el1,r1⟩:=cA.at (h1.grow gr1) (by decide) i hlt;obtain⟨b2,o2,e2,hb2,ia2,ld2,el2,r2⟩:=cA.at (h2.grow gr1) (by decide) i hlt2;have ia1:=ia1 .i64;have ia2:=ia2 .i64;obtain⟨x1,rfl,w1⟩:=r1;obtain⟨x2,rfl,w2⟩:=r2;obtain⟨y1,y2,y3⟩:=w1.one;obtain⟨z1,z2,z3⟩:=w2.one;have g1:Gr c1 M1 (c1+1) (M1.set c1 (af 42 [x1])):=(Gr.refl ok1).set c1 _ (ah _) (aA _) (aG _);have g2:Gr c1 M1 (c1+2) ((M1.set c1 (af 42 [x1])).set (c1+1) (af 42 [x2])):=g1.set (c1+1) _ (by omega) (by omega) (by omega);have m0:((M1.set c1 (af 42 [x1])).set (c1+1) (af 42 [x2])).get c1=some (af 42 [x1]):=by rw[ag _ _ (by omega)];exact am _ _ _
   have m1:((M1.set c1 (af 42 [x1])).set (c1+1) (af 42 [x2])).get (c1+1)=some (af 42 [x2]):=am _ _ _;have k0:=bj (F:=F) m0 1 rfl;have k1:=bj (F:=F) m1 1 rfl;have ld2':loadN F (M1.set c1 (af 42 [x1])) b2 o2 1=some [x2]:=(g1.loadN hb2 _ _).trans ld2;have hf1:flatten (V.g [x1])=[x1]:=by exact hG _
   have hf2:flatten (V.g [x2])=[x2]:=by exact hG _
   have ha1:aE [x1]=true:=by first|exact y3|exact z3
   have ha2:aE [x2]=true:=by first|exact y3|exact z3
   simp only[WX,Nat.reduceAdd,Nat.reduceLeDiff,B49,d1,ia1,ia2,ld1,ld2',hf1,hf2,ha1,ha2,k0,k1];generalize(M1.set c1 (af 42 [x1])).set (c1+1) (af 42 [x2])=X at g2 m0 m1 k0 k1⊢;refine av ((w50 Φ h50 h51 h48 h70 (g2.ok ok1) (w1.grow g2) (w2.grow g2)).mono ?_);rintro r M2 c2 ⟨rfl,g3⟩;by_cases he:l1[i]=l2[i]
   ·have dd:decide (l1[i]=l2[i])=true:=aj he;simp only[WX,B49,dd,q8];exact⟨l1.length-(i+1),by omega,(hI _ _).2 ⟨i+1,_,_,(G2 (G1 (X8 (X4 (G2 (G1 (cH (X8 (X4 (X1 [])))))))))),rfl,hlt,rfl,gr1.trans (g2.trans g3),q9 hlt hlt2 hpre he⟩⟩
   ·have dd:decide (l1[i]=l2[i])=false:=ak he;simp only[WX,B49,dd];exact⟨by rw[ak (Da hlt hlt2 he)],gr1.trans (g2.trans g3)⟩
  ·obtain rfl:i=l1.length:=by omega
   have d1:decide ((l1.length:Int)<(l1.length:Int))=false:=ak (by omega);simp only[WX,B49,d1];exact⟨by rw[aj (vD hlen hpre)],gr1⟩
 ·have d0:decide (¬((l1.length:Int)=(l2.length:Int)))=true:=aj (by omega);simp only[WX,B49,n1,n2,d0];exact⟨by rw[ak (fun e=>hlen (by rw[e]))],Gr.refl ok⟩
theorem ag9{p q:fm}:p=q↔p.join=q.join∧p.nt=q.nt∧p.beh=q.beh∧p.inp=q.inp∧p.out=q.out∧p.cmds=q.cmds:=by
 obtain⟨a,b,c,d,e,f⟩:=p
 obtain⟨a',b',c',d',e',f'⟩:=q
 simp only[fm.mk.injEq]
 constructor
 ·rintro⟨h1,h2,h3,h4,h5,h6⟩;exact⟨h1,h2,h5,h3,h4,h6⟩
 ·rintro⟨h1,h2,h5,h3,h4,h6⟩;exact⟨h1,h2,h3,h4,h5,h6⟩
theorem w47(Φ:Nat→Option CF)(h:Φ 47=some c47)(h49:Φ 49=some c49)(h50:Φ 50=some XJ)(h51:Φ 51=some PS)(h48:Φ 48=some OW)(h70:Φ 70=some KZ){F:RO}{M:Mem}{c:Nat}(ok:cU F M c){e1 e2:List V}{p q:fm}(h1:P1 F M c e1 p)(h2:P1 F M c e2 q):
 Calls Φ F 47 [.g e1,.g e2] M c fun r M' c'=>r= .b (decide (p=q))∧Gr c M c' M':=by
 refine aM h ?_
 obtain⟨i1,o1,k1,rfl,a1,a2,a3⟩:=h1
 obtain⟨i2,o2,k2,rfl,b1,b2,b3⟩:=h2
 obtain⟨x1,x2,x3⟩:=a1.one
 obtain⟨x4,x5,x6⟩:=a2.one
 obtain⟨x7,x8,x9⟩:=a3.one
 obtain⟨y1,y2,y3⟩:=b1.one
 obtain⟨y4,y5,y6⟩:=b2.one
 obtain⟨y7,y8,y9⟩:=b3.one
 obtain⟨r1,hr1⟩:∃r,r=[V.i .i64 p.join,.b p.nt,i1,o1,.b p.beh,k1]:=⟨_,rfl⟩
 obtain⟨r2,hr2⟩:∃r,r=[V.i .i64 q.join,.b q.nt,i2,o2,.b q.beh,k2]:=⟨_,rfl⟩
 have f1:flatten (V.g r1)=r1:=rfl
 have f2:flatten (V.g r2)=r2:=rfl
 have s1:aE r1=true:=by rw[hr1];simp only[aD,cg,x1,x4,x7,Bool.and_true,Bool.and_self];rfl
 have s2:aE r2=true:=by rw[hr2];simp only[aD,cg,y1,y4,y7,Bool.and_true,Bool.and_self];rfl
 have L1:r1.length=6:=by rw[hr1];rfl
 have L2:r2.length=6:=by rw[hr2];rfl
 rw[←hr1,←hr2]
 have gX:=((Gr.refl ok).set c (af 39 r1) (ah _) (aA _) (aG _)).set (c+1) (af 39 r2) (by omega) (show c+1<c+2 by omega) (by omega)
 have m0:((M.set c (af 39 r1)).set (c+1) (af 39 r2)).get c=some (af 39 r1):=by rw[ag _ _ (by omega)];exact am _ _ _
 have m1:((M.set c (af 39 r1)).set (c+1) (af 39 r2)).get (c+1)=some (af 39 r2):=am _ _ _
 have hfin:decide (p=q)=(decide (p.join=q.join)&&(decide (p.nt=q.nt)&&(decide (p.beh=q.beh)&&(decide (p.inp=q.inp)&&(decide (p.out=q.out)&&decide (p.cmds=q.cmds)))))):=by
  rw[Bool.eq_iff_iff];simp[ag9]
 simp only[WX,Nat.reduceAdd,e47,YK,f1,f2,s1,s2,L1,L2]
 generalize(M.set c (af 39 r1)).set (c+1) (af 39 r2)=X at gX m0 m1⊢
 have A0:load1 F X c 0=some (.i .i64 p.join):=(aq m0 0).trans (by rw[hr1];rfl)
 have A1:load1 F X c 1=some (.b p.nt):=(aq m0 1).trans (by rw[hr1];rfl)
 have A4:load1 F X c 4=some (.b p.beh):=(aq m0 4).trans (by rw[hr1];rfl)
 have A5:load1 F X c 5=some k1:=(aq m0 5).trans (by rw[hr1];rfl)
 have A2:loadN F X c 2 1=some [i1]:=by rw[cX m0,cV _ _ _ _ _ _ (by omega),hr1];rfl
 have A3:loadN F X c 3 1=some [o1]:=by rw[cX m0,cV _ _ _ _ _ _ (by omega),hr1];rfl
 have B0:load1 F X (c+1) 0=some (.i .i64 q.join):=(aq m1 0).trans (by rw[hr2];rfl)
 have B1:load1 F X (c+1) 1=some (.b q.nt):=(aq m1 1).trans (by rw[hr2];rfl)
 have B4:load1 F X (c+1) 4=some (.b q.beh):=(aq m1 4).trans (by rw[hr2];rfl)
 have B5:load1 F X (c+1) 5=some k2:=(aq m1 5).trans (by rw[hr2];rfl)
 have B2:loadN F X (c+1) 2 1=some [i2]:=by rw[cX m1,cV _ _ _ _ _ _ (by omega),hr2];rfl
 have B3:loadN F X (c+1) 3 1=some [o2]:=by rw[cX m1,cV _ _ _ _ _ _ (by omega),hr2];rfl
 have okX:=gX.ok ok
 have a1:=a1.grow gX
 have a2:=a2.grow gX
 have a3:=a3.grow gX
 have b1:=b1.grow gX
 have b2:=b2.grow gX
 have b3:=b3.grow gX
 rw[hfin]
 clear hfin m0 m1 hr1 hr2
 by_cases dj:p.join=q.join
 rotate_left
 ·have dj:=ak dj;simp only[WX,B47,A0,B0,dj,Bool.false_and];exact gX
 have dj:=aj dj
 cases dn:decide (p.nt=q.nt)with
 |false=>
  simp only[WX,B47,A0,B0,A1,B1,dj,dn,Bool.false_and];exact gX
 |true=>
 cases db:decide (p.beh=q.beh)with
 |false=>
  simp only[WX,B47,A0,B0,A1,B1,A4,B4,dj,dn,db,Bool.false_and];exact gX
 |true=>
 simp only[WX,B47,A0,B0,A1,B1,A4,B4,A2,B2,dj,dn,db]
 refine av ((w48 Φ h48 h70 okX a1 b1).mono ?_)
 rintro r M2 c2 ⟨rfl,g2⟩
 cases di:decide (p.inp=q.inp)with
 |false=>
  simp only[WX,Bool.false_and];exact gX.trans g2
 |true=>
 have A3:loadN F M2 c 3 1=some [o1]:=(g2.loadN (by omega) _ _).trans A3
 have B3:loadN F M2 (c+1) 3 1=some [o2]:=(g2.loadN (by omega) _ _).trans B3
 have A5:load1 F M2 c 5=some k1:=(g2.load1 (by omega) _).trans A5
 have B5:load1 F M2 (c+1) 5=some k2:=(g2.load1 (by omega) _).trans B5
 simp only[WX,A3,B3]
 refine av ((w48 Φ h48 h70 (g2.ok okX) (a2.grow g2) (b2.grow g2)).mono ?_)
 rintro r M3 c3 ⟨rfl,g3⟩
 cases d5:decide (p.out=q.out)with
 |false=>
  simp only[WX,Bool.false_and];exact gX.trans (g2.trans g3)
 |true=>
 have hle2:=g2.le
 have A5:load1 F M3 c 5=some k1:=(g3.load1 (by omega) _).trans A5
 have B5:load1 F M3 (c+1) 5=some k2:=(g3.load1 (by omega) _).trans B5
 simp only[WX,A5,B5]
 refine av ((w49 Φ h49 h50 h51 h48 h70 ((g2.trans g3).ok okX) (a3.grow (g2.trans g3)) (b3.grow (g2.trans g3))).mono ?_)
 rintro r M4 c4 ⟨rfl,g4⟩
 simp only[WX]
 exact gX.trans ((g2.trans g3).trans g4)
def U8:CC:=(.reg [(qq a6 (.mv xF))])
def U9:CC:=(.reg [(qq dV (.mv z0)),(qq fo (.ln .slice fT)),(qq fF (.mv z1)),(qq eO (.ln .slice eP)),(qq gp (.bi .neq ec ej))])
def Ua:CC:=(.reg [(qq a6 (.mv xF))])
def Ub:CC:=(.seq U9 (.cond i9 (.seq Ua .ret) .skip))
def Uc:CC:=(.reg [(qq eC (.mv z0)),(qq i7 (.ln .slice i5)),(qq fY (.mv (x6 0)))])
def Ud:CC:=(.reg [(qq gG (.bi .lss gy j3))])
def Ue:CC:=(.reg [(qq kG (.mv gy)),(qq jI (.iaS 6 i5 gy)),(qq i4 (.ldn 6 mB)),(aa a8 (.al 39 [(.i .i64 0),(.b false),.l0,.l0,(.b false),.l0])),(qq a7 (.mv mA)),(ez (.st 6 z8 nK))])
def Uf:CC:=(.reg [(qq lw (.mv z1)),(qq kH (.mv z7)),(qq jJ (.iaS 6 nL mC)),(qq mq (.ldn 6 oJ)),(aa a9 (.al 39 [(.i .i64 0),(.b false),.l0,.l0,(.b false),.l0])),(ez (.st 6 z9 qh))])
def Ug:CC:=(.reg [(qq lL (.mv z2)),(qq iH (.ldn 6 z8)),(qq nO (.ldn 6 z9)),(ee kI (.cv pL [nE,qi])),(qq lM (.un .not qj))])
def Ip:CC:=(.reg [(qq a6 (.mv xF))])
def Iq:CC:=(.cond rZ (.seq Ip .ret) .skip)
def Ir:CC:=(.reg [(qq mr (.bi .add gy (x6 1))),(qq fY (.mv sk))])
def Is:CC:=(.seq (.block 1 (.seq Ue (.seq Uf (.seq Ug Iq)))) Ir)
def It:CC:=(.seq (.cond ju .skip (.exit 0)) Is)
def Iu:CC:=(.reg [(qq a6 (.mv xT))])
def Iw:CC:=(.seq (.seq Uc (.block 0 (.loop (.seq Ud It)))) (.seq Iu .ret))
def c46:CF:= .mk 6 [.t a6] (.seq U8 (.seq Ub Iw))
theorem e46(v0 v1 v2:V):bA 6 [v0,v1,v2]=(.n (.n j1 (some v1) j1) (some v0) (.n j1 (some v2) j1)):=rfl
def B46:=ai @e46 (ai (wu U8.eq_1) (ai (wu U9.eq_1) (ai (wu Ua.eq_1) (ai (wu Ub.eq_1) (ai (wu Uc.eq_1) (ai (wu Ud.eq_1) (ai (wu Ue.eq_1) (ai (wu Uf.eq_1) (ai (wu Ug.eq_1) (ai (wu Ip.eq_1) (ai (wu Iq.eq_1) (ai (wu Ir.eq_1) (ai (wu Is.eq_1) (ai (wu It.eq_1) (ai (wu Iu.eq_1) (wu Iw.eq_1))))))))))))))))
def SO:CC:=(.reg [(aa a2 (.bx 25 1 z0)),(aa a3 (.bx 25 1 z1)),(qq a4 (.mv xF))])
def SP:CC:=(.reg [(qq a5 (.fa 0 z2)),(qq a6 (.ld1 z5)),(qq a7 (.fa 0 z3)),(qq a8 (.ld1 z7)),(ee a9 (.call 46 [z6,z8,(.c (.f 47 [] []))])),(qq a4 (.mv z9))])
def fR:CF:= .mk 4 [.t a4] (.seq SO (.seq SP .ret))
theorem e23(v0 v1:V):bA 4 [v0,v1]=(.n (.n nI (some v1) nI) (some v0) ir):=rfl
def B23:=ai @e23 (ai (wu SO.eq_1) (wu SP.eq_1))
theorem P1.all{F:RO}{M:Mem}{c:Nat}{e:List V}{p:fm}(h:P1 F M c e p):aE e=true:=by
 obtain⟨i1,o1,k1,rfl,a1,a2,a3⟩:=h
 simp only[aD,cg,a1.one.1,a2.one.1,a3.one.1,Bool.and_true,Bool.and_self];rfl
theorem w46(Φ:Nat→Option CF)(h:Φ 46=some c46)(h47:Φ 47=some c47)(h49:Φ 49=some c49)(h50:Φ 50=some XJ)(h51:Φ 51=some PS)(h48:Φ 48=some OW)(h70:Φ 70=some KZ){F:RO}{M:Mem}{c:Nat}(ok:cU F M c){v1 v2:V}{l1 l2:List (fm)}(h1:iG F M c v1 l1)(h2:iG F M c v2 l2):
 Calls Φ F 46 [v1,v2,.f 47 [] []] M c fun r M' c'=>r= .b (decide (l1=l2))∧Gr c M c' M':=by
 refine aM h ?_
 have n1:=h1.len
 have n2:=h2.len
 have mx1:=h1.max
 have hG:∀v,flatten (V.g [v])=[v]:=fun _=>rfl
 by_cases hlen:l1.length=l2.length
 ·have d0:decide (¬((l1.length:Int)=(l2.length:Int)))=false:=ak (by omega);simp only[WX,B46,n1,n2,d0];obtain⟨I,hI⟩:∃I:Nat→St→Prop,∀n s',I n s'↔(∃(i c1:Nat) (M1:Mem) (u:List (Option V)),n=l1.length-i∧i≤l1.length∧s'= .mk ((Nz u v1 v2 (.f 47 [] []) v1 (.i .i64 (l1.length:Int)) (.i .i64 (i:Int)))) [] M1 c1∧Gr c M c1 M1∧l1.take i=l2.take i):=⟨fun n s'=>_,fun _ _=>Iff.rfl⟩
  refine bS I ?_ l1.length _ ((hI _ _).2 ⟨0,_,_,(G2 (G1 (X8 (X4 (G2 (G1 (cH (X8 (X4 (X1 [])))))))))),rfl,az _,rfl,Gr.refl ok,rfl⟩);intro n s' hIs;obtain⟨i,c1,M1,u,rfl,hi,rfl,gr1,hpre⟩:=(hI _ _).1 hIs;clear hIs;by_cases hlt:i<l1.length
  ·have q8:cZ .add (.i .i64 (i:Int)) (.i .i64 1)=some (.i .i64 ((i+1:Nat):Int)):=by rw[bF _ _ (by omega) (by omega)];simp
   have hlt2:i<l2.length:=by omega
   have d1:decide ((i:Int)<(l1.length:Int))=true:=aj (by omega);have ok1:=gr1.ok ok;obtain⟨b1,o1,e1,hb1,ia1,ld1,el1,r1⟩:=cA.at (h1.grow gr1) (by decide) i hlt;obtain⟨b2,o2,e2,hb2,ia2,ld2,el2,r2⟩:=cA.at (h2.grow gr1) (by decide) i hlt2;have ia1:=ia1 .i64;have ia2:=ia2 .i64;have hov1:over [V.i .i64 0,.b false,.l0,.l0,.b false,.l0] 0 e1=e1:=by obtain⟨_,_,_,rfl,_⟩:=r1;rfl
   have hov2:over [V.i .i64 0,.b false,.l0,.l0,.b false,.l0] 0 e2=e2:=by obtain⟨_,_,_,rfl,_⟩:=r2;rfl
   have g1:Gr c1 M1 (c1+1) (M1.set c1 (af 39 e1)):=(Gr.refl ok1).set c1 _ (ah _) (aA _) (aG _);have g2:Gr c1 M1 (c1+2) ((M1.set c1 (af 39 e1)).set (c1+1) (af 39 e2)):=g1.set (c1+1) _ (by omega) (by omega) (by omega);have m0:((M1.set c1 (af 39 e1)).set (c1+1) (af 39 e2)).get c1=some (af 39 e1):=by rw[ag _ _ (by omega)];exact am _ _ _
   have m1:((M1.set c1 (af 39 e1)).set (c1+1) (af 39 e2)).get (c1+1)=some (af 39 e2):=am _ _ _;have k0:=bj (F:=F) m0 6 el1;have k1:=bj (F:=F) m1 6 el2;have ld2':loadN F (M1.set c1 (af 39 e1)) b2 o2 6=some e2:=(g1.loadN hb2 _ _).trans ld2;have hf1:flatten (V.g e1)=e1:=by rfl
   have hf2:flatten (V.g e2)=e2:=by rfl
   have ha1:aE e1=true:=by first|exact r1.all|exact r2.all
   have ha2:aE e2=true:=by first|exact r1.all|exact r2.all
   simp only[WX,Nat.reduceAdd,Nat.reduceLeDiff,B46,d1,ia1,ia2,ld1,ld2',hf1,hf2,ha1,ha2,el1,el2,hov1,hov2,k0,k1];generalize(M1.set c1 (af 39 e1)).set (c1+1) (af 39 e2)=X at g2 m0 m1 k0 k1⊢;refine av ((w47 Φ h47 h49 h50 h51 h48 h70 (g2.ok ok1) (P1.grow g2 _ _ r1) (P1.grow g2 _ _ r2)).mono ?_);rintro r M2 c2 ⟨rfl,g3⟩;by_cases he:l1[i]=l2[i]
   ·have dd:decide (l1[i]=l2[i])=true:=aj he;simp only[WX,B46,dd,q8];exact⟨l1.length-(i+1),by omega,(hI _ _).2 ⟨i+1,_,_,(G2 (G1 (X8 (X4 (G2 (G1 (cH (X8 (X4 (X1 [])))))))))),rfl,hlt,rfl,gr1.trans (g2.trans g3),q9 hlt hlt2 hpre he⟩⟩
   ·have dd:decide (l1[i]=l2[i])=false:=ak he;simp only[WX,B46,dd];exact⟨by rw[ak (Da hlt hlt2 he)],gr1.trans (g2.trans g3)⟩
  ·obtain rfl:i=l1.length:=by omega
   have d1:decide ((l1.length:Int)<(l1.length:Int))=false:=ak (by omega);simp only[WX,B46,d1];exact⟨by rw[aj (vD hlen hpre)],gr1⟩
 ·have d0:decide (¬((l1.length:Int)=(l2.length:Int)))=true:=aj (by omega);simp only[WX,B46,n1,n2,d0];exact⟨by rw[ak (fun e=>hlen (by rw[e]))],Gr.refl ok⟩
theorem w23(Φ:Nat→Option CF)(h:Φ 23=some fR)(h46:Φ 46=some c46)(h47:Φ 47=some c47)(h49:Φ 49=some c49)(h50:Φ 50=some XJ)(h51:Φ 51=some PS)(h48:Φ 48=some OW)(h70:Φ 70=some KZ){F:RO}{M:Mem}{c:Nat}(ok:cU F M c){v1 v2:V}{l1 l2:List fm}(h1:iG F M c v1 l1)(h2:iG F M c v2 l2):
 Calls Φ F 23 [.g [v1],.g [v2]] M c fun r M' c'=>r= .b (decide (l1=l2))∧Gr c M c' M':=by
 refine aM h ?_
 obtain⟨y1,y2,y3⟩:=h1.one
 obtain⟨z1,z2,z3⟩:=h2.one
 have hG:∀v,flatten (V.g [v])=[v]:=fun _=>rfl
 have gX:=((Gr.refl ok).set c (af 25 [v1]) (ah _) (aA _) (aG _)).set (c+1) (af 25 [v2]) (by omega) (show c+1<c+2 by omega) (by omega)
 have m0:((M.set c (af 25 [v1])).set (c+1) (af 25 [v2])).get c=some (af 25 [v1]):=by rw[ag _ _ (by omega)];exact am _ _ _
 have m1:((M.set c (af 25 [v1])).set (c+1) (af 25 [v2])).get (c+1)=some (af 25 [v2]):=am _ _ _
 have l0:load1 F ((M.set c (af 25 [v1])).set (c+1) (af 25 [v2])) c 0=some v1:=aq m0 0
 have l1':load1 F ((M.set c (af 25 [v1])).set (c+1) (af 25 [v2])) (c+1) 0=some v2:=aq m1 0
 simp only[WX,Nat.reduceAdd,B23,hG,y3,z3,l0,l1']
 generalize(M.set c (af 25 [v1])).set (c+1) (af 25 [v2])=X at gX l0 l1'⊢
 refine av ((w46 Φ h46 h47 h49 h50 h51 h48 h70 (gX.ok ok) (h1.grow gX) (h2.grow gX)).mono ?_)
 rintro r M' c' ⟨rfl,g⟩
 simp only[WX]
 exact gX.trans g
end
end Go.Proofs.YtmbpllipombieaaDoor.Ev
