/- What is proved here: pieces of the evaluator's soundness: if the evaluator comes to a value, the model's run comes to it, for every world and tape; no conditions beyond the hypotheses of each theorem. -/
import Derived.Test.YtmbpllipombieaaDoorEv5
set_option linter.unusedSimpArgs false
set_option linter.unusedVariables false
set_option linter.defProp false
set_option maxRecDepth 10000
set_option maxHeartbeats 16000000
namespace Go.Proofs.YtmbpllipombieaaDoor.Ev
open Go
noncomputable section
theorem r56(Φ:Nat→Option CF)(h:Φ 56=some c56)(h55:Φ 55=some (.orc (aG h55)))(h73:Φ 73=some (.orc (aG h73)))(h75:Φ 75=some (.orc (aG h75)))(h76:Φ 76=some (.orc (aG h88)))(h77:Φ 77=some (.orc (aG h77)))(h74:Φ 74=some Ww){F:RO}{M:Mem}{c:Nat}(ok:cR F M c)(s:List UInt8)(hs:s.length≤400000):
 Calls Φ F 56 [sV s] M c fun r M' c'=>W6 F s c r M' c'∧Gr c M c' M':=by
 refine aN h ?_
 have hF:∀w,flatten (sV w)=[sV w]:=fun _=>rfl
 have aS:∀w,aK [sV w]=true:=fun _=>rfl
 simp only[WX,Nat.reduceAdd,Jg,hF,aS]
 obtain⟨I,hI⟩:∃I:Nat→Nat→St→Prop,∀n l st,I n l st↔(∃(i:Nat) (M1:Mem) (c1:Nat) (w:List Pc) (text:List UInt8) (sm:Bool) (u:List (Option V)),i≤s.length∧st= .mk ((jU u (.p c 0) (.p (c+1) 0) (.p (c+2) 0) (.p (c+3) 0) (.p (c+4) 0) (.p (c+5) 0) (VW c))) [] M1 c1∧w.length≤2*i∧text.length≤i∧WS M c s M1 c1 w text sm i∧mj s [] [] false 0=mj (s.drop i) w text sm i∧((l=1∧n=2*(s.length-i)+2)∨(l=2∧n=2*(s.length-i)+1∧ ∃hi:i<s.length,s[i]=39)∨(l=0∧n=0∧mr (s.drop i)=none))):=⟨fun n l st=>_,fun _ _ _=>Iff.rfl⟩
 have FIN:∀(u:List (Option V)) (M':Mem) (c':Nat) (v:V) (p i:Nat) (w:List Pc),i≤s.length→mj s [] [] false 0=some (w,i)→Gr c M c' M'→c+6≤c'→M'.get (c+1)=some (ae 36 [v])→aX M' (c+6) c' p 64 2 v (jy w)→j6 F [.cn (.r .h) 1,.t (.l (.l .h))] (fun r M' c'=>W6 F s c r M' c'∧Gr c M c' M') .ret (.mk ((nM u (.p (c+1) 0) (.i .i64 (i:Int)))) [] M' c'):=by
  intro u M' c' v p i w hi hr g h6 hm hA;obtain⟨w1,w2,w3⟩:=ej hA;have hld:=aP (F:=F) hm 1 rfl;simp only[WX,hld];exact⟨.inl ⟨w,i,v,hr,hi,rfl,p,xn hA (by omega)⟩,g⟩
 have BAD:∀(u:List (Option V)) (M':Mem) (c':Nat),mj s [] [] false 0=none→Gr c M c' M'→c+6≤c'→M'.get (c+1)=some (ae 36 [.l0])→j6 F [.cn (.r .h) 1,.t (.l (.l .h))] (fun r M' c'=>W6 F s c r M' c'∧Gr c M c' M') .ret (.mk ((nM u (.p (c+1) 0) (.i .i64 0))) [] M' c'):=by
  intro u M' c' hr g h6 hm;have hld:=aP (F:=F) hm 1 rfl;simp only[WX,hld];exact⟨.inr ⟨hr,rfl⟩,g⟩
 have L1:∀(i:Nat) (M1:Mem) (c1:Nat) (w:List Pc) (text:List UInt8) (sm:Bool) (u:List (Option V)),i≤s.length→w.length≤2*i→text.length≤i→WS M c s M1 c1 w text sm i→mj s [] [] false 0=mj (s.drop i) w text sm i→Wp (.seq .skip (.seq xQ xR)) (K Φ none 56 F) (.mk ((jU u (.p c 0) (.p (c+1) 0) (.p (c+2) 0) (.p (c+3) 0) (.p (c+4) 0) (.p (c+5) 0) (VW c))) [] M1 c1) (kF I (2*(s.length-i)+2) (j6 F [.cn (.r .h) 1,.t (.l (.l .h))] (fun r M' c'=>W6 F s c r M' c'∧Gr c M c' M'))):=by
  intro i M1 c1 w text sm u hi hw ht hW hr;refine bK7 Φ h55 h73 h75 h74 ok hi hs (by omega) (by omega) hW (X1 (G2 (X1 (G4 (X1 (G1 (bf (bA (br (X4 (X1 []))))))))))) _ ?_ ?_ ?_ ?_
  ·intro hst u;rw[kG];exact⟨0,by omega,(hI _ _ _).2 ⟨i,M1,c1,w,text,sm,_,hi,rfl,hw,ht,hW,hr,.inr (.inr ⟨rfl,rfl,hst⟩)⟩⟩
  ·intro hlt h39 u;rw[kG];exact⟨2*(s.length-i)+1,by omega,(hI _ _ _).2 ⟨i,M1,c1,w,text,sm,_,hi,rfl,hw,ht,hW,hr,.inr (.inl ⟨rfl,rfl,hlt,h39⟩)⟩⟩
  ·intro u M' c' j w' text' sm' h1 h2 h3 h4 h5 h6;rw[kG];exact⟨2*(s.length-j)+2,by omega,(hI _ _ _).2 ⟨j,M',c',w',text',sm',_,h2,rfl,by omega,by omega,h6,hr.trans h5,.inl ⟨rfl,rfl⟩⟩⟩
  ·intro hst u M' c' g h6 hm;rw[dZ];exact BAD _ M' c' (hr.trans (kB hst)) g h6 hm
 have L2:∀(i:Nat) (M1:Mem) (c1:Nat) (w:List Pc) (text:List UInt8) (sm:Bool) (u:List (Option V)),i≤s.length→w.length≤2*i→text.length≤i→WS M c s M1 c1 w text sm i→mj s [] [] false 0=mj (s.drop i) w text sm i→Wp PL (K Φ none 56 F) (.mk ((jU u (.p c 0) (.p (c+1) 0) (.p (c+2) 0) (.p (c+3) 0) (.p (c+4) 0) (.p (c+5) 0) (VW c))) [] M1 c1) (eg CG (K Φ none 56 F) (kF I (2*(s.length-i)+2) (j6 F [.cn (.r .h) 1,.t (.l (.l .h))] (fun r M' c'=>W6 F s c r M' c'∧Gr c M c' M')))):=by
  intro i M1 c1 w text sm u hi hw ht hW hr;have:=L1 i M1 c1 w text sm u hi hw ht hW hr;rw[yU,GD,AH,yU]at this;exact this
 refine wV I ?_ (2*(s.length-0)+2) _ _ ?_
 ·intro n l st hIs;obtain⟨i,M1,c1,w,text,sm,u,hi,rfl,hw,ht,hW,hr,hcs⟩:=(hI _ _ _).1 hIs;clear hIs;rcases hcs with⟨rfl,rfl⟩|⟨rfl,rfl,hlt,h39⟩|⟨rfl,rfl,hst⟩
  ·exact⟨_,rfl,L1 i M1 c1 w text sm u hi hw ht hW hr⟩
  ·refine⟨_,rfl,?_⟩;refine bK8 Φ h76 h77 ok hlt hs (by omega) (by omega) h39 hW u _ ?_ ?_
   ·intro u M' c' k hst hj hW';rw[kG];refine⟨2*(s.length-(i+(k+2)))+2,by omega,(hI _ _ _).2 ⟨i+(k+2),M',c',w,_,true,_,hj,rfl,by omega,?_,hW',?_,.inl ⟨rfl,rfl⟩⟩⟩
    ·rw[aH,List.length_take];omega
    ·rw[hr,pz hst,List.drop_drop]
   ·intro hst u M' c' g h6 hm;rw[dZ];exact BAD _ M' c' (hr.trans (kB hst)) g h6 hm
  ·refine⟨_,rfl,?_⟩;refine bK6 Φ h74 ok hi hs (by omega) (by omega) hst hW u _ ?_;intro u M' c' v p g h6 hm hA;rw[dZ];exact FIN _ M' c' v p i _ hi (hr.trans (uh hst)) g h6 hm hA
 ·simp only[WX,Nat.reduceAdd,Nat.reduceLeDiff,aM4,aM5,aM6,V2,V3,V4];have g:=((((((Gr.refl ok).set c (ae 9 [sV s]) (aj _) (ay _) (aJ _)).set (c+1) (ae 36 [V.l0]) (by omega) (show c+1<c+2 by omega) (by omega)).set (c+2) (ae 34 [V.l0]) (by omega) (show c+2<c+3 by omega) (by omega)).set (c+3) (ae 96 [V.l0]) (by omega) (show c+3<c+4 by omega) (by omega)).set (c+4) (ae 4 [V.b false]) (by omega) (show c+4<c+5 by omega) (by omega)).set (c+5) (ae 3 [V.i IntKind.i64 0]) (by omega) (show c+5<c+6 by omega) (by omega);have hW0:WS M c s ((((((M.set c (ae 9 [sV s])).set (c+1) (ae 36 [V.l0])).set (c+2) (ae 34 [V.l0])).set (c+3) (ae 96 [V.l0])).set (c+4) (ae 4 [V.b false])).set (c+5) (ae 3 [V.i IntKind.i64 0])) (c+6) [] [] false 0:=by
   refine⟨.l0,.l0,0,0,g,aj _,?_,?_,?_,?_,?_,am _ _ _,aX.nil,aX.nil⟩
   ·rw[ak _ _ (by omega),ak _ _ (by omega),ak _ _ (by omega),ak _ _ (by omega),ak _ _ (by omega)];exact am _ _ _
   ·rw[ak _ _ (by omega),ak _ _ (by omega),ak _ _ (by omega),ak _ _ (by omega)];exact am _ _ _
   ·rw[ak _ _ (by omega),ak _ _ (by omega),ak _ _ (by omega)];exact am _ _ _
   ·rw[ak _ _ (by omega),ak _ _ (by omega)];exact am _ _ _
   ·rw[ak _ _ (by omega)];exact am _ _ _
  exact L2 0 _ (c+6) [] [] false (X1 (G2 (X1 (G4 (X1 (G1 (bf (bA (br (X4 (X1 []))))))))))) (aD _) (aD _) (aD _) hW0 (by rw[List.drop_zero])
abbrev Tk:=Nat×List UInt8×List Pc
def AX:Nat→List UInt8→Nat→List Tk
 |0,_,_=>[]
 |_+1,[],_=>[]
 |f+1,x::t,i=>
  if x=32 then AX f t (i+1)
  else if cS (x::t)≠[]then(i,cS (x::t),[])::AX f ((x::t).drop (cS (x::t)).length) (i+(cS (x::t)).length)
  else match mj (x::t) [] [] false 0 with
   |none=>[]
   |some (ps,n)=>if n=0 then[]else(i,[],ps)::AX f ((x::t).drop n) (i+n)
theorem ir{l:List UInt8}(h:l≠[]):0<l.length:=by cases l with|nil=>exact absurd rfl h|cons a l=>simp
theorem jV:∀(f g:Nat) (r:List UInt8) (i:Nat),r.length<f→r.length<g→AX f r i=AX g r i
 |0,_,_,_,h,_=>by omega
 |_,0,_,_,_,h=>by omega
 |f+1,g+1,[],_,_,_=>rfl
 |f+1,g+1,x::t,i,h1,h2=>by
  rw[aA]at h1 h2;unfold AX;split
  ·exact jV f g t _ (by omega) (by omega)
  ·split
   ·rename_i hs;have:=ir hs;rw[jV f g _ _ (by rw[bu,aA];omega) (by rw[bu,aA];omega)]
   ·split
    ·rfl
    ·split
     ·rfl
     ·rename_i hn;rw[jV f g _ _ (by rw[bu,aA];omega) (by rw[bu,aA];omega)]
def tk(r:List UInt8)(i:Nat):List Tk:=AX (r.length+1) r i
theorem aI5{t:List UInt8}(i:Nat):tk (32::t) i=tk t (i+1):=by
 unfold tk;rw[AX,ac rfl]
 exact jV _ _ _ _ (by rw[aA];omega) (by omega)
theorem Ue{x:UInt8}{t:List UInt8}(i:Nat)(hx:x≠32)(hs:cS (x::t)≠[]):tk (x::t) i=(i,cS (x::t),[])::tk ((x::t).drop (cS (x::t)).length) (i+(cS (x::t)).length):=by
 have:=ir hs
 unfold tk;rw[AX,ab hx,ac hs,jV _ _ _ _ ?_ (ay _)]
 rw[bu,aA];omega
theorem aI6{x:UInt8}{t:List UInt8}{ps:List Pc}{n:Nat}(i:Nat)(hx:x≠32)(hs:cS (x::t)=[])(hr:mj (x::t) [] [] false 0=some (ps,n))(hn:n≠0):tk (x::t) i=(i,[],ps)::tk ((x::t).drop n) (i+n):=by
 unfold tk;rw[AX,ab hx,ab (fun h=>h hs),hr]
 dsimp only
 rw[ab hn,jV _ _ _ _ ?_ (ay _)]
 rw[bu,aA];omega
theorem yP{x:UInt8}{t:List UInt8}(i:Nat)(hx:x≠32)(hs:cS (x::t)=[])(hr:∀ps n,mj (x::t) [] [] false 0=some (ps,n)→n=0):tk (x::t) i=[]:=by
 unfold tk;rw[AX,ab hx,ab (fun h=>h hs)]
 split
 ·rfl
 ·rename_i ps n h;rw[ac (hr ps n h)]
def uB:Nat→List UInt8→Bool
 |0,_=>true
 |_+1,[]=>true
 |f+1,x::t=>
  if x=32 then uB f t
  else if cS (x::t)≠[]then uB f ((x::t).drop (cS (x::t)).length)
  else match mj (x::t) [] [] false 0 with
   |none=>false
   |some (_,n)=>if n=0 then false else uB f ((x::t).drop n)
theorem iG:∀(f g:Nat) (r:List UInt8),r.length<f→r.length<g→uB f r=uB g r
 |0,_,_,h,_=>by omega
 |_,0,_,_,h=>by omega
 |f+1,g+1,[],_,_=>rfl
 |f+1,g+1,x::t,h1,h2=>by
  rw[aA]at h1 h2;unfold uB;split
  ·exact iG f g t (by omega) (by omega)
  ·split
   ·rename_i hs;have:=ir hs;rw[iG f g _ (by rw[bu,aA];omega) (by rw[bu,aA];omega)]
   ·split
    ·rfl
    ·split
     ·rfl
     ·rename_i hn;rw[iG f g _ (by rw[bu,aA];omega) (by rw[bu,aA];omega)]
def uA(r:List UInt8):Bool:=uB (r.length+1) r
theorem Ub{t:List UInt8}:uA (32::t)=uA t:=by
 unfold uA;rw[uB,ac rfl]
 exact iG _ _ _ (by rw[aA];omega) (by omega)
theorem Gs{x:UInt8}{t:List UInt8}(hx:x≠32)(hs:cS (x::t)≠[]):uA (x::t)=uA ((x::t).drop (cS (x::t)).length):=by
 have:=ir hs
 unfold uA;rw[uB,ab hx,ac hs,iG _ _ _ ?_ (ay _)]
 rw[bu,aA];omega
theorem Uc{x:UInt8}{t:List UInt8}{ps:List Pc}{n:Nat}(hx:x≠32)(hs:cS (x::t)=[])(hr:mj (x::t) [] [] false 0=some (ps,n))(hn:n≠0):uA (x::t)=uA ((x::t).drop n):=by
 unfold uA;rw[uB,ab hx,ab (fun h=>h hs),hr]
 dsimp only
 rw[ab hn,iG _ _ _ ?_ (ay _)]
 rw[bu,aA];omega
theorem sK{x:UInt8}{t:List UInt8}(hx:x≠32)(hs:cS (x::t)=[])(hr:∀ps n,mj (x::t) [] [] false 0=some (ps,n)→n=0):uA (x::t)=false:=by
 unfold uA;rw[uB,ab hx,ab (fun h=>h hs)]
 split
 ·rfl
 ·rename_i ps n h;rw[ac (hr ps n h)]
theorem pH(l:List UInt8):(cS l).length≤l.length:=by
 match l with
 |[]=>exact aj _
 |[a]=>rw[Gb];split<;>simp
 |a::b::r=>rw[pG];split
           ·simp
           ·split<;>simp
theorem sJ:∀(f:Nat) (r:List UInt8) (i:Nat),(AX f r i).length≤r.length
 |0,_,_=>aD _
 |_+1,[],_=>aj _
 |f+1,x::t,i=>by
  unfold AX;split
  ·have:=sJ f t (i+1);rw[aA];omega
  ·split
   ·rename_i hs;have:=ir hs;have:=sJ f ((x::t).drop (cS (x::t)).length) (i+(cS (x::t)).length);rw[bu]at this;have:=pH (x::t);simp only[aA]at *;omega
   ·split
    ·exact aD _
    ·split
     ·exact aD _
     ·rename_i ps n h hn;have:=sJ f ((x::t).drop n) (i+n);rw[bu]at this;simp only[aA]at *;omega
theorem Ud(r:List UInt8)(i:Nat):(tk r i).length≤r.length:=sJ _ _ _
def tkc(t:Tk×V):List V:=[.i .i64 (t.1.1:Int),sV t.1.2.1,t.2]
def Gq(ts:List (Tk×V)):List (List V):=ts.map tkc
theorem Ym(ts:List (Tk×V))(t:Tk×V):Gq (ts++[t])=Gq ts++[tkc t]:=by unfold Gq;rw[List.map_append];rfl
theorem na(ts:List (Tk×V)):(Gq ts).length=ts.length:=List.length_map ..
theorem Gu{F:RO}{M1:Mem}{c0 c1 b1:Nat}{v:V}{ts:List (Tk×V)}(t:Tk×V)(h1:bC t.2=true)(hA:aX M1 c0 c1 b1 61 3 v (Gq ts))(ok1:cR F M1 c1)(h0:c0≤c1)(hw:ts.length≤1000000):
 lD (rU F (M1.set c1 (cL [V.i .i64 0,V.s 0 0,V.l0] 61 (tkc t))) (c1+1) 61 3 48 v (.l c1 0 1 1)) fun v' M' c'=>∃b',aX M' c0 c' b' 61 3 v' (Gq (ts++[t]))∧Gr c0 M1 c' M'∧c1+1≤c'∧(∀x,x<c1→x≠b1→M'.get x=M1.get x)∧(b'=b1∨c1<b'):=by
 have grY:Gr c0 M1 (c1+1) (M1.set c1 (cL [V.i .i64 0,V.s 0 0,V.l0] 61 (tkc t))):=⟨by omega,fun b hb=>ak _ _ (by omega),fun b hb=>by rw[ak _ _ (by omega)];exact ok1.hiM b (by omega)⟩
 have hy:cE F (M1.set c1 (cL [V.i .i64 0,V.s 0 0,V.l0] 61 (tkc t))) (c1+1) 3 (.l c1 0 1 1) (Gq [t]):=II (d:=[V.i .i64 0,V.s 0 0,V.l0]) (ty:=61) (by rw[am];rfl) (by omega) (fun e he=>by obtain⟨x,_,rfl⟩:=List.mem_map.1 he;rfl) rfl
 have ha:aK (Gq [t]).flatten=true:=by
  show aK (tkc t++[])=true;rw[bH];unfold tkc;rw[av,av,av,bO,h1];rfl
 refine(fO (bytes:=48) (hA.up (show c1≤c1+1 by omega) (fun hx=>ak _ _ (by omega))) (c0:=c0) (M0:=M1) grY (by decide) hy ha (eP (by rw[na,na];simp;omega) (by rw[na,na];simp;omega))).mono ?_
 rintro v' M' c' ⟨b',h1,h2,h3,h4,h5⟩
 exact⟨b',by rw[Ym];exact h1,h2,h3,fun x hx hb=>(h4 x (by omega) hb).trans (ak _ _ (by omega)),h5.imp id (by omega)⟩
def ZM:CC:=(.reg [(qq a2 (.mv (.c .l0))),(qq a3 (.mv xF))])
def ZN:CC:=(.reg [(qq a5 (.mv (x6 0)))])
def ZO:CC:=(.reg [(qq a9 (.mv z5)),(qq dJ (.mv z0)),(qq ey (.ln .str eK)),(qq eU (.bi .lss z9 dE))])
def ZQ:CC:=(.reg [(qq eC (.mv z0)),(qq dR (.mv z5)),(qq dA (.ixS eb fG)),(qq eX (.bi .eql gf (.c (.i .u8 32))))])
def ZR:CC:=(.reg [(qq gC (.mv z5)),(qq fK (.bi .add gS (x6 1))),(qq a5 (.mv hU))])
def ZS:CC:=(.cond gM (.seq ZR (.exit 1)) .skip)
def ZT:CC:=(.reg [(qq i5 (.mv z0)),(qq gh (.mv z5)),(qq fE (.slS jz (some k7) none)),(ee j9 (.call 44 [ju])),(qq a6 (.mv kL))])
def ZU:CC:=(.reg [(qq gO (.mv z6)),(qq jn (.bi .neq k8 (.c (.s 0 0))))])
def ZV:CC:=(.reg [(qq gP (.mv z4)),(qq ja (.mv z5)),(qq gQ (.mv z6)),(qq kQ (.bld [(.s 0 0),.l0] [(0,1,lB)])),(qq gU (.bld [(.i .i64 0),(.s 0 0),.l0] [(0,1,lw),(1,2,mH)])),(aa jv (.bsl 61 1 3 [(.i .i64 0),(.s 0 0),.l0] [(0,mI)])),(ee jC (.app 61 3 48 kM nv)),(qq a4 (.mv ny))])
def Mx:CC:=(.reg [(qq lz (.mv z5)),(qq lE (.mv z6)),(qq jx (.ln .str pQ)),(qq iK (.bi .add oC pR)),(qq a5 (.mv pM))])
def My:CC:=(.cond jA (.seq ZV (.seq Mx (.exit 1))) .skip)
def Mz:CC:=(.reg [(qq ka (.mv z0)),(qq mL (.mv z5)),(qq lA (.slS oF (some qS) none)),(ee nj (.call 45 [qT])),(qq mK (.mv rJ)),(qq jb (.ex 0 pS)),(qq kR (.ex 1 pS)),(aa a7 (.al 36 [.l0])),(ez (.st 1 z7 pT)),(qq a8 (.mv rK))])
def MA:CC:=(.reg [(qq oK (.mv z8)),(qq lF (.bi .eql rL (x6 0)))])
def MB:CC:=(.reg [(qq oL (.mv z4)),(qq a2 (.mv rM)),(qq a3 (.mv xF))])
def MC:CC:=(.cond qU (.seq MB .ret) .skip)
def MD:CC:=(.reg [(qq ll (.mv z4)),(qq oM (.mv z5)),(qq kb (.ldn 1 z7)),(qq lG (.bld [(.s 0 0),.l0] [(1,1,sq)])),(qq qZ (.bld [(.i .i64 0),(.s 0 0),.l0] [(0,1,rN),(1,2,uN)])),(aa r0 (.bsl 61 1 3 [(.i .i64 0),(.s 0 0),.l0] [(0,uZ)])),(ee mM (.app 61 3 48 sO uP)),(qq a4 (.mv v7))])
def ME:CC:=(.reg [(qq sv (.mv z5)),(qq uS (.mv z8)),(qq pO (.bi .add vD wW)),(qq a5 (.mv za))])
def MF:CC:=(.seq Mz (.seq (.seq MA MC) (.seq MD ME)))
def MG:CC:=(.seq (.seq ZQ ZS) (.seq (.seq ZT (.seq ZU My)) MF))
def MH:CC:=(.seq (.seq ZO (.cond ei .skip (.exit 0))) (.block 1 MG))
def MI:CC:=(.reg [(qq sZ (.mv z4)),(qq a2 (.mv vE)),(qq a3 (.mv xT))])
def MJ:CC:=(.seq ZN (.seq (.block 0 (.loop MH)) (.seq MI .ret)))
def MK:CC:=(.seq (.reg [(qq a4 (.mv (.c .l0)))]) MJ)
def c21:CF:= .mk 6 [.t a2,.t a3] (.seq ZM MK)
theorem e21(v0:V):bz 6 [v0]=(.n nu (some v0) nu):=rfl
def VG:=ai @e21 (ai (wu ZM.eq_1) (ai (wu ZN.eq_1) (ai (wu ZO.eq_1) (ai (wu ZQ.eq_1) (ai (wu ZR.eq_1) (ai (wu ZS.eq_1) (ai (wu ZT.eq_1) (ai (wu ZU.eq_1) (ai (wu ZV.eq_1) (ai (wu Mx.eq_1) (ai (wu My.eq_1) (ai (wu Mz.eq_1) (ai (wu MA.eq_1) (ai (wu MB.eq_1) (ai (wu MC.eq_1) (ai (wu MD.eq_1) (ai (wu ME.eq_1) (ai (wu MF.eq_1) (ai (wu MG.eq_1) (ai (wu MH.eq_1) (ai (wu MI.eq_1) (ai (wu MJ.eq_1) (wu MK.eq_1)))))))))))))))))))))))
def TkO(F:RO)(s:List UInt8)(r:V)(c:Nat)(M':Mem)(c':Nat):Prop:=∃(ts:List (Tk×V)) (v:V),ts.map (·.1)=tk s 0∧r= .t [v,.b (uA s)]∧ ∀(G:RO) (N:Mem),(∀b,c≤b→b<c'→N.get b=M'.get b)→cE G N c' 3 v (Gq ts)∧ ∀t∈ts,cE G N c' 2 t.2 (jy t.1.2.2)
abbrev bO8(u:List (Option V))(x0 x4 x5:V):T:=(.n (.n (.n (aq u 31 15 47 7 39 23 55) (uO u 3) (aq u 35 19 51 11 43 27 59)) (uO u 1) (.n (aq u 33 17 49 9 41 25 57) (some x5) (aq u 37 21 53 13 45 29 61))) (some x0) (.n (.n (aq u 32 16 48 8 40 24 56) (some x4) (aq u 36 20 52 12 44 28 60)) (uO u 2) (.n (aq u 34 18 50 10 42 26 58) (uO u 6) (aq u 38 22 54 14 46 30 62))))
theorem cq5(Φ:Nat→Option CF)(h:Φ 21=some c21)(h45:Φ 45=some c45)(h44:Φ 44=some (.orc (aG h44)))(h68:Φ 68=some (.orc (aG h75)))(h69:Φ 69=some (.orc (aG h78))){F:RO}{M:Mem}{c:Nat}(ok:cR F M c)(s:List UInt8)(hs:s.length≤400000):
 Calls Φ F 21 [sV s] M c fun r M' c'=>TkO F s r c M' c'∧Gr c M c' M':=by
 refine aN h ?_
 simp only[WX,VG]
 obtain⟨I,hI⟩:∃I:Nat→St→Prop,∀n s',I n s'↔(∃(i:Nat) (v:V) (M1:Mem) (c1 b1:Nat) (ts:List (Tk×V)) (u:List (Option V)),n=s.length-i∧i≤s.length∧s'= .mk ((bO8 u (sV s) v (.i .i64 (i:Int)))) [] M1 c1∧Gr c M c1 M1∧aX M1 c c1 b1 61 3 v (Gq ts)∧ts.length≤i∧tk s 0=ts.map (·.1)++tk (s.drop i) i∧(∀t∈ts,∃lo hi,c≤lo∧hi≤c1∧(b1<lo∨hi≤b1)∧(∀G:RO,jB G M1 lo hi 2 t.2 (jy t.1.2.2)))∧uA s=uA (s.drop i)):=⟨fun n s'=>_,fun _ _=>Iff.rfl⟩
 refine bw I ?_ s.length _ ((hI _ _).2 ⟨0,.l0,M,c,0,[],(G1 (X2 (X1 (G2 (bA (br (X8 (X1 [])))))))),rfl,aD _,rfl,Gr.refl ok,aX.nil,aj _,rfl,fun t ht=>(by cases ht),rfl⟩)
 intro n s' hIs
 obtain⟨i,v,M1,c1,b1,ts,u,rfl,hi,rfl,gr1,hA,hP,hpre,hown,hto⟩:=(hI _ _).1 hIs
 clear hIs
 have ok1:=gr1.ok ok
 have hF:∀w,flatten (sV w)=[sV w]:=fun _=>rfl
 have hO:∀w,bC (sV w)=true:=fun _=>rfl
 have FIN:∀(M2:Mem) (c2:Nat) (x:Bool),tk (s.drop i) i=[]→uA (s.drop i)=x→Gr c1 M1 c2 M2→TkO F s (.t [v,.b x]) c M2 c2∧Gr c M c2 M2:=by
  intro M2 c2 x ht hx g;have hle:=g.le;refine⟨⟨ts,v,by rw[hpre,ht,bH],by rw[hto,hx],fun G N hN=>⟨((hA.gr g).own (F:=G)) N hN,fun t h=>?_⟩⟩,gr1.trans g⟩;obtain⟨lo,hi,h0,h1,h2,h3⟩:=hown t h;have h4:=(h3 G).up (M':=M2) (c':=c2) (lo':=lo) (by omega) (aj _) (fun b _ hb=>g.old b (by omega));exact h4 N fun b hb1 hb2=>hN b (by omega) hb2
 by_cases hlt:i<s.length
 ·have d1:decide ((i:Int)<(s.length:Int))=true:=ah (by omega);have hix:nn (sV s) (.i .i64 (i:Int))=some (.i .u8 ((s[i]).toNat:Int)):=qj s .i64 i hlt;have hdr:s.drop i=s[i]::s.drop (i+1):=bS hlt;have hsl:uq (sV s) (some (.i .i64 (i:Int))) none=some (sV (s[i]::s.drop (i+1))):=by rw[←hdr];exact AN s .i64 i hi
  have hsg:=Sr s[i] (s.drop (i+1)) (by rw[bu];omega);have hxn:∀k:UInt8,decide (((s[i]).toNat:Int)=(k.toNat:Int))=decide (s[i]=k):=fun k=>by congr 1;exact propext ⟨fun e=>UInt8.toNat_inj.1 (by omega),fun e=>by rw[e]⟩
  have x32:=hxn 32;simp only[UInt8.reduceToNat,Int.cast_ofNat_Int]at x32;have qsg:=iL (cS (s[i]::s.drop (i+1))) [];have e0:V.s 0 0=sV []:=rfl;rw[←e0]at qsg;clear hxn;by_cases h32:s[i]=32
  ·rw[ah h32]at x32;have q1:cB .add (.i .i64 (i:Int)) (.i .i64 1)=some (.i .i64 ((i+1:Nat):Int)):=by rw[be _ _ (by omega) (by omega)];simp
   simp only[WX,reduceCtorEq,VG,d1,hix,x32,q1];exact⟨s.length-(i+1),by omega,(hI _ _).2 ⟨i+1,v,M1,c1,b1,ts,(G1 (X2 (X1 (G2 (bA (br (X8 (X1 [])))))))),rfl,hlt,rfl,gr1,hA,by omega,by rw[hpre,hdr,h32,aI5],hown,by rw[hto,hdr,h32,Ub]⟩⟩
  ·rw[af h32]at x32;by_cases hsn:cS (s[i]::s.drop (i+1))=[]
   ·rw[ah hsn]at qsg;simp only[WX,VG,d1,hix,x32,hsl,h44,hsg,qsg];refine az ((r45 Φ h45 h44 h68 h69 ok1 (s[i]::s.drop (i+1)) (by rw[←hdr,bu];omega)).mono ?_);rintro r M2 c2 ⟨hwd,g2⟩;have hG:∀v,flatten (V.g [v])=[v]:=fun _=>rfl;rcases hwd with⟨ps,n,v2,hrd,hn,rfl,b2,hA2⟩|⟨hrd,rfl⟩
    ·obtain⟨w1,w2,w3⟩:=ej hA2;by_cases hn0:n=0
     ·have dn:decide ((n:Int)=0)=true:=ah (by omega);have gX:=g2.set c2 (ae 36 [v2]) g2.le (ay _) (aJ _);simp only[WX,Nat.reduceLeDiff,VG,hG,w1,dn];exact FIN _ _ _ (by rw[hdr];exact yP i h32 hsn (fun ps' n' e=>by rw[hrd]at e;injection e with e;injection e with e1 e2;omega)) (by rw[hdr];exact sK h32 hsn (fun ps' n' e=>by rw[hrd]at e;injection e with e;injection e with e1 e2;omega)) gX
     ·have dn:decide ((n:Int)=0)=false:=af (by omega);have gX:=g2.set c2 (ae 36 [v2]) g2.le (ay _) (aJ _);have hA3:=fL (x:=c2) (y:=ae 36 [v2]) hA2;have qo:=gX.ok ok1;obtain⟨b1,hA',hown',hb1⟩:∃b,aX (M2.set c2 (ae 36 [v2])) c (c2+1) b 61 3 v (Gq ts)∧(∀t∈ts,∃lo hi,c≤lo∧hi≤c1∧(b<lo∨hi≤b)∧(∀G:RO,jB G M1 lo hi 2 t.2 (jy t.1.2.2)))∧(b<c1∨c2≤b):=by
       rcases hA with⟨h0,⟨e1,e2⟩|⟨h1,h2,h3,h4⟩⟩
       ·refine⟨c2,⟨h0,.inl ⟨e1,e2⟩⟩,fun t ht=>?_,.inr (aj _)⟩;rw[show ts=[]from List.map_eq_nil_iff.1 e1]at ht;cases ht
       ·exact⟨b1,aX.gr ⟨h0,.inr ⟨h1,h2,h3,h4⟩⟩ gX,hown,.inl h2⟩
      obtain⟨j,hj⟩:∃j,j=i+n:=⟨_,rfl⟩
      have hjl:j≤s.length:=by rw[←hdr,bu]at hn;omega
      have q2:cB .add (.i .i64 (i:Int)) (.i .i64 (n:Int))=some (.i .i64 (j:Int)):=by rw[be _ _ (by omega) (by omega),hj];simp
      have hle2:=g2.le;simp only[WX,Nat.reduceAdd,Nat.reduceLeDiff,VG,hG,w1,dn];refine az ((Gu ((i,[],ps),v2) w1 hA' qo (by have:=gr1.le;omega) (by omega)).mono ?_);rintro v' M' c' ⟨b',hA4,g4,hle,hold,hb⟩;simp only[WX,VG,q2];refine⟨s.length-j,by omega,(hI _ _).2 ⟨j,v',M',c',b',ts++[((i,[],ps),v2)],(G1 (X2 (X1 (G2 (bA (br (X8 (X1 [])))))))),rfl,hjl,rfl,⟨by have:=gr1.le;omega,fun x hx=>(g4.old x (by omega)).trans ((gX.old x (by have:=gr1.le;omega)).trans (gr1.old x hx)),g4.new⟩,hA4,by simp;omega,?_,fun t ht=>?_,?_⟩⟩
      ·rw[hpre,hdr,aI6 i h32 hsn hrd hn0,List.map_append,aT,←hdr,List.drop_drop,←hj];rfl
      ·rcases List.mem_append.1 ht with ht|ht
       ·obtain⟨lo,hi,h0,h1,h2,h3⟩:=hown' t ht;exact⟨lo,hi,h0,by omega,by omega,fun G=>(h3 G).up (aj _) (aj _) (fun b hb1 hb2=>(hold b (by omega) (by omega)).trans (gX.old b (by omega)))⟩
       ·obtain rfl:=List.mem_singleton.1 ht;refine⟨c1,c2,gr1.le,by omega,by omega,fun G=>(hA2.own (F:=G)).up (aj _) (aj _) (fun b hb1 hb2=>(hold b (by omega) (by omega)).trans (ak _ _ (by omega)))⟩
      ·rw[hto,hdr,Uc h32 hsn hrd hn0,←hdr,List.drop_drop,←hj]
    ·have dn:decide ((0:Int)=0)=true:=rfl;have gX:=g2.set c2 (ae 36 [.l0]) g2.le (ay _) (aJ _);simp only[WX,Nat.reduceLeDiff,VG,hG];exact FIN _ _ _ (by rw[hdr];exact yP i h32 hsn (fun ps' n' e=>by rw[hrd]at e;cases e)) (by rw[hdr];exact sK h32 hsn (fun ps' n' e=>by rw[hrd]at e;cases e)) gX
   ·rw[af hsn]at qsg;obtain⟨j,hj⟩:∃j,j=i+(cS (s[i]::s.drop (i+1))).length:=⟨_,rfl⟩
    have hgl:=pH (s[i]::s.drop (i+1));have hgp:=ir hsn;have hjl:j≤s.length:=by rw[←hdr,bu,hdr]at hgl;omega
    have q2:cB .add (.i .i64 (i:Int)) (.i .i64 ((cS (s[i]::s.drop (i+1))).length:Int))=some (.i .i64 (j:Int)):=by rw[be _ _ (by omega) (by omega),hj];simp
    simp only[WX,Nat.reduceAdd,Nat.reduceLeDiff,VG,d1,hix,x32,hsl,h44,hsg,qsg,hF,hO];refine az ((Gu ((i,cS (s[i]::s.drop (i+1)),[]),V.l0) rfl hA ok1 gr1.le (by omega)).mono ?_);rintro v' M' c' ⟨b',hA4,g4,hle,hold,hb⟩;simp only[WX,reduceCtorEq,VG,q2];refine⟨s.length-j,by omega,(hI _ _).2 ⟨j,v',M',c',b',ts++[((i,cS (s[i]::s.drop (i+1)),[]),V.l0)],(G1 (X2 (X1 (G2 (bA (br (X8 (X1 [])))))))),rfl,hjl,rfl,⟨by have:=gr1.le;omega,fun x hx=>(g4.old x hx).trans (gr1.old x hx),g4.new⟩,hA4,by simp;omega,?_,fun t ht=>?_,?_⟩⟩
    ·rw[hpre,hdr,Ue i h32 hsn,List.map_append,aT,hj,←hdr,List.drop_drop];rfl
    ·rcases List.mem_append.1 ht with ht|ht
     ·obtain⟨lo,hi,h0,h1,h2,h3⟩:=hown t ht;exact⟨lo,hi,h0,by omega,by omega,fun G=>(h3 G).up (aj _) (aj _) (fun b hb1 hb2=>hold b (by omega) (by omega))⟩
     ·obtain rfl:=List.mem_singleton.1 ht;exact⟨c,c,aj _,by have:=gr1.le;omega,by omega,fun G=>(aX.own (c0:=c) (b:=0) (ty:=64) aX.nil)⟩
    ·rw[hto,hdr,Gs h32 hsn,hj,←hdr,List.drop_drop]
 ·obtain rfl:i=s.length:=by omega
  have d1:decide ((s.length:Int)<(s.length:Int))=false:=af (by omega);simp only[WX,VG,d1];exact FIN _ _ _ (by rw[cj];rfl) (by rw[cj];rfl) (Gr.refl ok1)
abbrev bO9(u:List (Option V))(x0 x1 x5:V):T:=(.n (.n (.n (aq u 31 15 47 7 39 23 55) (uO u 3) (aq u 35 19 51 11 43 27 59)) (some x1) (.n (aq u 33 17 49 9 41 25 57) (some x5) (aq u 37 21 53 13 45 29 61))) (some x0) (.n (.n (aq u 32 16 48 8 40 24 56) (uO u 4) (aq u 36 20 52 12 44 28 60)) (uO u 2) (.n (aq u 34 18 50 10 42 26 58) (uO u 6) (aq u 38 22 54 14 46 30 62))))
def a07:CC:=(.reg [(qq a4 (.mv xF))])
def a08:CC:=(.reg [(qq a5 (.mv (x6 0)))])
def a09:CC:=(.reg [(qq a8 (.mv z5)),(qq a9 (.mv z0)),(qq dJ (.ln .str z9)),(qq ey (.bi .lss z8 eK))])
def aa0:CC:=(.reg [(qq eU (.mv z0)),(qq eC (.mv z5)),(qq dR (.ixS ei eb)),(qq dA (.bi .eql fG (.c (.i .u8 32))))])
def aa1:CC:=(.reg [(qq eX (.mv z5)),(qq gC (.bi .add gM (x6 1))),(qq a5 (.mv gS))])
def aa2:CC:=(.cond gf (.seq aa1 (.exit 1)) .skip)
def aa3:CC:=(.reg [(qq fK (.mv z0)),(qq i5 (.mv z5)),(qq gh (.slS hU (some jz) none)),(ee fE (.call 55 [k7])),(qq j9 (.bld [(.s 0 0),.l0] [(0,1,ju)])),(aa a6 (.al 59 [(.s 0 0),.l0])),(ez (.st 2 z6 kL)),(qq a7 (.mv (x6 0)))])
def aa4:CC:=(.reg [(qq gO (.fa 0 z6)),(qq jn (.ld1 k8)),(qq gP (.ln .str jA)),(qq a7 (.mv kM))])
def aa5:CC:=(.reg [(qq ja (.mv z7)),(qq gQ (.bi .eql lw (x6 0)))])
def MQ:CC:=(.reg [(qq gU (.mv z0)),(qq jv (.mv z5)),(qq jC (.slS mI (some nv) none)),(ee lz (.call 56 [ny])),(qq kQ (.mv oC)),(qq lE (.ex 0 mH)),(qq jx (.ex 1 mH)),(qq iK (.fa 1 z6)),(ez (.st 1 pM pQ)),(qq a7 (.mv pR))])
def MR:CC:=(.seq aa5 (.cond lB MQ .skip))
def MS:CC:=(.reg [(qq mK (.mv z7)),(qq ka (.bi .eql pS (x6 0))),(qq mL (.mv oF)),(aw lA (.mv z1) mL),(aw nj (.mv z5) mL),(aw jb (.ldn 2 z6) mL),(jJ kR (.cv qT [rJ,pT]) mL),(aw oK (.un .not rK) mL),(qq lF (.pk qS xT rL))])
def MT:CC:=(.reg [(qq a4 (.mv xF))])
def MU:CC:=(.cond qU (.seq MT .ret) .skip)
def MV:CC:=(.reg [(qq oL (.mv z5)),(qq ll (.mv z7)),(qq oM (.bi .add rM sO)),(qq a5 (.mv rN))])
def MW:CC:=(.seq (.seq aa4 MR) (.seq (.seq MS MU) MV))
def MX:CC:=(.seq (.seq a09 (.cond dE .skip (.exit 0))) (.block 1 (.seq (.seq aa0 aa2) (.seq aa3 MW))))
def MY:CC:=(.reg [(qq a4 (.mv xT))])
def MZ:CC:=(.seq a08 (.seq (.block 0 (.loop MX)) (.seq MY .ret)))
def c28:CF:= .mk 6 [.t a4] (.seq a07 MZ)
theorem e28(v0 v1:V):bz 6 [v0,v1]=(.n (.n nr (some v1) nr) (some v0) nu):=rfl
def J1:=ai @e28 (ai (wu a07.eq_1) (ai (wu a08.eq_1) (ai (wu a09.eq_1) (ai (wu aa0.eq_1) (ai (wu aa1.eq_1) (ai (wu aa2.eq_1) (ai (wu aa3.eq_1) (ai (wu aa4.eq_1) (ai (wu aa5.eq_1) (ai (wu MQ.eq_1) (ai (wu MR.eq_1) (ai (wu MS.eq_1) (ai (wu MT.eq_1) (ai (wu MU.eq_1) (ai (wu MV.eq_1) (ai (wu MW.eq_1) (ai (wu MX.eq_1) (ai (wu MY.eq_1) (wu MZ.eq_1)))))))))))))))))))
theorem cq6(Φ:Nat→Option CF)(h:Φ 28=some c28)(h56:Φ 56=some c56)(h55:Φ 55=some (.orc (aG h55)))(h73:Φ 73=some (.orc (aG h73)))(h75:Φ 75=some (.orc (aG h75)))(h76:Φ 76=some (.orc (aG h88)))(h77:Φ 77=some (.orc (aG h77)))(h74:Φ 74=some Ww){F:RO}{M:Mem}{c:Nat}{yv:V}{s:List UInt8}(hs:s.length≤400000){I:Nat→Mem→Nat→Prop}{J:Mem→Nat→Prop}(h0:I 0 M c)
 (hOk:∀k M1 c1,I k M1 c1→cR F M1 c1∧c≤c1) (hGr:∀k M1 c1 M2 c2,I k M1 c1→Gr c1 M1 c2 M2→I k M2 c2)
 (hY:∀k M1 c1 pv b,(hk:k<(tk s 0).length)→I k M1 c1→bC pv=true→aX M1 c c1 b 64 2 pv (jy (tk s 0)[k].2.2)→lD (oS (K Φ none 28 F) yv [.i .i64 ((tk s 0)[k].1:Int),.g [sV (tk s 0)[k].2.1,pv]] M1 c1) fun r M' c'=>(r= .b true∧I (k+1) M' c')∨(r= .b false∧J M' c')):
 Calls Φ F 28 [sV s,yv] M c fun r M' c'=>(r= .b (uA s)∧I (tk s 0).length M' c')∨(r= .b false∧J M' c'):=by
 refine aN h ?_
 simp only[WX,J1]
 obtain⟨Iv,hIv⟩:∃Iv:Nat→St→Prop,∀n s',Iv n s'↔(∃(i k:Nat) (M1:Mem) (c1:Nat) (u:List (Option V)),n=s.length-i∧i≤s.length∧k≤(tk s 0).length∧s'= .mk ((bO9 u (sV s) yv (.i .i64 (i:Int)))) [] M1 c1∧tk (s.drop i) i=(tk s 0).drop k∧I k M1 c1∧uA s=uA (s.drop i)):=⟨fun n s'=>_,fun _ _=>Iff.rfl⟩
 refine bw Iv ?_ s.length _ ((hIv _ _).2 ⟨0,0,_,_,(G2 (X2 (X1 (G1 (bA (br (X8 (X1 [])))))))),rfl,aD _,aD _,rfl,rfl,h0,rfl⟩)
 intro n s' hIs
 obtain⟨i,k,M1,c1,u,rfl,hi,hk,rfl,hpre,hik,hto⟩:=(hIv _ _).1 hIs
 clear hIs
 obtain⟨ok1,hc1⟩:=hOk _ _ _ hik
 have hF:∀w,flatten (sV w)=[sV w]:=fun _=>rfl
 have hO:∀w,bC (sV w)=true:=fun _=>rfl
 have FIN:tk (s.drop i) i=[]→k=(tk s 0).length:=by
  intro ht;rw[ht]at hpre;have:=List.drop_eq_nil_iff.1 hpre.symm;omega
 by_cases hlt:i<s.length
 ·have d1:decide ((i:Int)<(s.length:Int))=true:=ah (by omega);have hix:nn (sV s) (.i .i64 (i:Int))=some (.i .u8 ((s[i]).toNat:Int)):=qj s .i64 i hlt;have hdr:s.drop i=s[i]::s.drop (i+1):=bS hlt;have hsl:uq (sV s) (some (.i .i64 (i:Int))) none=some (sV (s[i]::s.drop (i+1))):=by rw[←hdr];exact AN s .i64 i hi
  have hsg:=Ss (s[i]::s.drop (i+1));rw[TE]at hsg;have hxn:∀k:UInt8,decide (((s[i]).toNat:Int)=(k.toNat:Int))=decide (s[i]=k):=fun k=>by congr 1;exact propext ⟨fun e=>UInt8.toNat_inj.1 (by omega),fun e=>by rw[e]⟩
  have x32:=hxn 32;simp only[UInt8.reduceToNat,Int.cast_ofNat_Int]at x32;clear hxn;by_cases h32:s[i]=32
  ·rw[ah h32]at x32;have q1:cB .add (.i .i64 (i:Int)) (.i .i64 1)=some (.i .i64 ((i+1:Nat):Int)):=by rw[be _ _ (by omega) (by omega)];simp
   simp only[WX,reduceCtorEq,J1,d1,hix,x32,q1];exact⟨s.length-(i+1),by omega,(hIv _ _).2 ⟨i+1,k,M1,c1,(G2 (X2 (X1 (G1 (bA (br (X8 (X1 [])))))))),rfl,hlt,hk,rfl,by rw[←hpre,hdr,h32,aI5],hik,by rw[hto,hdr,h32,Ub]⟩⟩
  ·rw[af h32]at x32;have fS:=hF;have a2:∀w v,bC v=true→aK [sV w,v]=true:=fun w v hv=>by rw[av,av,bO,hv];rfl
   by_cases hsn:cS (s[i]::s.drop (i+1))=[]
   ·rw[hsn]at hsg;have d0:decide (((([]:List UInt8).length:Nat):Int)=0)=true:=rfl;have e0:sV []=V.s 0 0:=rfl;simp only[WX,Nat.reduceAdd,Nat.reduceLeDiff,J1,d1,hix,x32,hsl,h55,hsg,hF,hO,Int.ofNat_zero];have gX:=(Gr.refl ok1).set c1 (ae 59 [sV [],V.l0]) (aj _) (ay _) (aJ _);have okX:=gX.ok ok1;refine az ((r56 Φ h56 h55 h73 h75 h76 h77 h74 okX (s[i]::s.drop (i+1)) (by rw[←hdr,bu];omega)).mono ?_);rintro r M2 c2 ⟨hwd,g2⟩;have hG:∀v,flatten (V.g [v])=[v]:=fun _=>rfl;have m1:=(g2.old c1 (by omega)).trans (am M1 c1 (ae 59 [sV [],V.l0]));have hle2:=g2.le;rcases hwd with⟨ps,n,v2,hrd,hn,rfl,b2,hA2⟩|⟨hrd,rfl⟩
    ·obtain⟨w1,w2,w3⟩:=ej hA2;have st1:=aC m1 1 [v2] (by simp) w3;have gF:Gr c1 M1 c2 (M2.set c1 (ae 59 (over [sV [],V.l0] 1 [v2]))):=(gX.trans g2).set c1 _ (aj _) (by omega) (aj _);have ldx:=aP (F:=F) (am M2 c1 (ae 59 [sV [],v2])) 2 rfl;have hov:over [sV [],V.l0] 1 [v2]=[sV [],v2]:=rfl;rw[hov]at st1 gF;by_cases hn0:n=0
     ·have dn:decide ((n:Int)=0)=true:=ah (by omega);simp only[WX,J1,hG,st1,dn];exact .inl ⟨by rw[hto,hdr,sK h32 hsn (fun ps' n' e=>by rw[hrd]at e;injection e with e;injection e with e1 e2;omega)],FIN (by rw[hdr];exact yP i h32 hsn (fun ps' n' e=>by rw[hrd]at e;injection e with e;injection e with e1 e2;omega))▸hGr _ _ _ _ _ hik gF⟩
     ·have dn:decide ((n:Int)=0)=false:=af (by omega);obtain⟨j,hj⟩:∃j,j=i+n:=⟨_,rfl⟩
      have hjl:j≤s.length:=by rw[←hdr,bu]at hn;omega
      have q2:cB .add (.i .i64 (i:Int)) (.i .i64 (n:Int))=some (.i .i64 (j:Int)):=by rw[be _ _ (by omega) (by omega),hj];simp
      have ht:=aI6 i h32 hsn hrd hn0;rw[←hdr,hpre,List.drop_drop,←hj]at ht;have hklt:k<(tk s 0).length:=by
       by_cases hh:k<(tk s 0).length
       ·exact hh
       ·rw[List.drop_eq_nil_of_le (by omega)]at ht;cases ht
      rw[bS hklt]at ht;injection ht with g1 g2'
      have hy:=hY k _ c2 v2 b2 hklt (hGr _ _ _ _ _ hik gF) w1 (by rw[g1];exact xn (fL hA2 (by omega)) (by omega));rw[g1]at hy;simp only[WX,J1,hG,st1,dn,ldx];refine az (hy.mono ?_);rintro b M3 c3 (⟨rfl,hi3⟩|⟨rfl,hj3⟩)
      ·simp only[WX,J1,q2];exact⟨s.length-j,by omega,(hIv _ _).2 ⟨j,k+1,M3,c3,(G2 (X2 (X1 (G1 (bA (br (X8 (X1 [])))))))),rfl,hjl,hklt,rfl,g2'.symm,hi3,by rw[hto,hdr,Uc h32 hsn hrd hn0,hj,←hdr,List.drop_drop]⟩⟩
      ·simp only[WX,J1];exact .inr hj3
    ·have st1:=aC m1 1 [V.l0] (by simp) rfl;have gF:Gr c1 M1 c2 (M2.set c1 (ae 59 (over [sV [],V.l0] 1 [V.l0]))):=(gX.trans g2).set c1 _ (aj _) (by omega) (aj _);have dn:decide ((0:Int)=0)=true:=rfl;simp only[WX,Nat.reduceAdd,J1,hG,st1];exact .inl ⟨by rw[hto,hdr,sK h32 hsn (fun ps' n' e=>by rw[hrd]at e;cases e)],FIN (by rw[hdr];exact yP i h32 hsn (fun ps' n' e=>by rw[hrd]at e;cases e))▸hGr _ _ _ _ _ hik gF⟩
   ·have dg:decide (((cS (s[i]::s.drop (i+1))).length:Int)=0)=false:=af (by have:=ir hsn;omega);simp only[WX,Nat.reduceAdd,Nat.reduceLeDiff,J1,d1,hix,x32,hsl,h55,hsg,hF,hO,dg];have gX:=(Gr.refl ok1).set c1 (ae 59 [sV (cS (s[i]::s.drop (i+1))),V.l0]) (aj _) (ay _) (aJ _);obtain⟨j,hj⟩:∃j,j=i+(cS (s[i]::s.drop (i+1))).length:=⟨_,rfl⟩
    have hgl:=pH (s[i]::s.drop (i+1));have hgp:=ir hsn;have hjl:j≤s.length:=by rw[←hdr,bu,hdr]at hgl;omega
    have q2:cB .add (.i .i64 (i:Int)) (.i .i64 ((cS (s[i]::s.drop (i+1))).length:Int))=some (.i .i64 (j:Int)):=by rw[be _ _ (by omega) (by omega),hj];simp
    have ht:=Ue i h32 hsn;rw[←hj,show(s[i]::s.drop (i+1)).drop (cS (s[i]::s.drop (i+1))).length=s.drop j from by rw[hj,←hdr,List.drop_drop]]at ht;have ht2:=hpre;rw[hdr,ht]at ht2;have hklt:k<(tk s 0).length:=by
     by_cases hh:k<(tk s 0).length
     ·exact hh
     ·rw[show(tk s 0).drop k=[]from List.drop_eq_nil_of_le (by omega)]at ht2;cases ht2
    rw[bS hklt]at ht2;injection ht2 with g1 g2'
    have hy:=hY k _ (c1+1) .l0 0 hklt (hGr _ _ _ _ _ hik gX) rfl (by rw[←g1];exact aX.nil);rw[←g1]at hy;refine az (hy.mono ?_);rintro b M3 c3 (⟨rfl,hi3⟩|⟨rfl,hj3⟩)
    ·simp only[WX,J1,q2];exact⟨s.length-j,by omega,(hIv _ _).2 ⟨j,k+1,M3,c3,(G2 (X2 (X1 (G1 (bA (br (X8 (X1 [])))))))),rfl,hjl,hklt,rfl,g2',hi3,by rw[hto,hdr,Gs h32 hsn,hj,←hdr,List.drop_drop]⟩⟩
    ·simp only[WX,J1];exact .inr hj3
 ·obtain rfl:i=s.length:=by omega
  have d1:decide ((s.length:Int)<(s.length:Int))=false:=af (by omega);simp only[WX,J1,d1];exact .inl ⟨by rw[hto,cj];rfl,FIN (by rw[cj];rfl)▸hik⟩
abbrev bP0(u:List (Option V))(x2 x3 x5:V):T:=(.n (.n (.n (fm u 15 7 23) (some x3) (fm u 19 11 27)) (uO u 1) (.n (fm u 17 9 25) (some x5) (fm u 21 13 29))) (uO u 0) (.n (aq u 16 8 24 4 20 12 28) (some x2) (aq u 18 10 26 6 22 14 30)))
def ZX:CC:=(.reg [(aa a2 (.bx 36 1 z0)),(aa a3 (.bx 36 1 z1)),(qq a4 (.mv xF))])
def ZY:CC:=(.reg [(qq a6 (.fa 0 z2)),(qq a7 (.ld1 z6)),(qq a8 (.ln .slice z7)),(qq a9 (.fa 0 z3)),(qq dJ (.ld1 z9)),(qq ey (.ln .slice eK)),(qq eU (.bi .neq z8 dE))])
def a00:CC:=(.reg [(qq a4 (.mv xF))])
def a01:CC:=(.seq ZY (.cond ei (.seq a00 .ret) .skip))
def a02:CC:=(.reg [(qq a5 (.mv (x6 0)))])
def a03:CC:=(.reg [(qq eC (.mv z5)),(qq dR (.fa 0 z2)),(qq dA (.ld1 fG)),(qq eX (.ln .slice gf)),(qq gC (.bi .lss eb gM))])
def a04:CC:=(.seq a03 (.cond gS .skip (.exit 0)))
def a05:CC:=(.dreg 11 [(0,0,(qq gh (.fa 0 z2))),(1,1,(qq fE (.ld1 k7))),(2,0,(qq j9 (.mv z5))),(3,7,(qq gO (.iaS 2 ju kL))),(4,15,(qq jn (.ldn 2 k8))),(5,0,(qq gP (.fa 0 z3))),(6,32,(qq ja (.ld1 kM))),(7,0,(qq gQ (.mv z5))),(8,224,(qq kQ (.iaS 2 lw lB))),(9,480,(qq gU (.ldn 2 mH))),(10,1023,(qq jv (.eq true (.agg [(0,.str),(1,.bool)]) false jA mI)))])
def a06:CC:=(.reg [(qq a4 (.mv xF))])
def ML:CC:=(.seq a05 (.cond nv (.seq a06 .ret) .skip))
def MM:CC:=(.reg [(qq fK (.mv z5)),(qq i5 (.bi .add hU (x6 1))),(qq a5 (.mv jz))])
def MN:CC:=(.block 0 (.loop (.seq a04 (.seq (.block 1 ML) MM))))
def MO:CC:=(.reg [(qq a4 (.mv xT))])
def MP:CC:=(.seq ZX (.seq a01 (.seq (.seq a02 MN) (.seq MO .ret))))
def c22:CF:= .mk 5 [.t a4] MP
theorem e22(v0 v1:V):bz 5 [v0,v1]=(.n (.n jt (some v1) jt) (some v0) nr):=rfl
def B22:=ai @e22 (ai (wu ZX.eq_1) (ai (wu ZY.eq_1) (ai (wu a00.eq_1) (ai (wu a01.eq_1) (ai (wu a02.eq_1) (ai (wu a03.eq_1) (ai (wu a04.eq_1) (ai (wu a05.eq_1) (ai (wu a06.eq_1) (ai (wu ML.eq_1) (ai (wu MM.eq_1) (ai (wu MN.eq_1) (ai (wu MO.eq_1) (wu MP.eq_1))))))))))))))
theorem wD{F:RO}{M:Mem}{c:Nat}{v:V}{ps:List Pc}(h:cE F M c 2 v (jy ps))(i:Nat)(hi:i<ps.length):∃b o,b<c∧(∀k,eV 2 v (.i k (i:Int))=some (.p b o))∧loadN F M b o 2=some (Ar ps[i]):=by
 obtain⟨b,o,h1,h2,h3⟩:=h.at i (by rw[ep];exact hi)
 have e:(jy ps)[i]'(by rw[ep];exact hi)=Ar ps[i]:=by simp[jy]
 rw[e]at h3
 exact⟨b,o,h1,h2,h3.load (by simp[Ar])⟩
def aw6:CC:=(.reg [(qq a2 (.mv z0)),(qq a3 (.nck z2)),(qq a4 (.fa 0 z3)),(qq a5 (.ld1 z4)),(qq a6 (.eq false .ptr true z5 (.c .p0)))])
def aw7:CC:=(.reg [(qq a7 (.mv z0)),(qq a8 (.mv z0)),(qq a9 (.up z8)),(qq dJ (.mv z9)),(qq ey (.dn 99 2 eK)),(qq eU (.nck z7)),(qq eC (.fa 0 ei)),(ez (.st 1 eb dE))])
def aw8:CC:=(.reg [(qq dR (.mv z0)),(qq dA (.nck fG)),(qq eX (.fa 0 gf)),(qq gC (.ld1 gM)),(qq fK (.mv z0)),(qq i5 (.eq true .ptr false gS hU))])
def aw9:CC:=(.cond z6 aw7 (.seq aw8 (.cond jz .bad .skip)))
def zg:CF:= .mk 5 [] (.seq aw6 aw9)
theorem e71(v0:V):bz 5 [v0]=(.n nr (some v0) nr):=rfl
def B71:=ai @e71 (ai (wu aw6.eq_1) (ai (wu aw7.eq_1) (ai (wu aw8.eq_1) (wu aw9.eq_1))))
def aC3:CC:=(.dreg 16 [(0,0,(qq a5 (.mv z0))),(1,1,(qq a6 (.nck z5))),(2,3,(qq a7 (.fa 1 z6))),(3,7,(qq a8 (.ld1 z7))),(4,15,(qq a9 (.cp z8))),(5,31,(qq dJ (.bi .mul (x6 2) z9))),(6,0,(qq ey (.mv z1))),(7,127,(qq eU (.bi .add eK dE))),(8,255,(aa eC (.nz 5 ei))),(9,0,(qq dR (.mv z0))),(10,512,(qq dA (.nck fG))),(11,1536,(qq eX (.fa 1 gf))),(12,3584,(qq gC (.ld1 gM))),(13,7680,(qq fK (.ln .slice gS))),(14,16383,(qq i5 (.slL 1 eb none (some hU) none))),(15,32767,(qq a4 (.mv jz)))])
def aC4:CC:=(.reg [(qq gh (.mv z4)),(qq fE (.mv z0)),(qq j9 (.nck ju)),(qq gO (.fa 1 kL)),(qq jn (.ld1 k8)),(ee gP (.cpy 1 k7 jA))])
def aC5:CC:=(.reg [(qq ja (.mv z0)),(qq gQ (.mv z4)),(qq kQ (.nck lw)),(qq gU (.fa 1 mH)),(ez (.st 1 mI lB))])
def VU:CF:= .mk 5 [] (.seq aC3 (.seq aC4 aC5))
theorem e89(v0 v1:V):bz 5 [v0,v1]=(.n (.n jt (some v1) jt) (some v0) nr):=rfl
def B89:=ai @e89 (ai (wu aC3.eq_1) (ai (wu aC4.eq_1) (wu aC5.eq_1)))
def az1:CC:=(.reg [(qq a4 (.mv z0)),(ee a5 (.call 71 [z4]))])
def az3:CC:=(.reg [(qq a6 (.mv z1)),(qq a7 (.bi .lss z6 (x6 0)))])
def az4:CC:=(.reg [(qq a8 (.mki 9 (.c (.s 36 226187813140227768008177986391742176399534891738691412630441701833056540972817830802547)))),⟨none,.q (.bad),none⟩])
def az5:CC:=(.dreg 13 [(0,0,(qq a9 (.mv z0))),(1,1,(qq dJ (.nck z9))),(2,3,(qq ey (.fa 1 eK))),(3,7,(qq eU (.ld1 dE))),(4,15,(qq eC (.cp ei))),(5,0,(qq dR (.mv z0))),(6,32,(qq dA (.nck fG))),(7,96,(qq eX (.fa 1 gf))),(8,224,(qq gC (.ld1 gM))),(9,480,(qq fK (.ln .slice gS))),(10,1023,(qq i5 (.bi .sub eb hU))),(11,0,(qq gh (.mv z1))),(12,4095,(qq fE (.bi .lss jz k7)))])
def az6:CC:=(.reg [(qq j9 (.mv z0)),(qq gO (.mv z1)),(ee jn (.call 89 [kL,k8]))])
def az7:CC:=(.seq az5 (.cond ju az6 .skip))
def az8:CC:=(.seq (.seq az3 (.cond z7 az4 .skip)) az7)
def Wx:CF:= .mk 5 [] (.seq az1 az8)
theorem e79(v0 v1:V):bz 5 [v0,v1]=(.n (.n jt (some v1) jt) (some v0) nr):=rfl
def B79:=ai @e79 (ai (wu az1.eq_1) (ai (wu az3.eq_1) (ai (wu az4.eq_1) (ai (wu az5.eq_1) (ai (wu az6.eq_1) (ai (wu az7.eq_1) (wu az8.eq_1)))))))
def am5:CC:=(.reg [(qq a4 (.mv (x6 0))),(qq a5 (.mv (.c .a0)))])
def am6:CC:=(.reg [(qq a6 (.mv z0)),(ee a7 (.call 71 [z6]))])
def am7:CC:=(.reg [(qq a8 (.mv z0)),(qq a9 (.mv z0)),(qq dJ (.nck z9)),(qq ey (.fa 1 eK)),(qq eU (.ld1 dE)),(qq eC (.mv z1)),(ee dR (.app 5 1 1 ei eb)),(qq dA (.nck z8)),(qq eX (.fa 1 gf)),(ez (.st 1 gM fG))])
def am8:CC:=(.reg [(qq gC (.mv z1)),(qq fK (.ln .str gS)),(qq a4 (.mv hU)),(qq a5 (.mv (.c .a0)))])
def BA:CF:= .mk 5 [.t a4,.t a5] (.seq am5 (.seq am6 (.seq am7 (.seq am8 .ret))))
theorem e52(v0 v1:V):bz 5 [v0,v1]=(.n (.n jt (some v1) jt) (some v0) nr):=rfl
def B52:=ai @e52 (ai (wu am5.eq_1) (ai (wu am6.eq_1) (ai (wu am7.eq_1) (wu am8.eq_1))))
def am9:CC:=(.dreg 12 [(0,0,(qq a3 (.mv z0))),(1,1,(qq a4 (.nck z3))),(2,3,(qq a5 (.fa 1 z4))),(3,7,(qq a6 (.ld1 z5))),(4,15,(qq a7 (.sd z6))),(5,0,(qq a8 (.mv z0))),(6,32,(qq a9 (.nck z8))),(7,96,(qq dJ (.fa 1 z9))),(8,224,(qq ey (.ld1 eK))),(9,480,(qq eU (.ln .slice dE))),(10,1023,(ee eC (.us 5 z7 ei))),(11,2047,(qq a2 (.mv eb)))])
def an0:CC:=(.seq (.reg [(qq a2 (.mv (.c (.s 0 0))))]) (.seq am9 .ret))
def BB:CF:= .mk 4 [.t a2] an0
theorem e54(v0:V):bz 4 [v0]=(.n jt (some v0) jt):=rfl
def B54:=ai @e54 (ai (wu am9.eq_1) (wu an0.eq_1))
def kN(M:Mem)(c0 c b bb:Nat)(l:List UInt8):Prop:=
 c0≤b∧b<c∧b≠bb∧ ∃a v,M.get b=some (ae 99 [a,v])∧(a= .p0∨a= .p b 0)∧qV M c0 c bb v l
theorem kN.up{M M':Mem}{c0 c c' b bb:Nat}{l:List UInt8}(h:kN M c0 c b bb l)(hc:c≤c')(hb:∀x,x<c→M'.get x=M.get x):kN M' c0 c' b bb l:=by
 obtain⟨h1,h2,h1003,a,v,h1004,h1005,h1006⟩:=h
 exact⟨h1,by omega,h1003,a,v,by rw[hb b h2];exact h1004,h1005,h1006.up hc (hb bb)⟩
theorem aT4{F:RO}(lit:Bool)(M:Mem):zh F M .ptr lit .p0 .p0=some true:=Eq.trans rfl (Eq.refl _)
theorem aT5{F:RO}(lit:Bool)(M:Mem)(b o:Nat):zh F M .ptr lit (.p b o) .p0=some false:=Eq.trans rfl (Eq.refl _)
theorem aT6{F:RO}(lit:Bool)(M:Mem)(b o:Nat):zh F M .ptr lit (.p b o) (.p b o)=some true:=by
 show As F M b o b o=_
 unfold As
 rw[bU,ah rfl,cond_true,Nat.beq_refl]
theorem Fa{M:Mem}{c0 c b:Nat}{v:V}{l:List UInt8}(h:qV M c0 c b v l):bC v=true∧flatten v=[v]∧pf v=some (.i .i64 (l.length:Int)):=by
 rcases h with⟨rfl,rfl⟩|⟨_,_,n,_,rfl,_⟩
 ·exact⟨rfl,rfl,o6⟩
 ·exact⟨rfl,rfl,Ah _ _ _ _ _⟩
theorem r71(Φ:Nat→Option CF)(h:Φ 71=some zg){F:RO}{M:Mem}{c b:Nat}{a v:V}(hM:M.get b=some (ae 99 [a,v]))(ha:a= .p0∨a= .p b 0):
 Calls Φ F 71 [.p b 0] M c fun _ M' c'=>M'=M.set b (ae 99 [.p b 0,v])∧c'=c:=by
 refine aN h ?_
 have l0:load1 F M b 0=some a:=au hM 0
 rcases ha with rfl|rfl
 ·have hu:upV F M (.p b 0)=some (.p b 0):=Yn hM (by simp);have hd:dnV 99 2 F M (.p b 0)=some (.p b 0):=WP hM;have hst:=aC hM 0 [.p b 0] (by simp) rfl;simp only[WX,B71,nP,ed,l0,aT4,cs2,cr9,hu,hd,hst]
 ·simp only[WX,B71,nP,ed,l0,aT5,aT6];exact cq hM
theorem r89(Φ:Nat→Option CF)(h:Φ 89=some VU){F:RO}{M:Mem}{c b:Nat}(ok:cR F M c)(hb:b<c)(hM:M.get b=some (ae 99 [.p b 0,.l0]))(n:Nat)(hn:n≤1099511627776):
 Calls Φ F 89 [.p b 0,.i .i64 (n:Int)] M c fun _ M' c'=>M'=(M.set (c+8) (qF 5 n [])).set b (ae 99 [.p b 0,.u (c+8) 0 0 0 n])∧c'=c+16:=by
 refine aN h ?_
 have l1:load1 F M b 1=some .l0:=au hM 1
 have hlk:(look F M (c+8)).isNone=true:=by rw[ok.look (show c≤c+8 by omega)];rfl
 have hne:b≠c+8:=by omega
 have m2:cB .mul (.i .i64 2) (.i .i64 0)=some (.i .i64 0):=Fq 2 0 (by omega) (by omega)
 have a2:cB .add (.i .i64 0) (.i .i64 (n:Int))=some (.i .i64 (n:Int)):=by rw[be _ _ (by omega) (by omega)];simp
 have hsl:vu 1 (.u (c+8) 0 n 0 n) none (some (.i .i64 0)) none=some (.u (c+8) 0 0 0 n):=by
  show(nL 1 (c+8) 0 0 n 0 0).val=_;unfold nL;rw[cG,cG,ah (aD n),ah (aD 0)];show(mkU (c+8) 0 0 0 n).val=_;rw[yr];rfl
 have l2:load1 F (M.set (c+8) (qF 5 n [])) b 1=some .l0:=by rw[Ai _ _ _ hne];exact l1
 have hg2:(M.set (c+8) (qF 5 n [])).get b=some (ae 99 [.p b 0,.l0]):=by rw[ak _ _ hne];exact hM
 have hst:=aC hg2 1 [.u (c+8) 0 0 0 n] (by simp) rfl
 simp only[WX,Nat.reduceAdd,B89,gV,ed,nP,l1,S6,D9,m2,a2,aO8,uH,mh,bL2,hn,hlk,cK,bo,hne,ne_eq,not_false_eq_true,aS9,hsl,fg,l2,Vq,aR6,hst]
theorem kE{n:Nat}(h:n≤1073741824):mo n 1=true:=eP (by omega) (by omega)
theorem r79(Φ:Nat→Option CF)(h:Φ 79=some Wx)(h71:Φ 71=some zg)(h89:Φ 89=some VU){F:RO}{M0 M:Mem}{c0 c b:Nat}(ok:cR F M c)(hg:Gr c0 M0 c M)(k1:c0≤b)(k2:b<c)(hM:M.get b=some (ae 99 [.p0,.l0]))(n:Nat)(hn:n≤1099511627776):
 Calls Φ F 79 [.p b 0,.i .i64 (n:Int)] M c fun _ M' c'=>∃bb',kN M' c0 c' b bb' []∧Gr c0 M0 c' M'∧c≤c'∧(∀x,x<c→x≠b→M'.get x=M.get x):=by
 refine aN h ?_
 simp only[WX,B79]
 refine az ((r71 Φ h71 hM (.inl rfl)).mono ?_)
 rintro v1 M1 c1 ⟨rfl,rfl⟩
 have hg1:=hg.set b (ae 99 [.p b 0,.l0]) k1 k2 (aj _)
 have ok1:=ok.put (y:=ae 99 [.p b 0,.l0]) k2 hM
 have g1:(M.set b (ae 99 [.p b 0,.l0])).get b=some (ae 99 [.p b 0,.l0]):=am _ _ _
 have l1:load1 F (M.set b (ae 99 [.p b 0,.l0])) b 1=some .l0:=au g1 1
 have d0:decide ((n:Int)<0)=false:=af (by omega)
 have s0:cB .sub (.i .i64 0) (.i .i64 0)=some (.i .i64 0):=by rw[xY];rfl
 by_cases hz:n=0
 ·have d1:decide ((0:Int)<(n:Int))=false:=af (by omega);simp only[WX,B79,d0,gV,ed,l1,S6,D9,s0,d1];exact⟨c1,⟨k1,by omega,by omega,_,_,g1,.inr rfl,.inl ⟨rfl,rfl⟩⟩,hg1.up (by omega),by omega,fun x hx hxb=>ak _ _ hxb⟩
 ·have d1:decide ((0:Int)<(n:Int))=true:=ah (by omega);simp only[WX,B79,d0,gV,ed,l1,S6,D9,s0,d1];have ok2:cR F (M.set b (ae 99 [.p b 0,.l0])) (c1+13):=⟨fun x hx=>ok1.hiM x (by omega),fun x hx=>ok1.hiF x (by omega),ok1.ap,by have:=ok1.ge;omega⟩
  refine az ((r89 Φ h89 ok2 (by omega) g1 n hn).mono ?_);rintro v2 M2 c2 ⟨rfl,rfl⟩;simp only[WX,Nat.reduceAdd];refine⟨c1+13+8,⟨k1,by omega,by omega,_,_,am _ _ _,.inr rfl,.inr ⟨by omega,by omega,n,⟨aD _,by omega⟩,rfl,?_⟩⟩,?_,by omega,fun x hx hxb=>?_⟩
  ·rw[ak _ _ (by omega),am];rfl
  ·exact((hg1.up (show c1≤c1+13 by omega)).set (c1+13+8) _ (by have:=hg.le;omega) (show c1+13+8<c1+13+16 by omega) (by omega)).set b _ k1 (by omega) (by omega)
  ·rw[ak _ _ hxb,ak _ _ (by omega),ak _ _ hxb]
theorem r52(Φ:Nat→Option CF)(h:Φ 52=some BA)(h71:Φ 71=some zg){F:RO}{M0 M:Mem}{c0 c b bb:Nat}{l:List UInt8}(ok:cR F M c)(hg:Gr c0 M0 c M)(hb:kN M c0 c b bb l)(s:List UInt8)(hr:mo (l.length+s.length) 1=true):
 Calls Φ F 52 [.p b 0,sV s] M c fun _ M' c'=>∃bb',kN M' c0 c' b bb' (l++s)∧Gr c0 M0 c' M'∧c≤c'∧(∀x,x<c→x≠b→x≠bb→M'.get x=M.get x)∧(bb'=bb∨c≤bb'):=by
 obtain⟨k1,k2,k3,a,v,hM,ha,hbuf⟩:=hb
 refine aN h ?_
 simp only[WX,B52]
 refine az ((r71 Φ h71 hM ha).mono ?_)
 rintro v1 M1 c1 ⟨rfl,rfl⟩
 have hg1:=hg.set b (ae 99 [.p b 0,v]) k1 k2 (aj _)
 have g1:(M.set b (ae 99 [.p b 0,v])).get b=some (ae 99 [.p b 0,v]):=am _ _ _
 have l1:load1 F (M.set b (ae 99 [.p b 0,v])) b 1=some v:=au g1 1
 have hbuf1:qV (M.set b (ae 99 [.p b 0,v])) c0 c1 bb v l:=by
  rcases hbuf with h|⟨a1,a2,n,a3,a4,a5⟩
  ·exact .inl h
  ·exact .inr ⟨a1,a2,n,a3,a4,by rw[ak _ _ (Ne.symm k3)];exact a5⟩
 simp only[WX,B52,nP,ed,l1]
 refine az ((aQ3 (F:=F) (s:=s) hbuf1 hg1 hr).mono ?_)
 rintro v2 M2 c2 ⟨bb',hb2,hg2,hle,hfr,hbb⟩
 have g2:M2.get b=some (ae 99 [.p b 0,v]):=by rw[hfr b (by omega) k3];exact g1
 obtain⟨o1,o2,_⟩:=Fa hb2
 have hst:=aC g2 1 [v2] (by simp) (by rw[av,o1];rfl)
 simp only[WX,Nat.reduceAdd,B52,nP,ed,o2,hst]
 have hne:b≠bb':=by rcases hbb with h|h<;>omega
 refine⟨bb',⟨k1,by omega,hne,_,_,am _ _ _,.inr rfl,?_⟩,hg2.set b _ k1 (by omega) (aj _),hle,fun x hx hxb hxbb=>?_,hbb⟩
 ·rcases hb2 with h|⟨a1,a2,n,a3,a4,a5⟩
  ·exact .inl h
  ·exact .inr ⟨a1,a2,n,a3,a4,by rw[ak _ _ (Ne.symm hne)];exact a5⟩
 ·rw[ak _ _ hxb,hfr x hx hxbb,ak _ _ hxb]
def usE(F:RO)(M:Mem)(c ty:Nat)(x n:V):RC:=Sd ty (.c x) (.c n) F M c .e
theorem yY{Φ:Nat→Option CF}{rd:Option Nat}{fn:Nat}{F:RO}(ty:Nat)(x n:X)(M:Mem)(c:Nat)(t:T):fc (.us ty x n) (K Φ rd fn F) M c t=usE F M c ty (x.ev t) (n.ev t):=Eq.trans rfl (Eq.refl _)
theorem bQ9{F:RO}(M:Mem)(c ty:Nat):usE F M c ty .p0 (.i .i64 0)= .k (.s 0 0) M c:=Eq.trans rfl (Eq.refl _)
theorem b05{F:RO}(M:Mem)(c ty b o:Nat):usE F M c ty (.p b o) (.i .i64 0)= .k (.s 0 0) M c:=Eq.trans rfl (Eq.refl _)
theorem Yo{F:RO}{M:Mem}{b n:Nat}(c:Nat){l:List UInt8}(hM:M.get b=some (qF 5 n (l.map bV)))(hn:l.length≤n)(hl:l≠[])(hl2:l.length≤1099511627776):
 ∃y,usE F M c 5 (.p b 0) (.i .i64 (l.length:Int))= .k (sV l) (M.set b y) c:=by
 have hld:=(ui (F:=F) hM (by rw[List.length_map];exact hn)).load (by
  intro e;rw[List.map_eq_nil_iff]at e;exact hl e)
 rw[List.length_map]at hld
 have h0:l.length≠0:=fun e=>hl (List.length_eq_zero_iff.1 e)
 refine⟨.cells 5 n false (if 0≤0+l.length then 0+l.length else 0) false [] (iB (l.map bV)),?_⟩
 show Fi F M c 5 b 0 l.length=_
 unfold Fi
 rw[bU,af h0,cond_false]
 have ht:Uf M b 5=true:=by unfold Uf;rw[hM];rfl
 rw[ht,cG,ah hl2]
 show(match loadN F M b 0 l.length with|some vs=>Fj M c b 0 (gm vs)|none=>RC.f)=_
 rw[hld]
 show Fj M c b 0 (gm (l.map bV))=_
 rw[tz]
 have hf:mR M b 0 l.length=some (M.set b (.cells 5 n false (if 0≤0+l.length then 0+l.length else 0) false [] (iB (l.map bV)))):=by
  unfold mR;rw[hM];show(bif false then none else fN (bif Nat.ble 0 (Nat.add 0 l.length)then Nat.add 0 l.length else 0) fun fz=>some (M.set b (.cells 5 n false fz false [] (iB (l.map bV)))))=_;rw[cond_false,bG,cG];by_cases h:0≤0+l.length
  ·rw[ah (show 0≤Nat.add 0 l.length from h),ac h];rfl
  ·exact absurd (aD _) h
 show(match mR M b 0 l.length with|some M=>fN l.length fun n=>fN (ce l) fun s=>RC.k (.s n s) M c|none=> .f)=_
 rw[hf]
 show(fN l.length fun n=>fN (ce l) fun s=>RC.k (.s n s) _ c)=_
 rw[bG,bG];rfl
theorem r54(Φ:Nat→Option CF)(h:Φ 54=some BB){F:RO}{M0 M:Mem}{c0 c b bb:Nat}{l:List UInt8}(ok:cR F M c)(hg:Gr c0 M0 c M)(hb:kN M c0 c b bb l)(hl:l.length≤1099511627776):
 Calls Φ F 54 [.p b 0] M c fun r M' c'=>r=sV l∧Gr c0 M0 c' M'∧c≤c'∧(∀x,x≠bb→M'.get x=M.get x):=by
 obtain⟨k1,k2,k3,a,v,hM,ha,hbuf⟩:=hb
 refine aN h ?_
 have l1:load1 F M b 1=some v:=au hM 1
 obtain⟨o1,o2,o1003⟩:=Fa hbuf
 rcases hbuf with⟨rfl,rfl⟩|⟨a1,a2,n,⟨a3,a4⟩,rfl,a5⟩
 ·have hf:=ok.free;rw[aM]at o1003;simp only[WX,Nat.reducePow,Nat.reduceDiv,Nat.reduceMod,Nat.reduceBEq,j0,B54,gV,ed,l1,S7,aZ1,o1003,yY,bQ9,Int.ofNat_zero,hf];exact⟨rfl,hg.up (by omega),by omega,fun _ _=>trivial⟩
 ·by_cases hl0:l=[]
  ·subst hl0;have hf:=ok.free;rw[aM]at o1003;simp only[WX,Nat.reducePow,Nat.reduceDiv,Nat.reduceMod,Nat.reduceBEq,j0,B54,gV,ed,l1,S7,aG7 a4,o1003,yY,b05,Int.ofNat_zero,hf];exact⟨rfl,hg.up (by omega),by omega,fun _ _=>trivial⟩
  ·obtain⟨y,hy⟩:=Yo (F:=F) (c+12) a5 a3 hl0 hl;have hf:bT (M.set bb y) F=true:=(ok.put (y:=y) a2 a5).free;simp only[WX,Nat.reducePow,Nat.reduceDiv,Nat.reduceMod,Nat.reduceBEq,j0,B54,gV,ed,l1,S7,aG7 a4,o1003,yY,hy,hf];exact⟨(hg.set bb y a1 a2 (aj _)).up (by omega),by omega,fun x hx=>ak _ _ hx⟩
abbrev bO1(u:List (Option V))(x0 x1 x5 x39 x40 x41:V):T:=(.n (.n (.n (.n (aq u 63 31 95 15 79 47 111) (uO u 7) (.n (.n (gy u 71) (some x39) (gy u 103)) (uO u 23) (fm u 87 55 119))) (uO u 3) (.n (aq u 67 35 99 19 83 51 115) (uO u 11) (aq u 75 43 107 27 91 59 123))) (some x1) (.n (.n (aq u 65 33 97 17 81 49 113) (uO u 9) (.n (.n (gy u 73) (some x41) (gy u 105)) (uO u 25) (fm u 89 57 121))) (some x5) (.n (aq u 69 37 101 21 85 53 117) (uO u 13) (aq u 77 45 109 29 93 61 125)))) (some x0) (.n (.n (.n (aq u 64 32 96 16 80 48 112) (uO u 8) (.n (.n (gy u 72) (some x40) (gy u 104)) (uO u 24) (fm u 88 56 120))) (uO u 4) (.n (aq u 68 36 100 20 84 52 116) (uO u 12) (aq u 76 44 108 28 92 60 124))) (uO u 2) (.n (.n (aq u 66 34 98 18 82 50 114) (uO u 10) (aq u 74 42 106 26 90 58 122)) (uO u 6) (.n (aq u 70 38 102 22 86 54 118) (uO u 14) (aq u 78 46 110 30 94 62 126)))))
abbrev bO2(u:List (Option V))(x0 x1 x8 x63 x64 x65:V):T:=(.n (.n (.n (.n (.n (.n (.n .e (some x63) .e) (uO u 31) (gy u 95)) (uO u 15) (fm u 79 47 111)) (uO u 7) (aq u 71 39 103 23 87 55 119)) (uO u 3) (.n (aq u 67 35 99 19 83 51 115) (uO u 11) (aq u 75 43 107 27 91 59 123))) (some x1) (.n (.n (.n (.n (.n .e (some x65) .e) (uO u 33) (gy u 97)) (uO u 17) (fm u 81 49 113)) (uO u 9) (aq u 73 41 105 25 89 57 121)) (uO u 5) (.n (aq u 69 37 101 21 85 53 117) (uO u 13) (aq u 77 45 109 29 93 61 125)))) (some x0) (.n (.n (.n (.n (.n (.n .e (some x64) .e) (uO u 32) (gy u 96)) (uO u 16) (fm u 80 48 112)) (some x8) (aq u 72 40 104 24 88 56 120)) (uO u 4) (.n (aq u 68 36 100 20 84 52 116) (uO u 12) (aq u 76 44 108 28 92 60 124))) (uO u 2) (.n (.n (aq u 66 34 98 18 82 50 114) (uO u 10) (aq u 74 42 106 26 90 58 122)) (uO u 6) (.n (aq u 70 38 102 22 86 54 118) (uO u 14) (aq u 78 46 110 30 94 62 126)))))
def aq5:CC:=(.reg [(qq a4 (.mv (.c (.s 0 0))))])
def aq6:CC:=(.reg [(qq ey (.mv z0)),(qq eU (.ln .slice dE))])
def aq7:CC:=(.reg [(qq dR (.bi .eql ei (x6 0))),(qq eC (.mv fG))])
def aq8:CC:=(.reg [(qq a4 (.mv (.c (.s 0 0))))])
def aq9:CC:=(.reg [(qq eX (.bi .eql ei (x6 1))),(qq dA (.mv gM))])
def ar0:CC:=(.reg [(qq gC (.mv z0)),(qq fK (.iaS 1 gS (x6 0))),(qq i5 (.ld1 hU)),(qq a4 (.mv jz))])
def ar1:CC:=(.seq aq9 (.cond gf (.seq ar0 .ret) .skip))
def ar2:CC:=(.seq aq7 (.cond eb (.seq aq8 .ret) ar1))
def ar3:CC:=(.reg [(qq a5 (.mv (x6 0)))])
def Q2:CC:=(.reg [(qq gh (.mv z1)),(qq fE (.ln .str k7)),(qq j9 (.bi .gtr ju (x6 0)))])
def Q3:CC:=(.reg [(qq gO (.mv z1)),(qq jn (.ln .str k8)),(qq gP (.mv z0)),(qq ja (.ln .slice kM)),(qq gQ (.bi .sub lw (x6 1))),(qq kQ (.bi .quo (x6 9223372036854775807) lB)),(qq gU (.bi .geq jA mH))])
def Q4:CC:=(.reg [(qq jv (.mki 9 (.c (.s 36 232023140547069528372253906381035003553488466437483087989658184371904395368843875349619)))),⟨none,.q (.bad),none⟩])
def Q5:CC:=(.seq Q3 (.cond mI Q4 .skip))
def Q6:CC:=(.reg [(qq jC (.mv z5)),(qq lz (.mv z1)),(qq lE (.ln .str oC)),(qq jx (.mv z0)),(qq iK (.ln .slice pR)),(qq mK (.bi .sub pM (x6 1))),(qq ka (.bi .mul pQ pS)),(qq mL (.bi .add ny oF)),(qq a5 (.mv qS))])
def Q7:CC:=(.cond kL (.seq Q5 Q6) .skip)
def Q8:CC:=(.reg [(qq lA (.mv z0)),(qq nj (.ln .slice qT)),(qq jb (.mv (x6 0)))])
def Q9:CC:=(.reg [(qq kR (.bi .lss pT rJ))])
def Qa:CC:=(.reg [(qq oK (.iaS 1 qT pT)),(qq lF (.ld1 rL)),(qq a7 (.mv qU))])
def Qb:CC:=(.reg [(qq oL (.mv z7)),(qq ll (.ln .str rM)),(qq oM (.mv z5)),(qq kb (.bi .sub (x6 9223372036854775807) rN)),(qq lG (.bi .gtr sO sq))])
def Qc:CC:=(.reg [(qq qZ (.mki 9 (.c (.s 36 232023140547069528372253906381035003553488466437483087989658184371904395368843875349619)))),⟨none,.q (.bad),none⟩])
def Qd:CC:=(.seq Qb (.cond uN Qc .skip))
def Qe:CC:=(.reg [(qq r0 (.mv z5)),(qq mM (.mv z7)),(qq sv (.ln .str v7)),(qq uS (.bi .add uP vD)),(qq a5 (.mv wW))])
def Qf:CC:=(.reg [(qq pO (.bi .add pT (x6 1))),(qq jb (.mv za))])
def Qg:CC:=(.seq (.cond rK .skip (.exit 1)) (.seq (.block 2 (.seq Qa (.seq Qd Qe))) Qf))
def Qh:CC:=(.reg [(aa a8 (.al 99 [.p0,.l0]))])
def Qi:CC:=(.reg [(qq sZ (.mv z5)),(ee vN (.call 79 [z8,vE]))])
def Qj:CC:=(.reg [(qq vO (.mv z0)),(qq sw (.iaS 1 Bg (x6 0))),(qq vP (.ld1 Bh)),(ee sy (.call 52 [z8,Bi]))])
def Qk:CC:=(.reg [(qq vQ (.mv z0)),(qq nA (.slL 1 Bj (some (x6 1)) none none)),(qq vR (.ln .slice zk)),(qq ve (.mv (x6 0)))])
def Ql:CC:=(.reg [(qq oN (.bi .lss zb BJ))])
def Qm:CC:=(.cond zl .skip (.exit 3))
def Qn:CC:=(.reg [(qq rS (.iaS 1 zk zb)),(qq vf (.ld1 vF)),(qq dJ (.mv zd))])
def Qo:CC:=(.reg [(qq uT (.mv z1)),(ee uU (.call 52 [z8,ze]))])
def Qp:CC:=(.reg [(qq oD (.mv eK)),(ee uV (.call 52 [z8,zf]))])
def Qq:CC:=(.reg [(qq fF (.bi .add zb (x6 1))),(qq ve (.mv ss))])
def Qr:CC:=(.seq Qm (.seq (.block 4 (.seq Qn (.seq Qo Qp))) Qq))
def Qs:CC:=(.reg [(ee pP (.call 54 [z8])),(qq a4 (.mv zo))])
def Qt:CC:=(.seq (.seq Qk (.block 3 (.loop (.seq Ql Qr)))) (.seq Qs .ret))
def Qu:CC:=(.seq (.seq Q8 (.block 1 (.loop (.seq Q9 Qg)))) (.seq Qh (.seq Qi (.seq Qj Qt))))
def Qv:CC:=(.seq (.seq aq6 (.block 0 ar2)) (.seq ar3 (.seq (.seq Q2 Q7) Qu)))
def J7:CF:= .mk 7 [.t a4] (.seq aq5 Qv)
theorem e60(v0 v1:V):bz 7 [v0,v1]=(.n (.n nu (some v1) nu) (some v0) uY):=rfl
def Jh:=ai @e60 (ai (wu aq5.eq_1) (ai (wu aq6.eq_1) (ai (wu aq7.eq_1) (ai (wu aq8.eq_1) (ai (wu aq9.eq_1) (ai (wu ar0.eq_1) (ai (wu ar1.eq_1) (ai (wu ar2.eq_1) (ai (wu ar3.eq_1) (ai (wu Q2.eq_1) (ai (wu Q3.eq_1) (ai (wu Q4.eq_1) (ai (wu Q5.eq_1) (ai (wu Q6.eq_1) (ai (wu Q7.eq_1) (ai (wu Q8.eq_1) (ai (wu Q9.eq_1) (ai (wu Qa.eq_1) (ai (wu Qb.eq_1) (ai (wu Qc.eq_1) (ai (wu Qd.eq_1) (ai (wu Qe.eq_1) (ai (wu Qf.eq_1) (ai (wu Qg.eq_1) (ai (wu Qh.eq_1) (ai (wu Qi.eq_1) (ai (wu Qj.eq_1) (ai (wu Qk.eq_1) (ai (wu Ql.eq_1) (ai (wu Qm.eq_1) (ai (wu Qn.eq_1) (ai (wu Qo.eq_1) (ai (wu Qp.eq_1) (ai (wu Qq.eq_1) (ai (wu Qr.eq_1) (ai (wu Qs.eq_1) (ai (wu Qt.eq_1) (ai (wu Qu.eq_1) (wu Qv.eq_1)))))))))))))))))))))))))))))))))))))))
theorem Gj{F:RO}{M:Mem}{c:Nat}{v:V}{l:List (List UInt8)}(hs:cE F M c 1 v (gJ l)):pf v=some (.i .i64 (l.length:Int)):=by
 have:=hs.len;rwa [gJ,List.length_map]at this
def dL:List (List UInt8)→Nat
 |[]=>0
 |w::r=>w.length+1+dL r
theorem uu:∀(l:List (List UInt8)) (k:Nat),dL (l.take k)≤dL l
 |[],k=>by rw[List.take_nil];exact aj _
 |w::r,0=>aD _
 |w::r,k+1=>by rw[List.take_succ_cons,dL,dL];have:=uu r k;omega
theorem bZ:∀(a b:List (List UInt8)),dL (a++b)=dL a+dL b
 |[],b=>by rw[List.nil_append,dL];omega
 |w::r,b=>by rw[List.cons_append,dL,dL,bZ r b];omega
theorem yM:∀(a:List (List UInt8)),a.length≤dL a
 |[]=>aj _
 |w::r=>by rw[aA,dL];have:=yM r;omega
theorem yL{l:List (List UInt8)}{i:Nat}(h:i<l.length):l[i].length≤dL l:=by
 induction l generalizing i with
 |nil=>cases h
 |cons w r ih=>
  cases i with
  |zero=>rw[List.getElem_cons_zero,dL];omega
  |succ i=>rw[List.getElem_cons_succ,dL];have:=ih (i:=i) (by simpa using h);omega
def ff(s:List UInt8):List (List UInt8)→List UInt8
 |[]=>[]
 |w::r=>w++(r.map fun x=>s++x).flatten
theorem HS(s w:List UInt8)(r:List (List UInt8))(x:List UInt8):ff s (w::(r++[x]))=ff s (w::r)++s++x:=by
 simp[ff,List.map_append,List.flatten_append]
theorem SG(s:List UInt8):∀(w:List UInt8) (r:List (List UInt8)),(ff s (w::r)).length≤dL (w::r)+s.length*r.length:=by
 intro w r
 induction r generalizing w with
 |nil=>simp[ff,dL]
 |cons x r ih=>
  have:=ih x;simp only[ff,dL,List.map_cons,List.flatten_cons,aH,aA]at this⊢;rw[Nat.mul_add];omega
theorem HR(s:List UInt8)(l:List (List UInt8)):(ff s l).length≤dL l+s.length*l.length:=by
 cases l with
 |nil=>simp[ff]
 |cons w r=>have:=SG s w r;rw[aA,Nat.mul_add];omega
theorem HT(s:List UInt8)(L:List (List UInt8))(i:Nat)(h:i+1<L.length):ff s (L.take (i+1+1))=ff s (L.take (i+1))++s++L[i+1]:=by
 cases L with
 |nil=>cases h
 |cons w r=>
  rw[List.take_succ_cons,List.take_succ_cons,List.getElem_cons_succ,List.take_succ_eq_append_getElem (by simpa using h),HS]
theorem p7(a b:Int)(h1: -9223372036854775808≤a-b)(h2:a-b<9223372036854775808):cB .sub (.i .i64 a) (.i .i64 b)=some (.i .i64 (a-b)):=by
 rw[xY,mE h1 h2]
theorem Xg(a b:Nat)(hb:0<b)(ha:a<9223372036854775808):cB .quo (.i .i64 (a:Int)) (.i .i64 (b:Int))=some (.i .i64 ((a/b:Nat):Int)):=by
 have hle:a/b≤a:=Nat.div_le_self a b
 show(r6 .i64 (a:Int) (b:Int)).val=_
 unfold r6
 rw[dx,af (show¬((b:Int)=0) by omega),cond_false,g9,jZ,←Int.ofNat_tdiv]
 generalize a/b=q at hle⊢
 rw[mE (by omega) (by omega)];rfl
theorem r60(Φ:Nat→Option CF)(h:Φ 60=some J7)(h79:Φ 79=some Wx)(h52:Φ 52=some BA)(h54:Φ 54=some BB)(h71:Φ 71=some zg)(h89:Φ 89=some VU){F:RO}{M:Mem}{c:Nat}{v:V}{l:List (List UInt8)}{s:List UInt8}(ok:cR F M c)(hs:cE F M c 1 v (gJ l))
 (hl:dL l≤1000000) (hs1:1≤s.length) (hs2:s.length≤100):Calls Φ F 60 [v,sV s] M c fun r M' c'=>r=sV (ff s l)∧Gr c M c' M':=by
 refine aN h ?_
 have hn:=Gj hs
 have hll:=yM l
 match l,hs,hn,hl,hll with
 |[],hs,hn,hl,hll=>
  rw[aM]at hn;simp only[WX,Jh,hn,Int.ofNat_zero];exact⟨rfl,Gr.refl ok⟩
 |[w],hs,hn,hl,hll=>
  obtain⟨b1,o1,_,ia1,ld1⟩:=qL hs 0 (by simp);have ia1:=ia1 .i64;rw[List.length_singleton]at hn;rw[Int.ofNat_zero]at ia1;rw[List.getElem_cons_zero]at ld1;simp only[WX,Int.reduceEq,Jh,hn,Int.ofNat_one,ia1,ld1];exact⟨by simp[ff],Gr.refl ok⟩
 |w0::w1::r,hs,hn,hl,hll=>
  generalize hL:w0::w1::r=L at hs hn hl hll⊢;have hL2:2≤L.length:=by rw[←hL];simp
  have d0:decide ((L.length:Int)=0)=false:=af (by omega);have d1:decide ((L.length:Int)=1)=false:=af (by omega);have d2:decide ((0:Int)<(s.length:Int))=true:=ah (by omega);have sb:cB .sub (.i .i64 (L.length:Int)) (.i .i64 1)=some (.i .i64 ((L.length-1:Nat):Int)):=by rw[p7 _ _ (by omega) (by omega)];congr 2;omega
  have qu:=Xg 9223372036854775807 (L.length-1) (by omega) (by omega);rw[show((9223372036854775807:Nat):Int)=9223372036854775807 from rfl]at qu;have hq:9223372036854≤9223372036854775807/(L.length-1):=by
   rw[Nat.le_div_iff_mul_le (by omega)];have:9223372036854*(L.length-1)≤9223372036854*1000000:=Nat.mul_le_mul_left _ (by omega);omega
  have d3:decide (((9223372036854775807/(L.length-1):Nat):Int)≤(s.length:Int))=false:=af (by omega);have hmb:s.length*(L.length-1)≤100*1000000:=Nat.mul_le_mul hs2 (by omega);have mu:cB .mul (.i .i64 (s.length:Int)) (.i .i64 ((L.length-1:Nat):Int))=some (.i .i64 ((s.length*(L.length-1):Nat):Int)):=by
   have:((s.length:Int)*((L.length-1:Nat):Int))=((s.length*(L.length-1):Nat):Int):=by rw[Int.natCast_mul]
   rw[Fq _ _ (by rw[this];omega) (by rw[this];omega),this]
  have ad:cB .add (.i .i64 0) (.i .i64 ((s.length*(L.length-1):Nat):Int))=some (.i .i64 ((s.length*(L.length-1):Nat):Int)):=by rw[be _ _ (by omega) (by omega)];simp
  simp only[WX,Jh,hn,d0,d1,d2,sb,qu,d3,mu,ad];obtain⟨I1,hI1⟩:∃I:Nat→St→Prop,∀n s',I n s'↔(∃(i a:Nat) (u:List (Option V)),n=L.length-i∧i≤L.length∧s'= .mk ((bO1 u v (sV s) (.i .i64 (a:Int)) v (.i .i64 (L.length:Int)) (.i .i64 (i:Int)))) [] M c∧a≤100000000+dL (L.take i)):=⟨fun n s'=>_,fun _ _=>Iff.rfl⟩
  refine bw I1 ?_ L.length _ ((hI1 _ _).2 ⟨0,s.length*(L.length-1),(G2 (X2 (X1 (G1 (bA (X1 (G2 (G1 (bf (br (X4 (X1 [])))))))))))),rfl,aD _,rfl,by omega⟩);intro n s' hIs;obtain⟨i,a,u,rfl,hi,rfl,ha⟩:=(hI1 _ _).1 hIs;clear hIs;have htk:=uu L i;by_cases hlt:i<L.length
  ·have e1:decide ((i:Int)<(L.length:Int))=true:=ah (by omega);obtain⟨b1,o1,_,ia1,ld1⟩:=qL hs i hlt;have hge:=yL hlt;have sb2:cB .sub (.i .i64 9223372036854775807) (.i .i64 (a:Int))=some (.i .i64 (9223372036854775807-(a:Int))):=p7 _ _ (by omega) (by omega);have e2:decide ((9223372036854775807-(a:Int))<(L[i].length:Int))=false:=af (by omega);have ad2:cB .add (.i .i64 (a:Int)) (.i .i64 (L[i].length:Int))=some (.i .i64 ((a+L[i].length:Nat):Int)):=by rw[be _ _ (by omega) (by omega)];simp
   have q8:cB .add (.i .i64 (i:Int)) (.i .i64 1)=some (.i .i64 ((i+1:Nat):Int)):=by rw[be _ _ (by omega) (by omega)];simp
   simp only[WX,Jh,e1,ia1,ld1,sb2,e2,ad2,q8];refine⟨L.length-(i+1),by omega,(hI1 _ _).2 ⟨i+1,a+L[i].length,(G2 (X2 (X1 (G1 (bA (X1 (G2 (G1 (bf (br (X4 (X1 [])))))))))))),rfl,by omega,rfl,?_⟩⟩;rw[List.take_succ_eq_append_getElem hlt,bZ,dL,dL];omega
  ·have e1:decide ((i:Int)<(L.length:Int))=false:=af (by omega);have gr0:Gr c M (c+1) (M.set c (ae 99 [.p0,.l0])):=(Gr.refl ok).set c _ (aj _) (ay _) (aJ _);have ok0:=gr0.ok ok;simp only[WX,Jh,e1];refine az ((r79 Φ h79 h71 h89 ok0 gr0 (aj _) (ay _) (am _ _ _) a (by omega)).mono ?_);rintro v1 M1 c1 ⟨bb,hb1,gr1,hle1,hfr1⟩;have ok1:=gr1.ok ok;have hs1':=hs.grow gr1;obtain⟨b1,o1,hb1c,ia1,ld1⟩:=qL hs1' 0 (by omega);have ia1:=ia1 .i64;rw[Int.ofNat_zero]at ia1;simp only[WX,Jh,ia1,ld1];have hg0:=yL (l:=L) (i:=0) (by omega);refine az ((r52 Φ h52 h71 ok1 gr1 hb1 L[0] (kE (by simp only[aM];omega))).mono ?_);rintro v2 M2 c2 ⟨bb2,hb2,gr2,hle2,_,_⟩;rw[List.nil_append]at hb2;have ok2:=gr2.ok ok;obtain⟨v3,⟨_,_,hsl,_⟩,hs3⟩:=TL (lo:=1) (hi:=(gJ L).length) hs (by simp[gJ];omega) (aj _);have hsl':vu 1 v (some (.i .i64 1)) none none=some v3:=congrArg QR.val (hsl rfl);have hs3':cE F M c 1 v3 (gJ (L.drop 1)):=by
    rw[List.take_length,gJ,←List.map_drop]at hs3;exact hs3
   have hn3:=Gj hs3';rw[bu]at hn3;simp only[WX,Jh,hsl',hn3];obtain⟨I2,hI2⟩:∃I:Nat→St→Prop,∀n s',I n s'↔(∃(i:Nat) (M3:Mem) (c1003 bb3:Nat) (u:List (Option V)),n=L.length-1-i∧i≤L.length-1∧s'= .mk ((bO2 u v (sV s) (.p c 0) v3 (.i .i64 ((L.length-1:Nat):Int)) (.i .i64 (i:Int)))) [] M3 c1003∧kN M3 c c1003 c bb3 (ff s (L.take (i+1)))∧Gr c M c1003 M3):=⟨fun n s'=>_,fun _ _=>Iff.rfl⟩
   refine bw I2 ?_ (L.length-1) _ ((hI2 _ _).2 ⟨0,M2,c2,bb2,(G2 (X4 (X2 (G1 (bA (br (X4 (X2 (G2 (G1 (bA (br (X8 (X4 (X1 []))))))))))))))),rfl,aD _,rfl,?_,gr2⟩)
   ·intro n s' hIs;obtain⟨i,M3,c1003,bb3,u,rfl,hi,rfl,hb3,gr3⟩:=(hI2 _ _).1 hIs;clear hIs;have hs4:=hs3'.grow gr3;have qo:=gr3.ok ok;have hj:=HR s (L.take (i+1));have hj2:=uu L (i+1);have hj3:s.length*(L.take (i+1)).length≤100*1000000:=Nat.mul_le_mul hs2 (by rw[List.length_take];omega);by_cases hlt:i<L.length-1
    ·have e1:decide ((i:Int)<((L.length-1:Nat):Int))=true:=ah (by omega);obtain⟨b1004,o1004,hb4,ia4,ld4⟩:=qL hs4 i (by rw[bu];omega);have hge:(L.drop 1)[i]'(by rw[bu];omega)=L[i+1]:=by rw[List.getElem_drop];congr 1;omega
     rw[hge]at ld4;have hgl:=yL (l:=L) (i:=i+1) (by omega);have q8:cB .add (.i .i64 (i:Int)) (.i .i64 1)=some (.i .i64 ((i+1:Nat):Int)):=by rw[be _ _ (by omega) (by omega)];simp
     simp only[WX,Jh,e1,ia4,ld4];refine az ((r52 Φ h52 h71 qo gr3 hb3 s (kE (by omega))).mono ?_);rintro v5 M5 c1005 ⟨bb5,hb5,gr5,hle5,_,_⟩;have ok5:=gr5.ok ok;simp only[WX,Jh];refine az ((r52 Φ h52 h71 ok5 gr5 hb5 L[i+1] (kE (by rw[aH];omega))).mono ?_);rintro v6 M6 c1006 ⟨bb6,hb6,gr6,hle6,_,_⟩;simp only[WX,Jh,q8];refine⟨L.length-1-(i+1),by omega,(hI2 _ _).2 ⟨i+1,M6,c1006,bb6,(G2 (X4 (X2 (G1 (bA (br (X4 (X2 (G2 (G1 (bA (br (X8 (X4 (X1 []))))))))))))))),rfl,by omega,rfl,?_,gr6⟩⟩;rw[HT s L i (by omega)];exact hb6
    ·have e1:decide ((i:Int)<((L.length-1:Nat):Int))=false:=af (by omega);simp only[WX,Jh,e1];refine az ((r54 Φ h54 qo gr3 hb3 (by omega)).mono ?_);rintro v5 M5 c1005 ⟨rfl,gr5,_,_⟩;simp only[WX];refine⟨?_,gr5⟩;rw[List.take_of_length_le (by omega)]
   ·rw[show L.take (0+1)=[L[0]] by rw[List.take_succ_eq_append_getElem (show 0<L.length by omega)];rfl]
    simpa [ff]using hb2
theorem yF:∀(f:Nat) (r:List UInt8) (w:List Pc) (text:List UInt8) (sm:Bool) (n:Nat) (ps:List Pc) (m:Nat),BE f r w text sm n=some (ps,m)→ps.length≤w.length+2*f
 |0,_,_,_,_,_,_,_,h=>by cases h
 |f+1,r,w,text,sm,n,ps,m,h=>by
  rw[BE]at h;split at h
  ·injection h with h;injection h with h1 h2
   rw[←h1];unfold nK;split<;>simp<;>omega
  ·cases h
  ·have:=yF f _ _ _ _ _ _ _ h;have e:(ji w text).length≤w.length+2:=by unfold ji;split<;>simp
   omega
  ·have:=yF f _ _ _ _ _ _ _ h;omega
theorem uz:∀(f:Nat) (r:List UInt8) (i:Nat),∀t∈AX f r i,t.2.2.length≤2*(r.length+1)
 |0,_,_,t,h=>by cases h
 |_+1,[],_,t,h=>by cases h
 |f+1,x::l,i,t,h=>by
  unfold AX at h;split at h
  ·have:=uz f l _ t h;rw[aA];omega
  ·split at h
   ·rcases bq.1 h with rfl|h
    ·simp
    ·have:=uz f _ _ t h;rw[bu]at this;omega
   ·split at h
    ·cases h
    ·rename_i ps n hr;split at h
     ·cases h
     ·rcases bq.1 h with rfl|h
      ·have:=yF _ _ _ _ _ _ _ _ hr;simp only[aM]at this;show ps.length≤_;omega
      ·have:=uz f _ _ t h;rw[bu]at this;omega
theorem kT{v w:V}{f:List UInt8→Option V}(h:(pW v).bind f=some w):∃l,v=sV l∧f l=some w:=by
 obtain⟨l,h1,h2⟩:=aW.1 h
 exact⟨l,aW2 h1,h2⟩
theorem w8{v w:V}{f:UInt8→Option V}(h:(VM v).bind f=some w):∃b,v=bV b∧f b=some w:=by
 obtain⟨l,h1,h2⟩:=aW.1 h
 exact⟨l,aW1 h1,h2⟩
theorem bL7{ct:Nat}(h:1000≤ct):cR [] (.e:Mem) ct:=⟨fun b _=>rfl,fun b _=>rfl,fun b hb=>(by cases hb),h⟩
section
variable{P:Program}(hm:P.follows .mixedOrders=true){Φ:Nat→Option CF}(hΦ:ft P Φ)
include hm hΦ
theorem o87(h:Φ 87=some c87):dy P 87 (aG Sv):=eN hm hΦ (by
 intro args v ct hv hct;unfold Sv at hv;split at hv
 ·obtain⟨l,rfl,hv1⟩:=kT hv;obtain⟨p,rfl,hv2⟩:=kT hv1;obtain rfl:=ag hv2;exact⟨trivial,t87 Φ h _ _ _⟩
 ·cases hv)
theorem o88(h:Φ 88=some c88):dy P 88 (aG h88):=eN hm hΦ (by
 intro args v ct hv hct;unfold h88 at hv;split at hv
 ·obtain⟨l,rfl,hv1⟩:=kT hv;obtain⟨b,rfl,hv2⟩:=w8 hv1;obtain rfl:=ag hv2;exact⟨trivial,t88 Φ h _ _ _⟩
 ·cases hv)
theorem o73(h:Φ 73=some c73)(Sv:Φ 87=some (.orc (aG Sv))):dy P 73 (aG h73):=eN hm hΦ (by
 intro args v ct hv hct;unfold h73 at hv;split at hv
 ·obtain⟨l,rfl,hv1⟩:=kT hv;obtain⟨p,rfl,hv2⟩:=kT hv1;obtain rfl:=ag hv2;exact⟨trivial,t73 Φ h Sv _ _ _⟩
 ·cases hv)
theorem o76(h:Φ 76=some c76)(h88':Φ 88=some (.orc (aG h88))):dy P 76 (aG h88):=eN hm hΦ (by
 intro args v ct hv hct;unfold h88 at hv;split at hv
 ·obtain⟨l,rfl,hv1⟩:=kT hv;obtain⟨b,rfl,hv2⟩:=w8 hv1;obtain rfl:=ag hv2;exact⟨trivial,t76 Φ h h88' _ _ _⟩
 ·cases hv)
theorem o75(h:Φ 75=some c75)(h76:Φ 76=some (.orc (aG h88))):dy P 75 (aG h75):=eN hm hΦ (by
 intro args v ct hv hct;unfold h75 at hv;split at hv
 ·obtain⟨b,rfl,hv1⟩:=w8 hv;obtain rfl:=ag hv1;exact⟨trivial,t75 Φ h h76 _ _⟩
 ·cases hv)
theorem o78(h:Φ 78=some c78):dy P 78 (aG h78):=eN hm hΦ (by
 intro args v ct hv hct;unfold h78 at hv;split at hv
 ·obtain⟨b,rfl,hv1⟩:=w8 hv;obtain rfl:=ag hv1;exact⟨trivial,t78 Φ h _ _⟩
 ·cases hv)
theorem o69(h:Φ 69=some c69):dy P 69 (aG h78):=eN hm hΦ (by
 intro args v ct hv hct;unfold h78 at hv;split at hv
 ·obtain⟨b,rfl,hv1⟩:=w8 hv;obtain rfl:=ag hv1;exact⟨trivial,t69 Φ h _ _⟩
 ·cases hv)
theorem o68(h:Φ 68=some c68):dy P 68 (aG h75):=eN hm hΦ (by
 intro args v ct hv hct;unfold h75 at hv;split at hv
 ·obtain⟨b,rfl,hv1⟩:=w8 hv;obtain rfl:=ag hv1;exact⟨trivial,t68 Φ h _ _⟩
 ·cases hv)
theorem o77(h:Φ 77=some c77)(h78:Φ 78=some (.orc (aG h78)))(h75:Φ 75=some (.orc (aG h75))):dy P 77 (aG h77):=eN hm hΦ (by
 intro args v ct hv hct;unfold h77 at hv;split at hv
 ·obtain⟨l,rfl,hv1⟩:=kT hv;split at hv1
  ·rename_i hl;obtain rfl:=ag hv1;exact⟨trivial,t77 Φ h h78 l hl _⟩
  ·cases hv1
 ·obtain⟨l,rfl,hv1⟩:=kT hv;split at hv1
  ·rename_i hl;obtain rfl:=ag hv1;exact⟨trivial,cr1 Φ h h75 l hl _⟩
  ·cases hv1
 ·cases hv)
theorem o55(h:Φ 55=some c55)(h73:Φ 73=some (.orc (aG h73))):dy P 55 (aG h55):=eN hm hΦ (by
 intro args v ct hv hct;unfold h55 at hv;split at hv
 ·obtain⟨l,rfl,hv1⟩:=kT hv;obtain rfl:=ag hv1;obtain⟨r,M1,c1,e,rfl,_⟩:=r55 Φ h h73 (bL7 hct) l;exact⟨trivial,M1,c1,e⟩
 ·cases hv)
theorem o44(h:Φ 44=some c44):dy P 44 (aG h44):=eN hm hΦ (by
 intro args v ct hv hct;unfold h44 at hv;split at hv
 ·obtain⟨l,rfl,hv1⟩:=kT hv;split at hv1
  ·cases hv1
  ·split at hv1
   ·rename_i hl;obtain rfl:=ag hv1;exact⟨trivial,t44 Φ h _ _ hl _⟩
   ·cases hv1
 ·cases hv)
end
theorem Yh{F:RO}{M:Mem}{c:Nat}{vs:List V}{x:(Ty.str).D}(h:Rp F M c .str vs x):∃s:List UInt8,vs=[sV s]:=by
 have key:∀l:List UInt8,vs=[sV l]∧l.length≤Go.maxLen→ ∃s:List UInt8,vs=[sV s]:=fun l h=>⟨l,h.1⟩
 exact key x h
abbrev ST:Nat:=9223372036854775807
def dQ(F:RO)(M:Mem)(c:Nat)(v:V)(w:List Pc):Prop:=cE F M c 2 v (jy w)∧w.length≤ST
def cQ{α:Type}(F:RO)(R:Mem→Nat→List V→α→Prop)(sz:Nat)(M:Mem)(c:Nat)(v:V)(l:List α):Prop:=∃es:List (List V),cE F M c sz v es∧es.length=l.length∧l.length≤ST∧ ∀i (h:i<es.length) (h':i<l.length),R M c es[i] l[i]
def W1(F:RO)(M:Mem)(c:Nat)(e:List V)(w:List Pc):Prop:=∃x,e=[x]∧dQ F M c x w
def fo(F:RO)(M:Mem)(c:Nat)(v:V)(l:List (List Pc)):Prop:=cQ F (W1 F) 1 M c v l
def C1(F:RO)(M:Mem)(c:Nat)(e:List V)(l:List (List Pc)):Prop:=∃x,e=[x]∧fo F M c x l
def lh(F:RO)(M:Mem)(c:Nat)(v:V)(l:List (List (List Pc))):Prop:=cQ F (C1 F) 1 M c v l
structure fD where
 join:Int
 nt:Bool
 inp:List Pc
 out:List Pc
 beh:Bool
 cmds:List (List (List Pc))
def P1(F:RO)(M:Mem)(c:Nat)(e:List V)(p:fD):Prop:=∃vi vo vc,e=[.i .i64 p.join,.b p.nt,vi,vo,.b p.beh,vc]∧dQ F M c vi p.inp∧dQ F M c vo p.out∧lh F M c vc p.cmds
def nh(F:RO)(M:Mem)(c:Nat)(v:V)(l:List fD):Prop:=cQ F (P1 F) 6 M c v l
theorem dQ.grow{F:RO}{M M':Mem}{c c':Nat}{v:V}{w:List Pc}(h:dQ F M c v w)(g:Gr c M c' M'):dQ F M' c' v w:=⟨h.1.grow g,h.2⟩
theorem cQ.grow{α:Type}{F:RO}{R:Mem→Nat→List V→α→Prop}{sz:Nat}{M M':Mem}{c c':Nat}{v:V}{l:List α}(hR:∀e x,R M c e x→R M' c' e x)(h:cQ F R sz M c v l)(g:Gr c M c' M'):cQ F R sz M' c' v l:=by
 obtain⟨es,h1,h2,h3,h4⟩:=h
 exact⟨es,h1.grow g,h2,h3,fun i h h'=>hR _ _ (h4 i h h')⟩
theorem W1.grow{F:RO}{M M':Mem}{c c':Nat}(g:Gr c M c' M')(e:List V)(w:List Pc)(h:W1 F M c e w):W1 F M' c' e w:=by obtain⟨x,h1,h2⟩:=h;exact⟨x,h1,h2.grow g⟩
theorem fo.grow{F:RO}{M M':Mem}{c c':Nat}{v:V}{l:List (List Pc)}(h:fo F M c v l)(g:Gr c M c' M'):fo F M' c' v l:=cQ.grow (W1.grow g) h g
theorem C1.grow{F:RO}{M M':Mem}{c c':Nat}(g:Gr c M c' M')(e:List V)(w:List (List Pc))(h:C1 F M c e w):C1 F M' c' e w:=by obtain⟨x,h1,h2⟩:=h;exact⟨x,h1,h2.grow g⟩
theorem lh.grow{F:RO}{M M':Mem}{c c':Nat}{v:V}{l:List (List (List Pc))}(h:lh F M c v l)(g:Gr c M c' M'):lh F M' c' v l:=cQ.grow (C1.grow g) h g
theorem P1.grow{F:RO}{M M':Mem}{c c':Nat}(g:Gr c M c' M')(e:List V)(w:fD)(h:P1 F M c e w):P1 F M' c' e w:=by obtain⟨vi,vo,vc,h1,h2,h3,h4⟩:=h;exact⟨vi,vo,vc,h1,h2.grow g,h3.grow g,h4.grow g⟩
theorem nh.grow{F:RO}{M M':Mem}{c c':Nat}{v:V}{l:List fD}(h:nh F M c v l)(g:Gr c M c' M'):nh F M' c' v l:=cQ.grow (P1.grow g) h g
theorem jj{F:RO}{M:Mem}{c sz:Nat}{v:V}{es:List (List V)}(h:cE F M c sz v es):bC v=true∧flatten v=[v]∧aK [v]=true:=by
 rcases h with⟨_,⟨_,rfl|⟨b,o0,o,rfl⟩⟩|⟨b,o,⟨cap,_,rfl⟩|⟨el,kn,_,rfl⟩,_⟩⟩<;>exact⟨rfl,rfl,rfl⟩
theorem cQ.one{α:Type}{F:RO}{R:Mem→Nat→List V→α→Prop}{sz:Nat}{M:Mem}{c:Nat}{v:V}{l:List α}(h:cQ F R sz M c v l):bC v=true∧flatten v=[v]∧aK [v]=true:=by
 obtain⟨es,h1,_⟩:=h;exact jj h1
theorem dQ.one{F:RO}{M:Mem}{c:Nat}{v:V}{w:List Pc}(h:dQ F M c v w):bC v=true∧flatten v=[v]∧aK [v]=true:=jj h.1
theorem cQ.len{α:Type}{F:RO}{R:Mem→Nat→List V→α→Prop}{sz:Nat}{M:Mem}{c:Nat}{v:V}{l:List α}(h:cQ F R sz M c v l):pf v=some (.i .i64 (l.length:Int)):=by
 obtain⟨es,h1,h2,_⟩:=h;rw[←h2];exact h1.len
theorem cQ.max{α:Type}{F:RO}{R:Mem→Nat→List V→α→Prop}{sz:Nat}{M:Mem}{c:Nat}{v:V}{l:List α}(h:cQ F R sz M c v l):l.length≤9223372036854775807:=by
 obtain⟨es,h1,h2,h3,_⟩:=h;exact h3
theorem dQ.len{F:RO}{M:Mem}{c:Nat}{v:V}{w:List Pc}(h:dQ F M c v w):pf v=some (.i .i64 (w.length:Int)):=by have:=h.1.len;rwa [ep]at this
theorem cQ.at{α:Type}{F:RO}{R:Mem→Nat→List V→α→Prop}{sz:Nat}{M:Mem}{c:Nat}{v:V}{l:List α}(h:cQ F R sz M c v l)(hsz:0<sz)(i:Nat)(hi:i<l.length):
 ∃b o e,b<c∧(∀k,eV sz v (.i k (i:Int))=some (.p b o))∧loadN F M b o sz=some e∧e.length=sz∧R M c e l[i]:=by
 obtain⟨es,h1,h2,h3,h4⟩:=h
 obtain⟨b,o,a1,a2,a3⟩:=h1.at i (by omega)
 have hl:es[i].length=sz:=h1.1 _ (List.getElem_mem _)
 exact⟨b,o,es[i],a1,a2,by have:=a3.load (by intro e;rw[e]at hl;simp at hl;omega);rwa [hl]at this,hl,h4 i _ hi⟩
theorem sL{α:Type}{l1 l2:List α}{i:Nat}(h1:i<l1.length)(h2:i<l2.length)(h:l1.take i=l2.take i)(he:l1[i]=l2[i]):l1.take (i+1)=l2.take (i+1):=by
 rw[List.take_succ_eq_append_getElem h1,List.take_succ_eq_append_getElem h2,h,he]
theorem Gt{α:Type}{l1 l2:List α}{i:Nat}(h1:i<l1.length)(h2:i<l2.length)(he:l1[i]≠l2[i]):l1≠l2:=fun e=>he (by subst e;rfl)
theorem yO{α:Type}{l1 l2:List α}(hl:l1.length=l2.length)(h:l1.take l1.length=l2.take l1.length):l1=l2:=by
 rw[List.take_length,hl,List.take_length]at h;exact h
theorem aW6(p q:Pc):(decide (p.1=q.1)&&decide (p.2=q.2))=decide (p=q):=by
 obtain⟨a,b⟩:=p
 obtain⟨a',b'⟩:=q
 rw[Bool.eq_iff_iff]
 simp
theorem w22(Φ:Nat→Option CF)(h:Φ 22=some c22){F:RO}{M:Mem}{c:Nat}(ok:cR F M c){v1 v2:V}{l1 l2:List Pc}(h1:dQ F M c v1 l1)(h2:dQ F M c v2 l2):
 Calls Φ F 22 [.g [v1],.g [v2]] M c fun r M' c'=>r= .b (decide (l1=l2))∧Gr c M c' M':=by
 refine aN h ?_
 obtain⟨y1,y2,y3⟩:=h1.one
 obtain⟨z1,z2,z3⟩:=h2.one
 have hG:∀v,flatten (V.g [v])=[v]:=fun _=>rfl
 have gX:=((Gr.refl ok).set c (ae 36 [v1]) (aj _) (ay _) (aJ _)).set (c+1) (ae 36 [v2]) (by omega) (show c+1<c+2 by omega) (by omega)
 have m0:((M.set c (ae 36 [v1])).set (c+1) (ae 36 [v2])).get c=some (ae 36 [v1]):=by rw[ak _ _ (by omega)];exact am _ _ _
 have m1:((M.set c (ae 36 [v1])).set (c+1) (ae 36 [v2])).get (c+1)=some (ae 36 [v2]):=am _ _ _
 have k1:=h1.grow gX
 have k2:=h2.grow gX
 have l0:load1 F ((M.set c (ae 36 [v1])).set (c+1) (ae 36 [v2])) c 0=some v1:=au m0 0
 have l1':load1 F ((M.set c (ae 36 [v1])).set (c+1) (ae 36 [v2])) (c+1) 0=some v2:=au m1 0
 have n1:=h1.len
 have n2:=h2.len
 have mx1:l1.length≤9223372036854775807:=h1.2
 by_cases hlen:l1.length=l2.length
 ·have d0:decide (¬((l1.length:Int)=(l2.length:Int)))=false:=af (by omega);simp only[WX,Nat.reduceAdd,B22,hG,y3,z3,l0,l1',n1,n2,d0];generalize(M.set c (ae 36 [v1])).set (c+1) (ae 36 [v2])=X at gX k1 k2 l0 l1'⊢;have okX:=gX.ok ok;obtain⟨I,hI⟩:∃I:Nat→St→Prop,∀n s',I n s'↔(∃(i c1:Nat) (u:List (Option V)),n=l1.length-i∧i≤l1.length∧c+2≤c1∧s'= .mk ((bP0 u (.p c 0) (.p (c+1) 0) (.i .i64 (i:Int)))) [] X c1∧l1.take i=l2.take i):=⟨fun n s'=>_,fun _ _=>Iff.rfl⟩
  refine bw I ?_ l1.length _ ((hI _ _).2 ⟨0,_,(X2 (G2 (X1 (G1 (br (X8 (X1 []))))))),rfl,aD _,aj _,rfl,rfl⟩);intro n s' hIs;obtain⟨i,c1,u,rfl,hi,hc1,rfl,hpre⟩:=(hI _ _).1 hIs;clear hIs;by_cases hlt:i<l1.length
  ·have q8:cB .add (.i .i64 (i:Int)) (.i .i64 1)=some (.i .i64 ((i+1:Nat):Int)):=by rw[be _ _ (by omega) (by omega)];simp
   have hlt2:i<l2.length:=by omega
   have d1:decide ((i:Int)<(l1.length:Int))=true:=ah (by omega);obtain⟨b1,o1,_,ia1,ld1⟩:=wD k1.1 i hlt;obtain⟨b2,o2,_,ia2,ld2⟩:=wD k2.1 i hlt2;have ia1:=ia1 .i64;have ia2:=ia2 .i64;have hfr:=okX.free;unfold Ar at ld1 ld2;have hpv:=aW6 l1[i] l2[i];by_cases he:l1[i]=l2[i]
   ·have e1:decide (l1[i].1=l2[i].1)=true:=ah (by rw[he]);have e2:decide (l1[i].2=l2[i].2)=true:=ah (by rw[he]);simp only[WX,B22,n1,l0,l1',d1,ia1,ia2,ld1,ld2,q8,e1,e2];exact⟨l1.length-(i+1),by omega,(hI _ _).2 ⟨i+1,_,(X2 (G2 (X1 (G1 (br (X8 (X1 []))))))),rfl,hlt,by omega,rfl,sL hlt hlt2 hpre he⟩⟩
   ·rw[af he]at hpv;have hne:=Gt hlt hlt2 he;by_cases e1:l1[i].1=l2[i].1
    ·have e2:decide (l1[i].2=l2[i].2)=false:=by rw[ah e1,Bool.true_and]at hpv;exact hpv
     have e1:=ah e1;simp only[WX,B22,n1,l0,l1',d1,ia1,ia2,ld1,ld2,e1,e2];exact⟨by rw[af hne],gX.up (by omega)⟩
    ·have e1:=af e1;simp only[WX,B22,n1,l0,l1',d1,ia1,ia2,ld1,ld2,e1,Bool.false_and];exact⟨by rw[af hne],gX.up (by omega)⟩
  ·obtain rfl:i=l1.length:=by omega
   have d1:decide ((l1.length:Int)<(l1.length:Int))=false:=af (by omega);simp only[WX,B22,n1,l0,d1];exact⟨by rw[ah (yO hlen hpre)],gX.up hc1⟩
 ·have d0:decide (¬((l1.length:Int)=(l2.length:Int)))=true:=ah (by omega);simp only[WX,Nat.reduceAdd,B22,hG,y3,z3,l0,l1',n1,n2,d0];exact⟨by rw[af (fun e=>hlen (by rw[e]))],gX⟩
deriving instance DecidableEq for fD
theorem fo.one{F:RO}{M:Mem}{c:Nat}{v:V}{l:List (List Pc)}(h:fo F M c v l):bC v=true∧flatten v=[v]∧aK [v]=true:=cQ.one h
theorem fo.len{F:RO}{M:Mem}{c:Nat}{v:V}{l:List (List Pc)}(h:fo F M c v l):pf v=some (.i .i64 (l.length:Int)):=cQ.len h
theorem fo.max{F:RO}{M:Mem}{c:Nat}{v:V}{l:List (List Pc)}(h:fo F M c v l):l.length≤9223372036854775807:=cQ.max h
theorem lh.one{F:RO}{M:Mem}{c:Nat}{v:V}{l:List (List (List Pc))}(h:lh F M c v l):bC v=true∧flatten v=[v]∧aK [v]=true:=cQ.one h
theorem lh.len{F:RO}{M:Mem}{c:Nat}{v:V}{l:List (List (List Pc))}(h:lh F M c v l):pf v=some (.i .i64 (l.length:Int)):=cQ.len h
theorem lh.max{F:RO}{M:Mem}{c:Nat}{v:V}{l:List (List (List Pc))}(h:lh F M c v l):l.length≤9223372036854775807:=cQ.max h
theorem nh.one{F:RO}{M:Mem}{c:Nat}{v:V}{l:List fD}(h:nh F M c v l):bC v=true∧flatten v=[v]∧aK [v]=true:=cQ.one h
theorem nh.len{F:RO}{M:Mem}{c:Nat}{v:V}{l:List fD}(h:nh F M c v l):pf v=some (.i .i64 (l.length:Int)):=cQ.len h
theorem nh.max{F:RO}{M:Mem}{c:Nat}{v:V}{l:List fD}(h:nh F M c v l):l.length≤9223372036854775807:=cQ.max h
theorem Tb{p q:fD}:p=q↔p.join=q.join∧p.nt=q.nt∧p.beh=q.beh∧p.inp=q.inp∧p.out=q.out∧p.cmds=q.cmds:=by
 obtain⟨a,b,c,d,e,f⟩:=p
 obtain⟨a',b',c',d',e',f'⟩:=q
 simp only[fD.mk.injEq]
 constructor
 ·rintro⟨h1,h2,h3,h4,h5,h6⟩;exact⟨h1,h2,h5,h3,h4,h6⟩
 ·rintro⟨h1,h2,h5,h3,h4,h6⟩;exact⟨h1,h2,h3,h4,h5,h6⟩
theorem P1.all{F:RO}{M:Mem}{c:Nat}{e:List V}{p:fD}(h:P1 F M c e p):aK e=true:=by
 obtain⟨i1,o1,k1,rfl,a1,a2,a3⟩:=h
 simp only[av,bO,a1.one.1,a2.one.1,a3.one.1,Bool.and_true,Bool.and_self];rfl
end
end Go.Proofs.YtmbpllipombieaaDoor.Ev
