/- What is proved here: pieces of the evaluator's soundness: if the evaluator comes to a value, the model's run comes to it, for every world and tape; no conditions beyond the hypotheses of each theorem. -/
import Derived.Test.YtmbpllipombieaaDoorEv9
set_option linter.unusedSimpArgs false
set_option linter.unusedVariables false
set_option linter.defProp false
set_option maxRecDepth 10000
set_option maxHeartbeats 16000000
namespace Go.Proofs.YtmbpllipombieaaDoor.Ev
open Go
noncomputable section
def ZW(M:Mem)(lo hi:Nat)(v:V):Prop:=∃n,n≤9223372036854775807∧PC M lo hi 36 1 v n
def T8:CC:=(.reg [(qq a3 (.mv z0)),(qq a2 (.mv z3))])
def T9:CC:=(.seq (.reg [(qq a2 (.mv (x6 0)))]) (.seq T8 .ret))
def c13:CF:= .mk 3 [.t a2] T9
theorem e13(v0:V):bz 3 [v0]=(.n mL (some v0) mL):=rfl
def B13:=ai @e13 (ai (wu T8.eq_1) (wu T9.eq_1))
theorem w13(Φ:Nat→Option CF)(h:Φ 13=some c13){F:RO}{M:Mem}{c:Nat}(x:Int):Calls Φ F 13 [.i .i64 x] M c fun r M' c'=>r= .i .i64 x∧M'=M∧c'=c:=by
 refine aI h ?_
 simp only[WX,B13]
def LI(c:UInt8):Bool:=decide (c=32)||decide (c=38)||decide (c=124)||decide (c=60)||decide (c=62)||decide (c=59)||decide (c=33)
theorem Do{c:UInt8}{t:List UInt8}(h:bU (c::t)≠[]):LI c=true:=by
 have one:(c=124∨c=60∨c=62∨c=59∨c=33)→LI c=true:=by
  rintro(h1|h1|h1|h1|h1)<;>subst h1<;>rfl
 cases t with
 |nil=>
  rw[bU]at h;by_cases h1:c=124∨c=60∨c=62∨c=59∨c=33
  ·exact one h1
  ·rw[ab h1]at h;exact absurd rfl h
 |cons b t=>
  rw[bU]at h;by_cases h0:(c=62∧b=62)∨(c=38∧b=38)∨(c=124∧b=124)
  ·rcases h0 with⟨h1,_⟩|⟨h1,_⟩|⟨h1,_⟩<;>subst h1<;>rfl
  ·rw[ab h0]at h;by_cases h1:c=124∨c=60∨c=62∨c=59∨c=33
   ·exact one h1
   ·rw[ab h1]at h;exact absurd rfl h
theorem aK2{c:UInt8}{t:List UInt8}(h:LI c=true):c=32∨bU (c::t)≠[]∨c=38:=by
 unfold LI at h
 simp only[Bool.or_eq_true,decide_eq_true_eq]at h
 rcases h with(((((h|h)|h)|h)|h)|h)|h
 ·exact .inl h
 ·exact .inr (.inr h)
 all_goals
  right;left;cases t with
  |nil=>subst h;decide
  |cons b t=>
   rw[bU];split
   ·simp
   ·subst h;simp
theorem eJ(c:UInt8)(t:List UInt8):stW (c::t)=if LI c=true then none
 else if c=39 then(if(t.drop (qn t)).head?=some 39 then some (some (qn t+1,t.take (qn t),false))else some none)
 else if c=36 then(if t.head?=some 63 then some (some (1,[],true))else some none)
 else if oe c=true then some (some (0,[c],false))else some none:=by
 by_cases h:LI c=true
 ·rw[ac h,stW,ac (aK2 h)]
 ·rw[ab h,stW,ab];rintro(h1|h1|h1)
  ·subst h1;exact h rfl
  ·exact h (Do h1)
  ·subst h1;exact h rfl
theorem Dc(x:UInt8)(hx:kO x=false)(r:List UInt8):∀t:List UInt8,qn (t.take (qn t)++x::r)=qn t
 |[]=>by
  show qn (x::r)=0;rw[jD,ab (by rw[hx];exact Bool.false_ne_true)]
 |y::t=>by
  rw[jD y t];by_cases hy:kO y=true
  ·rw[ac hy,List.take_succ_cons,List.cons_append,jD,ac hy,Dc x hx r t]
  ·rw[ab hy];show qn (x::r)=0;rw[jD,ab (by rw[hx];exact Bool.false_ne_true)]
theorem Sa{r:List UInt8}{k:Nat}{bs:List UInt8}{b:Bool}(h:stW r=some (some (k,bs,b))):k+1≤r.length∧ ∀r',stW (r.take (k+1)++r')=some (some (k,bs,b)):=by
 cases r with
 |nil=>cases h
 |cons c t=>
  rw[eJ]at h;split at h
  ·cases h
  ·rename_i he;split at h
   ·rename_i hc;split at h
    ·rename_i hq;injection h with h;injection h with h;injection h with h1 h;injection h with h2 h3
     subst h1 h2 h3;have hlt:qn t<t.length:=by
      rcases Nat.lt_or_ge (qn t) t.length with hl|hl
      ·exact hl
      ·rw[List.drop_eq_nil_of_le hl]at hq;cases hq
     refine⟨by rw[av];omega,fun r'=>?_⟩;have hd:t.drop (qn t)=39::t.drop (qn t+1):=by
      rw[cF hlt]at hq⊢;simp only[List.head?_cons,Option.some.injEq]at hq;rw[hq]
     have hta:t.take (qn t+1)=t.take (qn t)++[39]:=by
      rw[List.take_add_one,List.getElem?_eq_getElem hlt];have:t[qn t]=39:=by
       rw[cF hlt]at hd;injection hd
      rw[this];rfl
     rw[List.take_succ_cons,List.cons_append,eJ,ab he,ac hc];have hqb:qn (t.take (qn t+1)++r')=qn t:=by
      rw[hta,bh];exact Dc 39 (by decide) r' t
     rw[hqb,hta];have hl1:(t.take (qn t)).length=qn t:=by rw[List.length_take];omega
     have e1:(List.take (qn t) t++[39]++r').drop (qn t)=39::r':=by
      rw[bh,List.drop_append_of_le_length (by omega),List.drop_of_length_le (by omega)];rfl
     have e2:(List.take (qn t) t++[39]++r').take (qn t)=t.take (qn t):=by
      rw[bh,List.take_append_of_le_length (by omega),List.take_of_length_le (by omega)]
     rw[e1,e2];rfl
    ·cases h
   ·rename_i hc;split at h
    ·rename_i hd;split at h
     ·rename_i hq;injection h with h;injection h with h;injection h with h1 h;injection h with h2 h3
      subst h1 h2 h3;cases t with
      |nil=>cases hq
      |cons x t=>
       injection hq with hq;subst hq
       refine⟨by simp,fun r'=>?_⟩;show stW (c::63::r')=_;rw[eJ,ab he,ab hc,ac hd];rfl
     ·cases h
    ·rename_i hd;split at h
     ·rename_i hp;injection h with h;injection h with h;injection h with h1 h;injection h with h2 h3
      subst h1 h2 h3;refine⟨by simp,fun r'=>?_⟩;show stW (c::r')=_;rw[eJ,ab he,ab hc,ab hd,ac hp]
     ·cases h
theorem De:∀(f:Nat) (r:List UInt8) (w:List Pc) (text:List UInt8) (sm:Bool) (n:Nat) (ps:List Pc) (m:Nat),oX f r w text sm n=some (ps,m)→
 ∃k,m=n+k∧k≤r.length∧stW (r.drop k)=none∧ ∀r',stW r'=none→ ∀g,(r.take k++r').length<g→oX g (r.take k++r') w text sm n=some (ps,m)
 |0,_,_,_,_,_,_,_,h=>by cases h
 |f+1,r,w,text,sm,n,ps,m,h=>by
  unfold oX at h;cases hs:stW r with
  |none=>
   rw[hs]at h;injection h with h;injection h with h1 h2
   subst h1 h2;refine⟨0,rfl,aB _,hs,fun r' hr g hg=>?_⟩;cases g with
   |zero=>omega
   |succ g=>show oX (g+1) r' w text sm n=_;rw[oX,hr]
  |some x=>
   cases x with
   |none=>rw[hs]at h;cases h
   |some x=>
    obtain⟨k,bs,b⟩:=x;rw[hs]at h;obtain⟨hk,hp⟩:=Sa hs
    have key:∀(w':List Pc) (t':List UInt8) (sm':Bool),oX f (r.drop (k+1)) w' t' sm' (n+(k+1))=some (ps,m)→(∀g q,stW q=some (some (k,bs,b))→oX (g+1) q w text sm n=oX g (q.drop (k+1)) w' t' sm' (n+(k+1)))→
     ∃k,m=n+k∧k≤r.length∧stW (r.drop k)=none∧ ∀r',stW r'=none→ ∀g,(r.take k++r').length<g→oX g (r.take k++r') w text sm n=some (ps,m):=by
     intro w' t' sm' h hun;obtain⟨j,e1,e2,e3,e4⟩:=De f _ _ _ _ _ _ _ h;rw[aZ]at e2;refine⟨k+1+j,by omega,by omega,by rw[←List.drop_drop];exact e3,fun r' hr g hg=>?_⟩;have et:r.take (k+1+j)=r.take (k+1)++(r.drop (k+1)).take j:=List.take_add;rw[et,bh];rw[et,bh,aF,List.length_take,Nat.min_eq_left hk]at hg;cases g with
     |zero=>omega
     |succ g=>
      rw[hun g _ (hp _)];have:(r.take (k+1)++((r.drop (k+1)).take j++r')).drop (k+1)=(r.drop (k+1)).take j++r':=by
       rw[List.drop_append_of_le_length (by rw[List.length_take];omega),List.drop_of_length_le (by rw[List.length_take];omega)];rfl
      rw[this];exact e4 r' hr g (by omega)
    cases b with
    |true=>exact key _ _ _ h (fun g q hq=>by rw[oX,hq])
    |false=>exact key _ _ _ h (fun g q hq=>by rw[oX,hq])
theorem Dg{r:List UInt8}{ps:List Pc}{k:Nat}(h:gj r [] [] false 0=some (ps,k)):k≤r.length∧stW (r.drop k)=none∧ ∀r',stW r'=none→gj (r.take k++r') [] [] false 0=some (ps,k):=by
 obtain⟨j,e1,e2,e3,e4⟩:=De _ _ _ _ _ _ _ _ h
 obtain rfl:j=k:=by omega
 exact⟨e2,e3,fun r' hr=>e4 r' hr _ (aA _)⟩
abbrev rp(n:Nat):List UInt8:=List.replicate n 32
def Bl(r:List UInt8):Prop:=r=[]∨ ∃q,r=32::q
theorem Bl.stW{r:List UInt8}(h:Bl r):stW r=none:=by
 rcases h with rfl|⟨q,rfl⟩
 ·rfl
 ·rw[eJ,ac (by decide)]
theorem aR5(n:Nat):Bl (rp n):=by
 cases n with
 |zero=>exact .inl rfl
 |succ n=>exact .inr ⟨rp n,rfl⟩
theorem Nj(n:Nat){r:List UInt8}(h:0<n∨Bl r):Bl (rp n++r):=by
 cases n with
 |zero=>
  rcases h with h|h
  ·omega
  ·exact h
 |succ n=>exact .inr ⟨rp n++r,rfl⟩
def P9(x:List UInt8)(t:T2):Prop:=x≠[]∧ ∀r,Bl r→(∀i,tk (x++r) i=(i,t.1,t.2)::tk r (i+x.length))∧ki (x++r)=ki r
theorem yD(n:Nat)(r:List UInt8)(i:Nat):tk (rp n++r) i=tk r (i+n):=by
 induction n generalizing i with
 |zero=>rfl
 |succ n ih=>
  show tk (32::(rp n++r)) i=_;rw[DA,ih,show i+1+n=i+(n+1) by omega]
theorem sE(n:Nat)(r:List UInt8):ki (rp n++r)=ki r:=by
 induction n with
 |zero=>rfl
 |succ n ih=>
  show ki (32::(rp n++r))=_;rw[w4,ih]
theorem Nr(s:List UInt8):bU s=[]∨(∃a b q,s=a::b::q∧bU s=[a,b]∧((a=62∧b=62)∨(a=38∧b=38)∨(a=124∧b=124)))∨(∃a q,s=a::q∧bU s=[a]∧(a=124∨a=60∨a=62∨a=59∨a=33)):=by
 match s with
 |[]=>exact .inl rfl
 |[a]=>
  rw[bU];by_cases h:a=124∨a=60∨a=62∨a=59∨a=33
  ·rw[ac h];exact .inr (.inr ⟨a,[],rfl,rfl,h⟩)
  ·rw[ab h];exact .inl rfl
 |a::b::q=>
  rw[bU];by_cases h0:(a=62∧b=62)∨(a=38∧b=38)∨(a=124∧b=124)
  ·rw[ac h0];exact .inr (.inl ⟨a,b,q,rfl,rfl,h0⟩)
  ·rw[ab h0];by_cases h:a=124∨a=60∨a=62∨a=59∨a=33
   ·rw[ac h];exact .inr (.inr ⟨a,b::q,rfl,rfl,h⟩)
   ·rw[ab h];exact .inl rfl
theorem Sj{a b:UInt8}(h:(a=62∧b=62)∨(a=38∧b=38)∨(a=124∧b=124)):P9 [a,b] ([a,b],[]):=by
 refine⟨by simp,fun r hr=>?_⟩
 have hs:bU (a::b::r)=[a,b]:=by rw[bU,ac h]
 have ha:a≠32:=by rcases h with⟨h,_⟩|⟨h,_⟩|⟨h,_⟩<;>subst h<;>decide
 have hn:bU (a::b::r)≠[]:=by rw[hs];simp
 refine⟨fun i=>?_,?_⟩
 ·show tk (a::b::r) i=_;rw[w6 i ha hn,hs];rfl
 ·show ki (a::b::r)=_;rw[qL ha hn,hs];rfl
theorem FN{a:UInt8}(h:a=124∨a=60∨a=62∨a=59∨a=33):P9 [a] ([a],[]):=by
 refine⟨by simp,fun r hr=>?_⟩
 have hs:bU (a::r)=[a]:=by
  rcases hr with rfl|⟨q,rfl⟩
  ·rw[bU,ac h]
  ·rw[bU,ab (by rintro(⟨_,h⟩|⟨_,h⟩|⟨_,h⟩)<;>exact absurd h (by decide)),ac h]
 have ha:a≠32:=by rcases h with h|h|h|h|h<;>subst h<;>decide
 have hn:bU (a::r)≠[]:=by rw[hs];simp
 refine⟨fun i=>?_,?_⟩
 ·show tk (a::r) i=_;rw[w6 i ha hn,hs];rfl
 ·show ki (a::r)=_;rw[qL ha hn,hs];rfl
theorem NW{x:List UInt8}{ps:List Pc}(hx:stW x≠none)(h:∀r,stW r=none→gj (x++r) [] [] false 0=some (ps,x.length)):P9 x ([],ps):=by
 cases x with
 |nil=>exact absurd rfl hx
 |cons c x=>
  have he:LI c≠true:=by
   intro he;rw[eJ,ac he]at hx;exact hx rfl
  have hc:c≠32:=by rintro rfl;exact he rfl
  refine⟨by simp,fun r hr=>?_⟩;have hs:bU (c::(x++r))=[]:=by
   rcases hq:bU (c::(x++r))with _|⟨a,q⟩
   ·rfl
   ·exact absurd (Do (c:=c) (t:=x++r) (by rw[hq];simp)) he
  have hw:=h r hr.stW;have hd:(c::(x++r)).drop (c::x).length=r:=by
   show(c::x++r).drop (c::x).length=r;rw[List.drop_append_of_le_length (ag _),cZ];rfl
  refine⟨fun i=>?_,?_⟩
  ·show tk (c::(x++r)) i=_;rw[NU i hc hs hw (by simp),hd]
  ·show ki (c::(x++r))=_;rw[Bx hc hs hw (by simp),hd]
abbrev Sg:=List UInt8×T2×Nat
def Bi:List Sg→List UInt8
 |[]=>[]
 |s::r=>s.1++(rp s.2.2++Bi r)
def qo:Nat→List Sg→List Tk
 |_,[]=>[]
 |i,s::r=>(i,s.2.1.1,s.2.1.2)::qo (i+s.1.length+s.2.2) r
def Bq(n m:Nat):List Sg→List UInt8
 |[]=>rp m
 |s::r=>rp n++(s.1++(rp s.2.2++Bq n m r))
theorem p6:∀(f:Nat) (r:List UInt8),r.length<f→ki r=true→ ∃b0 segs,r=rp b0++Bi segs∧(∀s∈segs,P9 s.1 s.2.1)∧ ∀i,tk r i=qo (i+b0) segs
 |0,_,h,_=>by omega
 |f+1,[],_,_=>⟨0,[],rfl,fun s hs=>(by cases hs),fun i=>rfl⟩
 |f+1,x::t,hl,ho=>by
  rw[av]at hl;by_cases hx:x=32
  ·subst hx;rw[w4]at ho;obtain⟨b0,segs,h1,h2,h3⟩:=p6 f t (by omega) ho;refine⟨b0+1,segs,?_,h2,fun i=>?_⟩
   ·rw[h1];rfl
   ·rw[DA,h3,show i+1+b0=i+(b0+1) by omega]
  have step:∀(k:Nat) (tt:T2),0<k→k≤t.length+1→P9 ((x::t).take k) tt→ki ((x::t).drop k)=true→(∀i,tk (x::t) i=(i,tt.1,tt.2)::tk ((x::t).drop k) (i+k))→
   ∃b0 segs,x::t=rp b0++Bi segs∧(∀s∈segs,P9 s.1 s.2.1)∧ ∀i,tk (x::t) i=qo (i+b0) segs:=by
   intro k tt hk hk2 hT ho2 htk;obtain⟨b0,segs,h1,h2,h3⟩:=p6 f ((x::t).drop k) (by rw[aZ,av];omega) ho2;refine⟨0,((x::t).take k,tt,b0)::segs,?_,?_,fun i=>?_⟩
   ·show x::t=(x::t).take k++(rp b0++Bi segs)
    rw[←h1,List.take_append_drop]
   ·intro s hs;rcases bf.1 hs with rfl|hs
    ·exact hT
    ·exact h2 s hs
   ·rw[htk,h3];show _=(i+0,tt.1,tt.2)::qo (i+0+((x::t).take k).length+b0) segs;rw[List.length_take,av,Nat.min_eq_left hk2,be]
  by_cases hs:bU (x::t)=[]
  ·cases hr:gj (x::t) [] [] false 0 with
   |none=>rw[qK hx hs (fun ps n h=>by rw[hr]at h;cases h)]at ho;cases ho
   |some y=>
    obtain⟨ps,n⟩:=y;by_cases hn:n=0
    ·rw[qK hx hs (fun ps' n' h=>by rw[hr]at h;injection h with h;injection h with _ h;omega)]at ho;cases ho
    ·obtain⟨p1,p2,p3⟩:=Dg hr;rw[Bx hx hs hr hn]at ho;rw[av]at p1;have hl2:((x::t).take n).length=n:=by rw[List.length_take,av];omega
     refine step n ([],ps) (by omega) p1 (NW ?_ (fun r hr=>?_)) ho (fun i=>NU i hx hs hr hn)
     ·intro he;cases n with
      |zero=>exact hn rfl
      |succ n=>
       have h3:=p3 [] rfl;rw[bQ,nT he]at h3;injection h3 with h3;injection h3 with _ h3;omega
     ·rw[hl2];exact p3 r hr
  ·have hlen:=kS (x::t);rw[av]at hlen;rw[qL hx hs]at ho;refine step (bU (x::t)).length (bU (x::t),[]) (gw hs) hlen ?_ ho (fun i=>w6 i hx hs);rcases Nr (x::t)with h|⟨a,b,q,h1,h2,h3⟩|⟨a,q,h1,h2,h3⟩
   ·exact absurd h hs
   ·rw[h2,h1];exact Sj h3
   ·rw[h2,h1];exact FN h3
theorem ah0(n m:Nat)(hn:0<n)(l:List Sg):Bl (Bq n m l):=by
 cases l with
 |nil=>exact aR5 m
 |cons s r=>exact Nj n (.inl hn)
theorem NE(n m:Nat)(hn:0<n):∀(l:List Sg),(∀s∈l,P9 s.1 s.2.1)→ki (Bq n m l)=true∧ ∀i,(tk (Bq n m l) i).map (·.2)=l.map fun s=>s.2.1
 |[],_=>by
  have e:Bq n m []=rp m++[]:=(bQ _).symm;rw[e,sE];exact⟨rfl,fun i=>by rw[yD];rfl⟩
 |s::r,h=>by
  obtain⟨h1,h2⟩:=NE n m hn r (fun x hx=>h x (bn _ hx));have ht:=(h s (bw ..)).2 (rp s.2.2++Bq n m r) (Nj _ (.inr (ah0 n m hn r)));show ki (rp n++(s.1++(rp s.2.2++Bq n m r)))=true∧ ∀i,(tk (rp n++(s.1++(rp s.2.2++Bq n m r))) i).map (·.2)=_;rw[sE,ht.2,sE];refine⟨h1,fun i=>?_⟩;rw[yD,ht.1,yD,List.map_cons,List.map_cons,h2]
theorem Yz(n m:Nat):∀l:List Sg,Bq n 0 l++rp m=Bq n m l
 |[]=>rfl
 |s::r=>by
  show(rp n++(s.1++(rp s.2.2++Bq n 0 r)))++rp m=rp n++(s.1++(rp s.2.2++Bq n m r))
  rw[←Yz n m r];simp only[bh]
theorem yo:∀(l:List Sg) (i:Nat),(qo i l).map (·.2)=l.map fun s=>s.2.1
 |[],_=>rfl
 |s::r,i=>by
  show s.2.1::(qo _ r).map (·.2)=_;rw[yo r];rfl
def DH(s:List UInt8)(n:Nat):List Tk→List UInt8→Nat→List UInt8×Nat
 |[],w,l=>(w,l)
 |t::r,w,l=>DH s n r (w++((s.take t.1).drop l++rp n)) t.1
theorem OB(s:List UInt8)(n:Nat):∀(segs:List Sg) (pre q w:List UInt8),s=pre++(q++Bi segs)→(DH s n (qo (pre.length+q.length) segs) w pre.length).1++s.drop (DH s n (qo (pre.length+q.length) segs) w pre.length).2=w++(q++Bq n 0 segs)
 |[],pre,q,w,h=>by
  show w++s.drop pre.length=w++(q++rp 0)
  rw[h,List.drop_append_of_le_length (ag _),cZ];rfl
 |g::r,pre,q,w,h=>by
  have h2:s=(pre++q)++((g.1++rp g.2.2)++Bi r):=by
   rw[h];show pre++(q++(g.1++(rp g.2.2++Bi r)))=_;simp only[bh]
  have ih:=OB s n r (pre++q) (g.1++rp g.2.2) (w++(q++rp n)) h2;have et:(s.take (pre.length+q.length)).drop pre.length=q:=by
   rw[h,←bh,List.take_append_of_le_length (by rw[aF];omega),List.take_of_length_le (by rw[aF];omega),List.drop_append_of_le_length (ag _),cZ];rfl
  rw[aF,aF,List.length_replicate,←Nat.add_assoc]at ih;show(DH s n (qo (pre.length+q.length+g.1.length+g.2.2) r) (w++((s.take (pre.length+q.length)).drop pre.length++rp n)) (pre.length+q.length)).1++s.drop (DH s n (qo (pre.length+q.length+g.1.length+g.2.2) r) (w++((s.take (pre.length+q.length)).drop pre.length++rp n)) (pre.length+q.length)).2=_;rw[et,ih];show _=w++(q++(rp n++(g.1++(rp g.2.2++Bq n 0 r))))
  simp only[bh]
def wide(s:List UInt8)(n k:Nat):List UInt8:=rp k++((DH s n (tk s 0) [] 0).1++(s.drop (DH s n (tk s 0) [] 0).2++rp k))
theorem So(s:List UInt8)(n k:Nat)(hn:0<n)(ho:ki s=true):ki (wide s n k)=true∧cU (wide s n k)=cU s:=by
 obtain⟨b0,segs,h1,h2,h3⟩:=p6 (s.length+1) s (aA _) ho
 have e:=OB s n segs [] (rp b0) [] (by rw[List.nil_append];exact h1)
 rw[aV,List.length_replicate,List.nil_append]at e
 have ht:tk s 0=qo (0+b0) segs:=h3 0
 have ew:wide s n k=rp k++(rp b0++Bq n k segs):=by
  unfold wide;rw[ht,←bh (DH s n (qo (0+b0) segs) [] 0).1,e,bh,Yz]
 have hb:=NE n k hn segs h2
 refine⟨?_,?_⟩
 ·rw[ew,sE,sE];exact hb.1
 ·unfold cU;rw[ew,yD,yD,hb.2,ht,yo]
theorem MU{s:List UInt8}{l:List eB}(n k:Nat)(hn:0<n)(h:fY s=(l,0))(hw:(wide s n k).length≤4096):fY (wide s n k)=(l,0):=by
 unfold fY at h⊢
 by_cases h1:4096<s.length
 ·rw[ac h1]at h;injection h with _ h;cases h
 rw[ab h1]at h
 by_cases h2:ki s=false
 ·rw[ac h2]at h;injection h with _ h;cases h
 rw[ab h2]at h
 have ho:ki s=true:=by cases hq:ki s with|true=>rfl|false=>exact absurd hq h2
 obtain⟨e1,e2⟩:=So s n k hn ho
 rw[ab (by omega),e1,ab (by simp),e2]
 exact h
theorem MS{c:UInt8}(h:oe c=true):LI c=false∧c≠39∧c≠36:=by
 refine⟨?_,?_,?_⟩
 ·cases he:LI c with
  |false=>rfl
  |true=>
   unfold LI at he;simp only[Bool.or_eq_true,decide_eq_true_eq]at he;rcases he with(((((he|he)|he)|he)|he)|he)|he<;>subst he<;>exact absurd h (by decide)
 ·rintro rfl;exact absurd h (by decide)
 ·rintro rfl;exact absurd h (by decide)
theorem yi:∀(x:List UInt8) (r:List UInt8) (w:List Pc) (text:List UInt8) (sm:Bool) (n:Nat),(∀c∈x,oe c=true)→x≠[]→gj (x++r) w text sm n=gj r w (text++x) true (n+x.length)
 |[],_,_,_,_,_,_,h=>absurd rfl h
 |c::x,r,w,text,sm,n,h,_=>by
  have hc:=h c (bw ..);obtain⟨h1,h2,h3⟩:=MS hc;have hs:stW (c::(x++r))=some (some (0,[c],false)):=by
   rw[eJ,ab (by rw[h1];exact Bool.false_ne_true),ab h2,ab h3,ac hc]
  show gj (c::(x++r)) w text sm n=_;rw[nU hs];show gj (x++r) w (text++[c]) true (n+1)=_;by_cases hx:x=[]
  ·subst hx;rfl
  ·rw[yi x r w _ _ _ (fun d hd=>h d (bn _ hd)) hx,bh,av];show gj r w (text++(c::x)) true (n+1+x.length)=_;rw[show n+1+x.length=n+(x.length+1) by omega]
theorem N4:∀(x r:List UInt8),(∀c∈x,kO c=true)→qn (x++39::r)=x.length
 |[],r,_=>by
  show qn (39::r)=0;rw[jD,ab (by decide)]
 |c::x,r,h=>by
  show qn (c::(x++39::r))=_;rw[jD,ac (h c (bw ..)),N4 x r (fun d hd=>h d (bn _ hd))];rfl
theorem RP(x r:List UInt8)(w:List Pc)(text:List UInt8)(sm:Bool)(n:Nat)(h:∀c∈x,kO c=true):gj (39::(x++39::r)) w text sm n=gj r w (text++x) true (n+(x.length+2)):=by
 have hq:=N4 x r h
 have e1:(x++39::r).drop x.length=39::r:=by rw[List.drop_append_of_le_length (ag _),cZ];rfl
 have e2:(x++39::r).take x.length=x:=by rw[List.take_append_of_le_length (ag _),List.take_length]
 have hs:stW (39::(x++39::r))=some (some (x.length+1,x,false)):=by
  rw[eJ,ab (by decide),ac rfl,hq,e1,e2];rfl
 rw[nU hs]
 have e3:(39::(x++39::r)).drop (x.length+1+1)=r:=by
  rw[List.drop_succ_cons,←List.drop_drop,e1];rfl
 rw[e3]
theorem ag0{p:Pc}(h2:p.2=false)(ha:p.1.all kO=true)(r:List UInt8)(w:List Pc)(n:Nat):gj (oS p++r) w [] false n=gj r w p.1 true (n+(oS p).length):=by
 unfold oS
 rw[ab (by rw[h2];exact Bool.false_ne_true)]
 by_cases hp:(!decide (p.1=[])&&p.1.all oe)=true
 ·rw[ac hp];rw[ay,Bool.not_eq_true',decide_eq_false_iff_not,List.all_eq_true]at hp;rw[yi p.1 r w [] false n hp.2 hp.1];rfl
 ·rw[ab hp];have:=RP p.1 r w [] false n (List.all_eq_true.1 ha);rw[List.cons_append,bh];show gj (39::(p.1++39::r)) w [] false n=_;rw[this];simp[aF]
theorem Yv(r:List UInt8)(w:List Pc)(text:List UInt8)(sm:Bool)(n:Nat):gj (36::63::r) w text sm n=gj r (gi w text) [] false (n+2):=by
 have hs:stW (36::63::r)=some (some (1,[],true)):=by
  rw[eJ,ab (by decide),ab (by decide),ac rfl];rfl
 rw[yh hs];rfl
theorem L0{N:Nat}{tx:Bool}{p:Pc}(h:uZ N tx p=false)(h2:p.2=true):p=([],true):=by
 unfold uZ at h
 rw[h2]at h
 simp only[Bool.true_and,Bool.or_eq_false_iff,Bool.not_eq_false',decide_eq_true_eq]at h
 obtain⟨a,b⟩:=p
 simp only at h h2
 rw[h.1,h2]
theorem L4{N:Nat}{tx:Bool}{p:Pc}(h:uZ N tx p=false)(h2:p.2=false):tx=false∧(p.1=[]→N≤1)∧p.1.all kO=true:=by
 unfold uZ at h
 rw[h2]at h
 simp only[Bool.false_and,Bool.false_or,Bool.not_false,Bool.true_and,Bool.or_eq_false_iff,Bool.not_eq_false',Bool.and_eq_false_iff,decide_eq_false_iff_not]at h
 refine⟨h.1,fun he=>?_,h.2.2⟩
 rcases h.2.1 with h|h
 ·exact absurd he h
 ·omega
theorem B9(N:Nat):∀(k:Nat) (l:List Pc) (w0:List Pc) (r:List UInt8) (n:Nat),l.length≤k→stW r=none→N=w0.length+l.length→nw N false l=true→gj (cN l++r) w0 [] false n=some (w0++l,n+(cN l).length)
 |_,[],w0,r,n,_,hr,_,_=>by
  show gj r w0 [] false n=_;rw[nT hr];simp[m8,cN]
 |0,_::_,_,_,_,h,_,_,_=>by simp at h
 |k+1,p::l,w0,r,n,hk,hr,hN,hf=>by
  rw[av]at hk hN;unfold nw at hf;rw[ay,Bool.not_eq_true']at hf;obtain⟨hb,hf⟩:=hf;have ew:cN (p::l)++r=oS p++(cN l++r):=by show(oS p++cN l)++r=_;rw[bh]
  have el:(cN (p::l)).length=(oS p).length+(cN l).length:=by show(oS p++cN l).length=_;rw[aF]
  rw[ew,el];cases h2:p.2 with
  |true=>
   obtain rfl:=L0 hb h2;rw[show oS ([],true)=[36,63]from rfl];show gj (36::63::(cN l++r)) w0 [] false n=_;rw[Yv,show gi w0 []=w0++[([],true)] by simp[gi]];rw[B9 N k l _ r _ (by omega) hr (by rw[aF];simp;omega) hf];rw[bh];show some (w0++([],true)::l,_)=some (w0++([],true)::l,n+(2+_));rw[show n+2+(cN l).length=n+(2+(cN l).length) by omega]
  |false=>
   obtain⟨_,hN1,ha⟩:=L4 hb h2;have ep:p=(p.1,false):=by rw[←h2]
   rw[ag0 h2 ha];cases l with
   |nil=>
    show gj r w0 p.1 true _=_;rw[nT hr];have:m8 w0 p.1 true=w0++[p]:=by
     unfold m8;rw[ac,←ep];by_cases h1:p.1=[]
     ·right;have:=hN1 h1;rw[aV]at hN;exact⟨rfl,List.length_eq_zero_iff.1 (by omega)⟩
     ·exact .inl h1
    rw[this];simp[cN]
   |cons q l=>
    rw[h2]at hf;unfold nw at hf;rw[ay,Bool.not_eq_true']at hf;obtain⟨hb2,hf⟩:=hf;have hq:q.2=true:=by
     cases hq:q.2 with
     |true=>rfl
     |false=>have:=(L4 hb2 hq).1;cases this
    obtain rfl:=L0 hb2 hq;have h1:p.1≠[]:=fun h1=>by have:=hN1 h1;rw[av]at hN;omega
    have yZ:cN (([],true)::l)++r=36::63::(cN l++r):=rfl;have eq2:(cN (([],true)::l)).length=2+(cN l).length:=by show([36,63]++cN l).length=_;rw[aF];rfl
    rw[yZ,eq2,Yv,show gi w0 p.1=w0++[p,([],true)] by unfold gi;rw[ac h1,←ep,bh];rfl];rw[av]at hk hN;rw[B9 N k l _ r _ (by omega) hr (by rw[aF];simp;omega) hf,bh];show some (w0++p::([],true)::l,_)=some (w0++p::([],true)::l,_);rw[show n+(oS p).length+2+(cN l).length=n+((oS p).length+(2+(cN l).length)) by omega]
theorem qN{w:List Pc}(h:eu w=true):P9 (cN w) ([],w):=by
 unfold eu at h
 rw[ay,decide_eq_true_eq]at h
 obtain⟨hf,h0⟩:=h
 have hr:=fun r hr=>B9 w.length w.length w [] r 0 (ag _) hr (by simp) hf
 refine NW ?_ (fun r h=>by rw[hr r h];simp)
 have en:∀c t,LI c=false→stW (c::t)≠none:=by
  intro c t he;rw[eJ,ab (by rw[he];exact Bool.false_ne_true)];split
  ·split<;>simp
  ·split
   ·split<;>simp
   ·split<;>simp
 cases w with
 |nil=>simp at h0
 |cons p w=>
  unfold nw at hf;rw[ay,Bool.not_eq_true']at hf;show stW (oS p++cN w)≠none;unfold oS;by_cases h2:p.2=true
  ·rw[ac h2];exact en 36 _ (by decide)
  ·rw[ab h2];by_cases hp:(!decide (p.1=[])&&p.1.all oe)=true
   ·rw[ac hp];rw[ay,Bool.not_eq_true',decide_eq_false_iff_not,List.all_eq_true]at hp;cases hx:p.1 with
    |nil=>exact absurd hx hp.1
    |cons c x=>exact en c _ (MS (hp.2 c (by rw[hx];exact bw ..))).1
   ·rw[ab hp];exact en 39 _ (by decide)
def uE:List (List UInt8)→List T2→Prop
 |[],[]=>True
 |x::a,t::b=>P9 x t∧uE a b
 |_,_=>False
theorem uE.app:∀{a b:List (List UInt8)} {s t:List T2},uE a s→uE b t→uE (a++b) (s++t)
 |[],_,[],_,_,h=>h
 |_::_,_,_::_,_,h1,h2=>⟨h1.1,uE.app h1.2 h2⟩
 |[],_,_::_,_,h,_=>h.elim
 |_::_,_,[],_,h,_=>h.elim
theorem NX:∀{xs:List (List UInt8)} {ts:List T2},uE xs ts→Bl (xs.map fun x=>[32]++x).flatten∧ki (xs.map fun x=>[32]++x).flatten=true∧ ∀i,(tk (xs.map fun x=>[32]++x).flatten i).map (·.2)=ts
 |[],[],_=>⟨.inl rfl,rfl,fun i=>rfl⟩
 |x::a,t::b,h=>by
  obtain⟨h1,h2,h3⟩:=NX h.2;have e:((x::a).map fun x=>[32]++x).flatten=32::(x++(a.map fun x=>[32]++x).flatten):=rfl;rw[e];obtain⟨g1,g2⟩:=h.1.2 _ h1;refine⟨.inr ⟨_,rfl⟩,by rw[w4,g2,h2],fun i=>?_⟩;rw[DA,g1,List.map_cons,h3]
 |[],_::_,h=>h.elim
 |_::_,[],h=>h.elim
theorem NY{xs:List (List UInt8)}{ts:List T2}(h:uE xs ts):ki (dm [32] xs)=true∧cU (dm [32] xs)=ts:=by
 cases xs with
 |nil=>
  cases ts with
  |nil=>exact⟨rfl,rfl⟩
  |cons t b=>exact h.elim
 |cons x a=>
  cases ts with
  |nil=>exact h.elim
  |cons t b=>
   obtain⟨h1,h2,h3⟩:=NX h.2;obtain⟨g1,g2⟩:=h.1.2 _ h1;show ki (x++(a.map fun x=>[32]++x).flatten)=true∧cU (x++(a.map fun x=>[32]++x).flatten)=_;refine⟨by rw[g2,h2],?_⟩;unfold cU;rw[g1,List.map_cons,h3]
def wK(w:List Pc):T2:=([],w)
def sK(s:List UInt8):T2:=(s,[])
def kg(inp:List Pc):Nat→List fx→List T2
 |_,[]=>[]
 |k,c::r=>(if 0<k then[sK [124]]else[])++(c.map wK++((if(decide (k=0)&&hasW inp)=true then[sK [60],wK inp]else[])++kg inp (k+1) r))
theorem oz(inp:List Pc)(k:Nat)(c:fx)(r:List fx):kg inp k (c::r)=(if 0<k then[sK [124]]else[])++(c.map wK++((if(decide (k=0)&&hasW inp)=true then[sK [60],wK inp]else[])++kg inp (k+1) r)):=rfl
def qj(beh:Bool)(out:List Pc):List T2:=if beh=true then[sK [62,62],wK out]else if hasW out=true then[sK [62],wK out]else[]
def jd(p:eB):List T2:=(if p.nt=true then[sK [33]]else[])++(kg p.inp 0 p.cmds++qj p.beh p.out)
def aQ0(p:eB):List T2:=(if 0<p.join then[sK (sT p.join.toNat)]else[])++jd p
def FS:List eB→List T2
 |[]=>[]
 |p::r=>aQ0 p++FS r
theorem yH(p:eB)(r:List eB):FS (p::r)=(if 0<p.join then[sK (sT p.join.toNat)]else[])++jd p++FS r:=rfl
theorem DC:∀{c:fx},(∀w∈c,eu w=true)→uE (c.map cN) (c.map wK)
 |[],_=>trivial
 |w::c,h=>⟨qN (h w (bw ..)),DC fun x hx=>h x (bn _ hx)⟩
theorem DB{inp:List Pc}(hi:hasW inp=true→eu inp=true):∀(cs:List fx) (k:Nat),(∀c∈cs,∀w∈c,eu w=true)→uE (iY inp k cs) (kg inp k cs)
 |[],_,_=>trivial
 |c::r,k,h=>by
  unfold iY kg;refine uE.app ?_ (uE.app (DC (h c (bw ..))) (uE.app ?_ (DB hi r (k+1) fun x hx=>h x (bn _ hx))))
  ·by_cases hk:0<k
   ·rw[ac hk,ac hk];exact⟨FN (.inl rfl),trivial⟩
   ·rw[ab hk,ab hk];exact trivial
  ·by_cases hk:(decide (k=0)&&hasW inp)=true
   ·rw[ac hk,ac hk];rw[ay]at hk;exact⟨FN (.inr (.inl rfl)),qN (hi hk.2),trivial⟩
   ·rw[ab hk,ab hk];exact trivial
structure PrF(p:eB):Prop where
 inp:hasW p.inp=true→eu p.inp=true
 out:hasW p.out=true→eu p.out=true
 beh:p.beh=true→hasW p.out=true
 cmds:∀c∈p.cmds,∀w∈c,eu w=true
 one:p.cmds≠[]
theorem vG{p:eB}(h:nM p=true):PrF p:=by
 unfold nM at h
 simp only[ay,Bool.not_eq_true',Bool.and_eq_false_iff,Bool.not_eq_false',decide_eq_false_iff_not,List.all_eq_true]at h
 obtain⟨h1,h2,h3,h4,h5,h6⟩:=h
 refine⟨fun hi=>?_,fun ho=>?_,fun hb=>?_,fun c hc w hw=>?_,fun he=>?_⟩
 ·rcases h4 with h4|h4
  ·rw[h4]at hi;cases hi
  ·exact h4
 ·rcases h5 with h5|h5
  ·rw[h5]at ho;cases ho
  ·exact h5
 ·rcases h3 with h3|h3
  ·rw[h3]at hb;cases hb
  ·exact h3
 ·have:=h6 c hc;unfold Cn at this;rw[ay]at this;have h7:=this.1;unfold pu at h7;split at h7
  ·simp only[ay,List.all_eq_true]at h7;exact h7.2.2.2 w hw
  ·cases h7
 ·rw[he]at h1;exact h1 (by decide)
theorem NZ{p:eB}(h:PrF p):uE (ug p) (jd p):=by
 unfold ug jd
 refine uE.app ?_ (uE.app (DB h.inp _ _ h.cmds) ?_)
 ·by_cases hn:p.nt=true
  ·rw[ac hn,ac hn];exact⟨FN (.inr (.inr (.inr (.inr rfl)))),trivial⟩
  ·rw[ab hn,ab hn];exact trivial
 ·unfold mD qj;by_cases hb:p.beh=true
  ·rw[ac hb,ac hb];exact⟨Sj (.inl ⟨rfl,rfl⟩),qN (h.out (h.beh hb)),trivial⟩
  ·rw[ab hb,ab hb];by_cases ho:hasW p.out=true
   ·rw[ac ho,ac ho];exact⟨FN (.inr (.inr (.inl rfl))),qN (h.out ho),trivial⟩
   ·rw[ab ho,ab ho];exact trivial
theorem ah6{j:Int}(h0:0<j)(h3:j≤3):P9 (sT j.toNat) (sK (sT j.toNat)):=by
 have:j=1∨j=2∨j=3:=by omega
 rcases this with rfl|rfl|rfl
 ·exact FN (.inr (.inr (.inr (.inl rfl))))
 ·exact Sj (.inr (.inl ⟨rfl,rfl⟩))
 ·exact Sj (.inr (.inr ⟨rfl,rfl⟩))
theorem O0:∀(l:List eB) (i:Nat),dJ i l=true→uE (lP l) (FS l)
 |[],_,_=>trivial
 |p::r,i,h=>by
  have hj:=lE (p::r) i h p (bw ..);unfold dJ at h;rw[ay,ay]at h;unfold lP FS MV aQ0;refine uE.app (uE.app ?_ ?_) (O0 r (i+1) h.2)
  ·by_cases h0:0<p.join
   ·rw[ac h0,ac h0];exact⟨ah6 h0 hj.2,trivial⟩
   ·rw[ab h0,ab h0];exact trivial
  ·exact NZ (vG h.1.2)
def yV(ss:List (List UInt8))(R:List T2):Prop:=R=[]∨ ∃t r,R=t::r∧t.1∈ss
theorem yV.mono{a b:List (List UInt8)}{R:List T2}(h:yV a R)(hs:∀x∈a,x∈b):yV b R:=by
 rcases h with h|⟨t,r,h1,h2⟩
 ·exact .inl h
 ·exact .inr ⟨t,r,h1,hs _ h2⟩
theorem yV.no{a:List (List UInt8)}{R:List T2}(h:yV a R){s:List UInt8}(hs:s∉a):isS s R=none:=by
 rcases h with rfl|⟨t,r,rfl,h2⟩
 ·rfl
 ·rw[bX,ab];rintro⟨h3,_⟩;rw[h3]at h2;exact hs h2
abbrev jS:List (List UInt8):=[[59],[38,38],[124,124]]
theorem OE{R:List T2}(hR:yV ([[33],[60],[62,62],[62],[124]]++jS) R):∀(c:fx) (m:Nat),c.length+R.length≤m→dI m (c.map wK++R)=(c,R)
 |[],m,hm=>by
  show dI m R=([],R)
  cases m with
  |zero=>rfl
  |succ m=>
   rcases hR with rfl|⟨t,r,rfl,h2⟩
   ·rfl
   ·rw[dI,ab];intro h3;rw[h3]at h2;exact absurd h2 (by decide)
 |w::c,m,hm=>by
  rw[av]at hm;cases m with
  |zero=>omega
  |succ m=>
   show dI (m+1) (wK w::(c.map wK++R))=_;rw[dI,ac (show(wK w).1=[]from rfl),OE hR c m (by omega)];rfl
theorem DJ{R:List T2}(hR:yV ([[33],[60],[62,62],[62],[124]]++jS) R)(c:fx):cj (c.map wK++R)=(c,R):=by
 unfold cj
 exact OE hR c _ (by rw[aF,List.length_map];exact ag _)
theorem Rq(beh:Bool)(out:List Pc){R:List T2}(hR:yV jS R):yV ([[62,62],[62]]++jS) (qj beh out++R):=by
 unfold qj
 split
 ·exact .inr ⟨_,_,rfl,by decide⟩
 ·split
  ·exact .inr ⟨_,_,rfl,by decide⟩
  ·exact hR.mono (by decide)
theorem Cp{inp:List Pc}{R:List T2}{k:Nat}(hk:0<k)(cs:List fx)(hR:yV ([[62,62],[62]]++jS) R):yV ([[124],[62,62],[62]]++jS) (kg inp k cs++R):=by
 cases cs with
 |nil=>exact hR.mono (by decide)
 |cons c r=>
  rw[oz,ac hk];exact .inr ⟨_,_,rfl,by decide⟩
theorem CS{inp:List Pc}{R:List T2}(hR:yV ([[62,62],[62]]++jS) R):∀(cs:List fx) (k:Nat),0<k→cY (kg inp k cs++R)=(cs,R)
 |[],k,_=>mF (hR.no (by decide))
 |c::r,k,hk=>by
  have hs:=Cp (inp:=inp) (Nat.succ_pos k) r hR;have e:kg inp k (c::r)++R=sK [124]::(c.map wK++(kg inp (k+1) r++R)):=by
   rw[oz,ac hk,ab (by rw[ak (by omega:¬k=0)];exact Bool.false_ne_true)];simp only[bh];rfl
  have h1:isS [124] (sK [124]::(c.map wK++(kg inp (k+1) r++R)))=some (c.map wK++(kg inp (k+1) r++R)):=by
   rw[bX,ac ⟨rfl,by decide⟩]
  rw[e,rQ h1,DJ (hs.mono (by decide)) c];dsimp only;rw[CS hR r (k+1) (Nat.succ_pos k)]
theorem vO(w:List Pc)(R:List T2):redir (wK w::R)=(w,false,R):=by
 unfold redir;rw[j9,ac (show(wK w).1=[]from rfl)];rfl
theorem ad9{beh:Bool}{out:List Pc}{R:List T2}(hR:yV jS R)(hb:beh=true→hasW out=true):dy (qj beh out++R)=(beh,out,false,R):=by
 unfold qj
 by_cases h1:beh=true
 ·rw[ac h1,h1];show dy (sK [62,62]::wK out::R)=_;unfold dy;rw[bX,ac ⟨rfl,by decide⟩];dsimp only;rw[vO]
 ·have h1:beh=false:=by cases beh with|true=>exact absurd rfl h1|false=>rfl
  subst h1;rw[ab Bool.false_ne_true];by_cases h2:hasW out=true
  ·rw[ac h2];show dy (sK [62]::wK out::R)=_;unfold dy;rw[bX,ab (by decide)];dsimp only;rw[bX,ac ⟨rfl,by decide⟩];dsimp only;rw[vO]
  ·rw[ab h2];have:out=[]:=by
    unfold hasW at h2;cases out with
    |nil=>rfl
    |cons p q=>exact absurd (by simp) h2
   subst this;show dy R=_;unfold dy;rw[hR.no (by decide)];dsimp only;rw[hR.no (by decide)]
theorem ab9{inp:List Pc}{R:List T2}(hR:yV ([[124],[62,62],[62]]++jS) R):cQ ((if hasW inp=true then[sK [60],wK inp]else[])++R)=(inp,false,R):=by
 by_cases h:hasW inp=true
 ·rw[ac h];show cQ (sK [60]::wK inp::R)=_;unfold cQ;rw[bX,ac ⟨rfl,by decide⟩];dsimp only;rw[vO]
 ·rw[ab h];have:inp=[]:=by
   unfold hasW at h;cases inp with
   |nil=>rfl
   |cons p q=>exact absurd (by simp) h
  subst this;show cQ R=_;unfold cQ;rw[hR.no (by decide)]
theorem CQ{p:eB}(hp:PrF p){R:List T2}(hR:yV jS R):cM p.join (jd p++R)=(p,false,R):=by
 obtain⟨j,nt,inp,out,beh,cmds⟩:=p
 obtain⟨c,cs,rfl⟩:∃c cs,cmds=c::cs:=by
  cases cmds with
  |nil=>exact absurd rfl hp.one
  |cons c cs=>exact⟨c,cs,rfl⟩
 have so:=Rq beh out hR
 have sc:=Cp (inp:=inp) (Nat.succ_pos 0) cs so
 have si:yV ([[60],[124],[62,62],[62]]++jS) ((if hasW inp=true then[sK [60],wK inp]else[])++(kg inp 1 cs++(qj beh out++R))):=by
  by_cases h:hasW inp=true
  ·rw[ac h];exact .inr ⟨_,_,rfl,by decide⟩
  ·rw[ab h];exact sc.mono (by decide)
 have e0:jd ⟨j,nt,inp,out,beh,c::cs⟩++R=(if nt=true then[sK [33]]else[])++(c.map wK++((if hasW inp=true then[sK [60],wK inp]else[])++(kg inp 1 cs++(qj beh out++R)))):=by
  unfold jd;show((if nt=true then[sK [33]]else[])++(kg inp 0 (c::cs)++qj beh out))++R=_;rw[oz,ab (Nat.lt_irrefl 0)];simp only[decide_true,Bool.true_and,bh,List.nil_append,Nat.zero_add]
 have en:iM ((if nt=true then[sK [33]]else[])++(c.map wK++((if hasW inp=true then[sK [60],wK inp]else[])++(kg inp 1 cs++(qj beh out++R)))))=(nt,c.map wK++((if hasW inp=true then[sK [60],wK inp]else[])++(kg inp 1 cs++(qj beh out++R)))):=by
  cases nt with
  |true=>
   rw[ac rfl];show iM (sK [33]::_)=_;unfold iM;rw[bX,ac ⟨rfl,by decide⟩];rfl
  |false=>
   rw[ab Bool.false_ne_true];show iM (c.map wK++_)=_;unfold iM;have:isS [33] (c.map wK++((if hasW inp=true then[sK [60],wK inp]else[])++(kg inp 1 cs++(qj beh out++R))))=none:=by
    cases c with
    |nil=>exact si.no (by decide)
    |cons w c=>
     show isS [33] (wK w::_)=none;rw[bX,ab];rintro⟨h,_⟩;exact absurd (show([]:List UInt8)=[33]from h) (by decide)
   rw[this]
 have ew:=DJ (si.mono (by decide)) c
 have ei:=ab9 (inp:=inp) sc
 have ep:=CS (inp:=inp) so cs 1 (Nat.succ_pos 0)
 have eo:=ad9 (out:=out) hR hp.beh
 unfold cM
 rw[e0,en]
 dsimp only
 rw[ew]
 dsimp only
 rw[ei]
 dsimp only
 rw[ep]
 dsimp only
 rw[eo]
 rfl
theorem Rb{j:Int}(h0:0<j)(h3:j≤3)(R:List T2):ej (sK (sT j.toNat)::R)=some (j,R):=by
 have:j=1∨j=2∨j=3:=by omega
 rcases this with rfl|rfl|rfl
 ·unfold ej;rw[bX,ac ⟨rfl,by decide⟩]
 ·unfold ej;rw[bX,ab (by decide)];dsimp only;rw[bX,ac ⟨rfl,by decide⟩]
 ·unfold ej;rw[bX,ab (by decide)];dsimp only;rw[bX,ab (by decide)];dsimp only;rw[bX,ac ⟨rfl,by decide⟩]
theorem aM9{j:Int}(h0:0<j)(h3:j≤3):sT j.toNat∈jS:=by
 have:j=1∨j=2∨j=3:=by omega
 rcases this with rfl|rfl|rfl<;>decide
theorem Yl{i:Nat}{j:Int}(h:jOk i j=true):0≤j∧j≤3∧(i=0↔j=0):=by
 unfold jOk at h
 simp only[ay,Bool.not_eq_true',decide_eq_false_iff_not,beq_iff_eq,decide_eq_decide]at h
 exact⟨by omega,by omega,h.1⟩
theorem CE:∀(r:List eB) (p:eB) (i:Nat),dJ i (p::r)=true→dp p.join (jd p++FS r)=(p::r,false,[])
 |[],p,i,h=>by
  unfold dJ at h;rw[ay,ay]at h;have hp:=CQ (vG h.1.2) (R:=[]) (.inl rfl);show dp p.join (jd p++[])=_;rw[rF (by rw[hp];rfl),hp]
 |q::r,p,i,h=>by
  unfold dJ at h;rw[ay,ay]at h;have h2:=h.2;unfold dJ at h2;rw[ay,ay]at h2;obtain⟨j1,j2,j3⟩:=Yl h2.1.1;have j0:0<q.join:=by
   rcases Int.lt_or_le 0 q.join with h|h
   ·exact h
   ·exact absurd (j3.2 (by omega)) (by omega)
  have ek:FS (q::r)=sK (sT q.join.toNat)::(jd q++FS r):=by
   rw[yH,ac j0];simp only[bh];rfl
  have hp:=CQ (vG h.1.2) (R:=FS (q::r)) (by rw[ek];exact .inr ⟨_,_,rfl,aM9 j0 j2⟩);have hj:ej (cM p.join (jd p++FS (q::r))).2.2=some (q.join,jd q++FS r):=by
   rw[hp,ek];exact Rb j0 j2 _
  rw[rG hj,hp,CE r q (i+1) h.2];rfl
theorem xY{l:List eB}(h:wt l=true):fY (dm [32] (lP l))=(l,0):=by
 have hc:=h
 unfold wt at h
 simp only[ay,Bool.not_eq_true',decide_eq_false_iff_not]at h
 obtain⟨h1,h2,h3,h4⟩:=h
 obtain⟨e1,e2⟩:=NY (O0 l 0 h3)
 cases l with
 |nil=>exact absurd (by decide) h1
 |cons p r=>
  have hl:=CE r p 0 h3;have h5:=h3;unfold dJ at h5;rw[ay,ay]at h5;have j0:=(Yl h5.1.1).2.2.1 rfl;have ek:FS (p::r)=jd p++FS r:=by
   rw[yH,j0,ab (by decide)];rfl
  rw[j0,←ek]at hl;unfold fY;rw[ab h4,e1,ab (by simp),e2,hl,hc];rfl
theorem CT{s:List UInt8}{l:List eB}(h:fY s=(l,0)):wt l=true:=by
 unfold fY at h
 split at h
 ·injection h with _ h;cases h
 ·split at h
  ·injection h with _ h;cases h
  ·split at h
   ·injection h with _ h;cases h
   ·rename_i h3;injection h with h _
    rw[h]at h3;cases hc:wt l with
    |true=>rfl
    |false=>rw[hc]at h3;exact absurd (by simp) h3
abbrev aT0(u:List (Option V))(x0 x3 x4:V):T:=(.n (.n (.n (dA u 7) (some x3) (dA u 11)) (uO u 1) (ec u 9 5 13)) (some x0) (.n (.n (dA u 8) (some x4) (dA u 12)) (uO u 2) (ec u 10 6 14)))
def Tx:CC:=(.reg [(qq a3 (.mv (.c (.s 0 0))))])
def Tz:CC:=(.reg [(qq a4 (.mv (x6 0)))])
def TA:CC:=(.reg [(qq a5 (.mv z4)),(qq a6 (.mv z0)),(qq a7 (.bi .lss z5 z6))])
def TB:CC:=(.reg [(qq dX (.mv z3)),(qq fy (.bi .add gc (.c (.s 1 32)))),(qq a3 (.mv eg))])
def TC:CC:=(.reg [(qq a8 (.mv z4)),(qq a9 (.bi .add z8 (x6 1))),(qq a4 (.mv z9))])
def TD:CC:=(.seq (.seq TA (.cond z7 .skip (.exit 0))) (.seq (.block 1 TB) TC))
def TE:CC:=(.reg [(qq fR (.mv z3)),(qq a2 (.mv eX))])
def TF:CC:=(.seq (.seq Tz (.block 0 (.loop TD))) (.seq TE .ret))
def TG:CC:=(.seq (.reg [(qq a2 (.mv (.c (.s 0 0))))]) (.seq Tx TF))
def c26:CF:= .mk 4 [.t a2] TG
theorem e26(v0:V):bz 4 [v0]=(.n iE (some v0) iE):=rfl
def B26:=ai @e26 (ai (wu Tx.eq_1) (ai (wu Tz.eq_1) (ai (wu TA.eq_1) (ai (wu TB.eq_1) (ai (wu TC.eq_1) (ai (wu TD.eq_1) (ai (wu TE.eq_1) (ai (wu TF.eq_1) (wu TG.eq_1)))))))))
theorem t26(Φ:Nat→Option CF)(h:Φ 26=some c26)(m:Nat)(hm:m≤1000000)(ct:Nat):To Φ 26 [.i .i64 (m:Int)] ct (sV (rp m)):=by
 refine gG h ?_
 simp only[WX,B26]
 obtain⟨I1,hI1⟩:∃I:Nat→St→Prop,∀n s',I n s'↔(∃(i:Nat) (u:List (Option V)),n=m-i∧i≤m∧s'= .mk ((aT0 u (.i .i64 (m:Int)) (sV (rp i)) (.i .i64 (i:Int)))) [] .e ct):=⟨fun n s'=>_,fun _ _=>Iff.rfl⟩
 refine bT I1 ?_ m _ ((hI1 _ _).2 ⟨0,(G1 (X2 (G2 (X8 (X2 []))))),rfl,aB _,rfl⟩)
 intro n s' hIs
 obtain⟨i,u,rfl,hi,rfl⟩:=(hI1 _ _).1 hIs
 clear hIs
 have q8:du .add (.i .i64 (i:Int)) (.i .i64 1)=some (.i .i64 ((i+1:Nat):Int)):=by rw[bJ _ _ (by omega) (by omega)];simp
 have qc:du .add (sV (rp i)) (.s 1 32)=some (sV (rp (i+1))):=by
  have:=fT (rp i) [32] (by simp;omega);rw[show rp i++[32]=rp (i+1)from(List.replicate_succ' ..).symm]at this;exact this
 by_cases hlt:i<m
 ·have d1:decide ((i:Int)<(m:Int))=true:=aj (by omega);simp only[WX,B26,d1,qc,q8];exact⟨m-(i+1),by omega,(hI1 _ _).2 ⟨i+1,(G1 (X2 (G2 (X8 (X2 []))))),rfl,by omega,rfl⟩⟩
 ·obtain rfl:i=m:=by omega
  have d1:decide ((i:Int)<(i:Int))=false:=ak (by omega);simp only[WX,B26,d1]
def h26:List V→Option V
 |[.i .i64 (.ofNat m)]=>if m≤1000000 then some (sV (rp m))else none
 |_=>none
theorem LZ(m:Nat)(hm:m≤1000000):h26 [.i .i64 (m:Int)]=some (sV (rp m)):=by
 show(if m≤1000000 then some (sV (rp m))else none)=_
 rw[ac hm]
theorem o26{P:Program}(hm:P.follows .mixedOrders=true){Φ:Nat→Option CF}(hΦ:eA P Φ)(h:Φ 26=some c26):dK P 26 (aN h26):=gC hm hΦ (by
 intro args v ct hv hct;unfold h26 at hv;split at hv
 ·rename_i m;split at hv
  ·rename_i hl;obtain rfl:=ae hv;exact⟨trivial,t26 Φ h m hl _⟩
  ·cases hv
 ·cases hv)
abbrev YJ(u:List (Option V))(x3 x5 x7:V):T:=(.n (.n (.n (.n (.n (aQ u 127 63 191 31 159 95 223) (uO u 15) (aQ u 143 79 207 47 175 111 239)) (some x7) (.n (aQ u 135 71 199 39 167 103 231) (uO u 23) (aQ u 151 87 215 55 183 119 247))) (some x3) (.n (.n (aQ u 131 67 195 35 163 99 227) (uO u 19) (aQ u 147 83 211 51 179 115 243)) (uO u 11) (.n (aQ u 139 75 203 43 171 107 235) (uO u 27) (aQ u 155 91 219 59 187 123 251)))) (uO u 1) (.n (.n (.n (aQ u 129 65 193 33 161 97 225) (uO u 17) (aQ u 145 81 209 49 177 113 241)) (uO u 9) (.n (aQ u 137 73 201 41 169 105 233) (uO u 25) (aQ u 153 89 217 57 185 121 249))) (some x5) (.n (.n (aQ u 133 69 197 37 165 101 229) (uO u 21) (aQ u 149 85 213 53 181 117 245)) (uO u 13) (.n (aQ u 141 77 205 45 173 109 237) (uO u 29) (aQ u 157 93 221 61 189 125 253))))) (uO u 0) (.n (.n (.n (.n (aQ u 128 64 192 32 160 96 224) (uO u 16) (aQ u 144 80 208 48 176 112 240)) (uO u 8) (.n (aQ u 136 72 200 40 168 104 232) (uO u 24) (aQ u 152 88 216 56 184 120 248))) (uO u 4) (.n (.n (aQ u 132 68 196 36 164 100 228) (uO u 20) (aQ u 148 84 212 52 180 116 244)) (uO u 12) (.n (aQ u 140 76 204 44 172 108 236) (uO u 28) (aQ u 156 92 220 60 188 124 252)))) (uO u 2) (.n (.n (.n (aQ u 130 66 194 34 162 98 226) (uO u 18) (aQ u 146 82 210 50 178 114 242)) (uO u 10) (.n (aQ u 138 74 202 42 170 106 234) (uO u 26) (aQ u 154 90 218 58 186 122 250))) (uO u 6) (.n (.n (aQ u 134 70 198 38 166 102 230) (uO u 22) (aQ u 150 86 214 54 182 118 246)) (uO u 14) (.n (aQ u 142 78 206 46 174 110 238) (uO u 30) (aQ u 158 94 222 62 190 126 254))))))
abbrev aT1(u:List (Option V))(x3 x5 x7 x17 x18 x19 x88 x89 x90 x91 x92:V):T:=(.n (.n (.n (.n (.n (aQ u 127 63 191 31 159 95 223) (uO u 15) (aQ u 143 79 207 47 175 111 239)) (some x7) (.n (aQ u 135 71 199 39 167 103 231) (uO u 23) (aQ u 151 87 215 55 183 119 247))) (some x3) (.n (.n (aQ u 131 67 195 35 163 99 227) (some x19) (aQ u 147 83 211 51 179 115 243)) (uO u 11) (.n (aQ u 139 75 203 43 171 107 235) (uO u 27) (.n (.n (dA u 155) (some x91) (dA u 219)) (uO u 59) (ec u 187 123 251))))) (uO u 1) (.n (.n (.n (aQ u 129 65 193 33 161 97 225) (some x17) (aQ u 145 81 209 49 177 113 241)) (uO u 9) (.n (aQ u 137 73 201 41 169 105 233) (uO u 25) (.n (.n (dA u 153) (some x89) (dA u 217)) (uO u 57) (ec u 185 121 249)))) (some x5) (.n (.n (aQ u 133 69 197 37 165 101 229) (uO u 21) (aQ u 149 85 213 53 181 117 245)) (uO u 13) (.n (aQ u 141 77 205 45 173 109 237) (uO u 29) (aQ u 157 93 221 61 189 125 253))))) (uO u 0) (.n (.n (.n (.n (aQ u 128 64 192 32 160 96 224) (uO u 16) (aQ u 144 80 208 48 176 112 240)) (uO u 8) (.n (aQ u 136 72 200 40 168 104 232) (uO u 24) (.n (.n (dA u 152) (some x88) (dA u 216)) (uO u 56) (ec u 184 120 248)))) (uO u 4) (.n (.n (aQ u 132 68 196 36 164 100 228) (uO u 20) (aQ u 148 84 212 52 180 116 244)) (uO u 12) (.n (aQ u 140 76 204 44 172 108 236) (uO u 28) (.n (.n (dA u 156) (some x92) (dA u 220)) (uO u 60) (ec u 188 124 252))))) (uO u 2) (.n (.n (.n (aQ u 130 66 194 34 162 98 226) (some x18) (aQ u 146 82 210 50 178 114 242)) (uO u 10) (.n (aQ u 138 74 202 42 170 106 234) (uO u 26) (.n (.n (dA u 154) (some x90) (dA u 218)) (uO u 58) (ec u 186 122 250)))) (uO u 6) (.n (.n (aQ u 134 70 198 38 166 102 230) (uO u 22) (aQ u 150 86 214 54 182 118 246)) (uO u 14) (.n (aQ u 142 78 206 46 174 110 238) (uO u 30) (aQ u 158 94 222 62 190 126 254))))))
def aF9:CC:=(.reg [(aa a3 (.bx 9 1 z0)),(aa a5 (.bx 3 1 z2)),(qq a6 (.mv xF))])
def bh6:=wu aF9.eq_1
def aG0:CC:=(.reg [(ee kl (.call 9 [])),(qq kf (.un .not mW))])
def bh7:=wu aG0.eq_1
def aG1:CC:=(.reg [(qq a6 (.mv xF))])
def bh8:=wu aG1.eq_1
def aG2:CC:=(.seq aG0 (.cond pf (.seq aG1 .ret) .skip))
def bh9:=wu aG2.eq_1
def aG3:CC:=(.reg [(qq mS (.ld1 z3)),(qq mg (.ln .str qQ)),(qq iU (.bi .gtr qx (x6 2000))),(qq mT (.mv qy)),(aK ll (.mv z1) mT),(aK mh (.ln .str sN) mT),(aK mU (.bi .gtr sY (x6 2000)) mT),(qq sQ (.pk qR xT sZ))])
def bi0:=wu aG3.eq_1
def aG4:CC:=(.reg [(qq a6 (.mv xT))])
def bi1:=wu aG4.eq_1
def aG5:CC:=(.cond wy (.seq aG4 .ret) .skip)
def bi2:=wu aG5.eq_1
def aG6:CC:=(.reg [(qq qz (.ld1 z3)),(ee lM (.call 10 [wA])),(qq sR (.mv we)),(qq tA (.ex 0 wz)),(qq pS (.ex 1 wz)),(aa a7 (.al 25 [.l0])),(ez (.st 1 z7 yO)),(qq a8 (.mv uz))])
def bi3:=wu aG6.eq_1
def aG7:CC:=(.reg [(qq ou (.mv z1)),(ee tB (.call 10 [wB])),(qq mV (.mv yP)),(qq t4 (.ex 0 wf)),(qq tC (.ex 1 wf)),(aa a9 (.al 25 [.l0])),(ez (.st 1 z9 wg)),(qq dX (.mv yQ))])
def bi4:=wu aG7.eq_1
def Xm:CC:=(.reg [(qq tD (.mv z8)),(ee qX (.call 13 [yR])),(qq uJ (.bi .neq wC (x6 0)))])
def aY3:=wu Xm.eq_1
def Xn:CC:=(.reg [(qq a6 (.mv xT))])
def aY4:=wu Xn.eq_1
def Xo:CC:=(.cond zc (.seq Xn .ret) .skip)
def aY5:=wu Xo.eq_1
def Xp:CC:=(.reg [(qq uK (.ldn 1 z7)),(ee wh (.call 16 [zd])),(qq ow (.mv BS)),(qq wN (.ex 0 DO)),(qq wO (.ex 1 DO)),(qq fy (.mv FX)),(qq fR (.mv FY))])
def aY6:=wu Xp.eq_1
def Xq:CC:=(.reg [(qq sS (.mv eg)),(ee wP (.call 10 [FZ])),(qq wj (.mv Gj)),(qq BZ (.ex 0 BT)),(qq C0 (.ex 1 BT)),(aa fc (.al 25 [.l0])),(ez (.st 1 ey Gk)),(qq gQ (.mv OQ))])
def aY7:=wu Xq.eq_1
def Xr:CC:=(.reg [(qq zj (.mv eX)),(ee C2 (.call 13 [G0])),(qq C3 (.mv iH)),(ee wl (.call 13 [OR])),(qq C4 (.bi .add Pl OS)),(qq wm (.bi .neq OT (x6 0))),(qq wn (.mv Pm)),(aK wo (.ldn 1 ey) wn),(aK C5 (.ldn 1 z7) wn),(mw zk (.call 23 [Gl,Pn]) wn),(aK qY (.un .not G3) wn),(qq uL (.pk OU xT Gm))])
def aY8:=wu Xr.eq_1
def Xs:CC:=(.reg [(qq a6 (.mv xF))])
def aY9:=wu Xs.eq_1
def Xt:CC:=(.cond Gn (.seq Xs .ret) .skip)
def Z1:=wu Xt.eq_1
def Xu:CC:=(.reg [(qq zl (.mv gc)),(ee zm (.call 13 [Gp])),(qq zn (.bi .eql Gq (x6 0)))])
def Z2:=wu Xu.eq_1
def Xv:CC:=(.reg [(qq yW (.ldn 1 z9)),(ee fA (.call 16 [OW])),(qq wQ (.mv wD)),(qq yX (.ex 0 G5)),(qq C6 (.ex 1 G5)),(qq eN (.mv OX)),(qq iw (.mv OY))])
def Z3:=wu Xv.eq_1
def Xw:CC:=(.reg [(qq C7 (.mv jP)),(ee C8 (.call 13 [OZ])),(qq C9 (.bi .neq P0 (x6 0))),(qq t5 (.mv P2)),(aK DW (.mv eg) t5),(aK DX (.mv iq) t5),(aK qZ (.bi .eql Po Pp) t5),(aK wR (.ldn 1 z7) t5),(aK GA (.ldn 1 z9) t5),(mw GB (.call 23 [Ps,Pt]) t5),(aK GC (.eq true .bool false Pq Pu) t5),(qq GD (.pk P3 xT SD))])
def Z4:=wu Xw.eq_1
def Xx:CC:=(.reg [(qq a6 (.mv xF))])
def aZ0:=wu Xx.eq_1
def Xy:CC:=(.cond Pv (.seq Xx .ret) .skip)
def Z5:=wu Xy.eq_1
def Xz:CC:=(.cond OV (.seq Xv (.seq Xw Xy)) .skip)
def OA:=wu Xz.eq_1
def XA:CC:=(.reg [(qq wS (.ld1 z3)),(ee GE (.call 20 [Pw])),(qq gk (.mv Px))])
def aZ1:=wu XA.eq_1
def XB:CC:=(.reg [(qq Pa (.mv gH)),(qq Pb (.eq false .func true SE (.c .f0)))])
def Z6:=wu XB.eq_1
def XC:CC:=(.reg [(qq a6 (.mv xF))])
def aZ2:=wu XC.eq_1
def XD:CC:=(.cond SF (.seq XC .ret) .skip)
def Z7:=wu XD.eq_1
def XE:CC:=(.reg [(aa gS (.al 9 [(.s 0 0)])),(ez (.st 1 ir (.c (.s 0 0))))])
def Z8:=wu XE.eq_1
def XF:CC:=(.reg [(aa lj (.al 3 [(.i .i64 0)])),(ez (.st 1 lQ (x6 0)))])
def Z9:=wu XF.eq_1
def XG:CC:=(.reg [(qq Pd (.mv gH))])
def Za:=wu XG.eq_1
def KT:CC:=(.reg [(qq ke (.mv SH))])
def Zb:=wu KT.eq_1
def KU:CC:=(.dreg 12 [(0,0,(qq SQ (.ld1 ir))),(1,0,(qq ST (.ld1 z3))),(2,0,(qq SU (.ld1 lQ))),(3,0,(qq SV (.mv mR))),(4,14,(qq SW (.slS z96 (some z97) (some z98)))),(5,31,(qq uF (.bi .add z95 z99))),(6,0,(qq uG (.ld1 z5))),(7,64,(qq wJ (.bi .and SB (x6 15)))),(8,192,(qq wL (.bi .add BP (x6 1)))),(9,448,(ee wM (.call 26 [BQ]))),(10,1023,(qq PE (.bi .add yN BR))),(11,2047,(ez (.st 1 ir aw5)))])
def Zc:=wu KU.eq_1
def KV:CC:=(.reg [(qq zg (.mv mR)),(ez (.st 1 lQ aw6))])
def aZ3:=wu KV.eq_1
def XH:CC:=(.rf SG [Pe,Pf] KT (.block 1 (.seq KU KV)))
def aZ4:=wu XH.eq_1
def XI:CC:=(.dreg 14 [(0,0,(qq PF (.ld1 z5))),(1,1,(qq PG (.bi .and aw7 (x6 7)))),(3,0,(qq PI (.ld1 ir))),(5,0,(qq PJ (.ld1 z3))),(6,0,(qq PK (.ld1 lQ))),(7,96,(qq PL (.slS ax2 (some ax3) none))),(9,0,(qq PN (.ld1 z5))),(10,512,(qq PP (.bi .and ax6 (x6 7)))),(2,3,(ee PH (.call 26 [aw8]))),(4,15,(qq uH (.bi .add aw9 ax0))),(8,255,(qq PM (.bi .add ax1 ax4))),(11,1543,(ee t0 (.call 26 [ax7]))),(12,4095,(qq PQ (.bi .add ax5 ax8))),(13,8191,(ez (.st 1 ir ax9)))])
def Zd:=wu XI.eq_1
def XJ:CC:=(.reg [(qq PS (.ld1 ir)),(ee PT (.call 10 [ay0])),(qq PR (.mv ay1)),(qq PU (.ex 0 SC)),(qq PV (.ex 1 SC)),(aa gT (.al 25 [.l0])),(ez (.st 1 oc ay2)),(qq lL (.mv ay3))])
def Ze:=wu XJ.eq_1
def XK:CC:=(.reg [(qq PW (.ld1 ir)),(qq t3 (.ln .str ay4)),(qq PX (.bi .gtr ay5 (x6 4096))),(qq uI (.mv ay6)),(aK PY (.mv og) uI),(mw PZ (.call 13 [ay8]) uI),(aK Q0 (.bi .eql ay9 (x6 0)) uI),(aK zh (.mv az0) uI),(aW Q1 (.ldn 1 oc) zh),(aW zi (.ldn 1 z7) zh),(pZ Q2 (.call 23 [az3,az4]) zh),(aK Q3 (.pk az1 az5 xF) uI),(qq Q4 (.pk ay7 xT az6)),(qq a6 (.mv az7))])
def aZ5:=wu XK.eq_1
def XL:CC:=(.seq (.seq XG (.block 0 XH)) (.seq XI (.seq XJ (.seq XK .ret))))
def Zf:=wu XL.eq_1
def Cg:CC:=(.seq XA (.seq (.seq XB XD) (.seq XE (.seq XF XL))))
def aZ6:=wu Cg.eq_1
def XM:CC:=(.seq Xq (.seq (.seq Xr Xt) (.seq (.seq Xu Xz) Cg)))
def aZ7:=wu XM.eq_1
def XN:CC:=(.seq aG6 (.seq aG7 (.seq (.seq Xm Xo) (.seq Xp XM))))
def aZ8:=wu XN.eq_1
def c8:CF:= .mk 8 [.t a6] (.seq aF9 (.seq aG2 (.seq (.seq aG3 aG5) XN)))
theorem e8(v0 v1 v2:V):bz 8 [v0,v1,v2]=(.n (.n FH (some v1) FH) (some v0) (.n FH (some v2) FH)):=rfl
def B8:=ai @e8 (ai @bh6 (ai @bh7 (ai @bh8 (ai @bh9 (ai @bi0 (ai @bi1 (ai @bi2 (ai @bi3 (ai @bi4 (ai @aY3 (ai @aY4 (ai @aY5 (ai @aY6 (ai @aY7 (ai @aY8 (ai @aY9 (ai @Z1 (ai @Z2 (ai @Z3 (ai @Z4 (ai @aZ0 (ai @Z5 (ai @OA (ai @aZ1 (ai @Z6 (ai @aZ2 (ai @Z7 (ai @Z8 (ai @Z9 (ai @Za (ai @Zb (ai @Zc (ai @aZ3 (ai @aZ4 (ai @Zd (ai @Ze (ai @aZ5 (ai @Zf (ai @aZ6 (ai @aZ7 (@aZ8)))))))))))))))))))))))))))))))))))))))))
theorem v9{F:RO}(a b:List UInt8)(M:Mem):biQ .add (sV a) (sV b) F M=oV (du .add (sV a) (sV b)):=by
 refine(eU ?_).trans (congrArg oV (ai0 (F:=F) .add _ _ M .e))
 intro F' M'
 have key:∀n x m y,jL n x m y=oV (jL n x m y).val:=fun n x m y=>by
  unfold jL;cases Nat.ble (Nat.add n m) 1099511627776 with
  |false=>rfl
  |true=>simp only[cond_true,vS,bo];rfl
 exact key a.length (bP a) b.length (bP b)
theorem vY:∀(f:Nat) (r:List UInt8) (i:Nat),(sX f r i).Pairwise (fun a b=>a.1≤b.1)∧ ∀t∈sX f r i,i≤t.1∧t.1≤i+r.length
 |0,_,_=>⟨List.Pairwise.nil,fun t h=>by cases h⟩
 |_+1,[],_=>⟨List.Pairwise.nil,fun t h=>by cases h⟩
 |f+1,x::l,i=>by
  have step:∀(k:Nat) (a:List UInt8) (b:List Pc),k≤l.length+1→((i,a,b)::sX f ((x::l).drop k) (i+k)).Pairwise (fun a b:Tk=>a.1≤b.1)∧ ∀t∈(i,a,b)::sX f ((x::l).drop k) (i+k),i≤t.1∧t.1≤i+(x::l).length:=by
   intro k a b hk;obtain⟨h1,h2⟩:=vY f ((x::l).drop k) (i+k);rw[aZ,av]at h2;refine⟨List.Pairwise.cons (fun t ht=>by have:=h2 t ht;show i≤t.1;omega) h1,fun t ht=>?_⟩;rcases bf.1 ht with rfl|ht
   ·exact⟨ag _,Nat.le_add_right _ _⟩
   ·have:=h2 t ht;rw[av];omega
  unfold sX;split
  ·obtain⟨h1,h2⟩:=vY f l (i+1);exact⟨h1,fun t ht=>by have:=h2 t ht;rw[av];omega⟩
  ·split
   ·exact step _ _ _ (by have:=kS (x::l);rw[av]at this;exact this)
   ·split
    ·exact⟨List.Pairwise.nil,fun t h=>by cases h⟩
    ·split
     ·exact⟨List.Pairwise.nil,fun t h=>by cases h⟩
     ·rename_i ps n h hn;exact step _ _ _ (by have:=(Dg h).1;rw[av]at this;exact this)
theorem DI(s:List UInt8)(n:Nat):∀(a:List Tk) (w:List UInt8) (l:Nat),(DH s n a w l).1.length≤w.length+a.length*(s.length+n)
 |[],w,l=>Nat.le_add_right _ _
 |t::a,w,l=>by
  have:=DI s n a (w++((s.take t.1).drop l++rp n)) t.1;rw[aF,aF,aZ,List.length_take,List.length_replicate]at this;show(DH s n a _ t.1).1.length≤_;rw[av,Nat.succ_mul];omega
theorem sG(s:List UInt8)(n:Nat)(t:Tk):∀(a:List Tk) (w:List UInt8) (l:Nat),DH s n (a++[t]) w l=((DH s n a w l).1++((s.take t.1).drop (DH s n a w l).2++rp n),t.1)
 |[],_,_=>rfl
 |x::a,w,l=>sG s n t a _ _
theorem EP(i:Int):du .and (.i .i64 i) (.i .i64 15)=some (.i .i64 ((i%16).toNat:Int)):=by
 rw[L7,qO,qO]
 have e:((15:Int)%18446744073709551616).toNat=2^4-1:=by decide
 rw[e,Nat.and_two_pow_sub_one_eq_mod]
 have e2:(((i%18446744073709551616).toNat%2^4:Nat):Int)=((i%16).toNat:Int):=by omega
 rw[e2,jl (by omega) (by omega)]
theorem Mg(i:Int):du .and (.i .i64 i) (.i .i64 7)=some (.i .i64 ((i%8).toNat:Int)):=by
 rw[L7,qO,qO]
 have e:((7:Int)%18446744073709551616).toNat=2^3-1:=by decide
 rw[e,Nat.and_two_pow_sub_one_eq_mod]
 have e2:(((i%18446744073709551616).toNat%2^3:Nat):Int)=((i%8).toNat:Int):=by omega
 rw[e2,jl (by omega) (by omega)]
theorem n8(Φ:Nat→Option CF)(h10:Φ 10=some c10)(h28:Φ 28=some XZ)(h56:Φ 56=some Qo)(h55:Φ 55=some (.orc (aN Ev.h55)))(h73:Φ 73=some (.orc (aN Ev.h73)))(h75:Φ 75=some (.orc (aN Ev.h75)))(h76:Φ 76=some (.orc (aN Ev.h88)))(h74:Φ 74=some Gd)(h29:Φ 29=some c29)(h30:Φ 30=some Le)(h31:Φ 31=some Cj)(h32:Φ 32=some Ph)(h17:Φ 17=some XY)(h40:Φ 40=some Qm)(h63:Φ 63=some Lh)(h62:Φ 62=some Eg)(h80:Φ 80=some Eh)(h81:Φ 81=some Ei)(h82:Φ 82=some Ge)(h90:Φ 90=some Ej)(h83:Φ 83=some Ck)(h61:Φ 61=some zY)(h39:Φ 39=some Ql)(h33:Φ 33=some Ga)(h57:Φ 57=some vd)(h58:Φ 58=some Lg)(h59:Φ 59=some yY)(h60:Φ 60=some Gb)(h79:Φ 79=some Li)(h89:Φ 89=some Gf)(h77:Φ 77=some (.orc (aN Ev.h77)))(h52:Φ 52=some wp)(h54:Φ 54=some wq)(h71:Φ 71=some tJ)(h13:Φ 13=some c13)(h16:Φ 16=some c16)(h20:Φ 20=some c20)(h43:Φ 43=some c43)(h26:Φ 26=some (.orc (aN Ev.h26)))(h23:Φ 23=some c23)(h46:Φ 46=some c46)(h47:Φ 47=some ZP)(h49:Φ 49=some Y0)(h50:Φ 50=some Qn)(h51:Φ 51=some Pi)(h48:Φ 48=some Lf)(h70:Φ 70=some Gc){F:RO}{M:Mem}{c sb bb lb:Nat}{s:List UInt8}{bl:Int}{v1:V}(ok:cV F M c)(x0:M.get sb=some (af 9 [sV s]))(x1:M.get bb=some (af 3 [.i .i64 bl]))(xl:M.get lb=some (af 25 [v1]))(h0:sb<c)(h1:bb<c)(hlb:lb<c)
 (hD:∀M' c',Gr c M c' M'→iT F M' c' v1 (fY s).1) (eS:(fY s).2=0) (hs:s.length≤2000) (u:List (Option V)):
 Wp Cg (K Φ none 8 F) (.mk ((YJ u (.p sb 0) (.p bb 0) (.p lb 0))) [] M c) (lO F [.t a6] fun r _ _=>r= .b true):=by
 have l0:load1 F M sb 0=some (sV s):=aq x0 0
 simp only[WX,B8,l0]
 refine aw ((r20 Φ h20 ok s).mono ?_)
 rintro r M1 c1 ⟨pb,rfl,hpb1,hpb2,hbox,g1⟩
 have ok1:=g1.ok ok
 have i1:=g1.le
 have fS:∀l,flatten (sV l)=[sV l]:=fun _=>rfl
 have aS:∀l,aC [sV l]=true:=fun _=>rfl
 simp only[WX,Nat.reduceAdd,Nat.reduceLeDiff,Z6,Z7,Z8,Z9,Za,Zf,aa9]
 refine av4 ?_
 simp only[WX,Nat.reduceAdd,Qs]
 obtain⟨nb,hnb⟩:∃nb:Nat,nb=(bl%16).toNat+1:=⟨_,rfl⟩
 obtain⟨wd,hwd⟩:∃wd:Nat→List UInt8×Nat,∀k,wd k=DH s nb ((tk s 0).take k) [] 0:=⟨fun k=>_,fun _=>rfl⟩
 have hpos:(tk s 0).Pairwise (fun a b=>a.1≤b.1)∧ ∀t∈tk s 0,0≤t.1∧t.1≤0+s.length:=vY (s.length+1) s 0
 have hle2:=NT s 0
 have hWL:∀k,(wd k).1.length≤10000000:=fun k=>by
  rw[hwd];have h1:=DI s nb ((tk s 0).take k) [] 0;have h2:((tk s 0).take k).length≤2000:=by rw[List.length_take];omega
  have h3:((tk s 0).take k).length*(s.length+nb)≤2000*2016:=Nat.mul_le_mul h2 (by omega);rw[aV]at h1;omega
 have hW2:∀k (h:k<(tk s 0).length),(wd (k+1)).2=(tk s 0)[k].1:=fun k h=>by
  have hk1:(tk s 0).take (k+1)=(tk s 0).take k++[(tk s 0)[k]]:=by rw[List.take_add_one,List.getElem?_eq_getElem h];rfl
  rw[hwd,hk1,sG]
 have hWp:∀k (h:k<(tk s 0).length),(tk s 0)[k].1≤s.length:=fun k h=>by have:=(hpos.2 _ (List.getElem_mem h)).2;rw[Nat.zero_add]at this;exact this
 have hWB:∀k (h:k<(tk s 0).length),(wd k).2≤(tk s 0)[k].1∧(tk s 0)[k].1≤s.length∧(wd k).1.length≤10000000:=fun k h=>by
  refine⟨?_,hWp k h,hWL k⟩;cases k with
  |zero=>rw[hwd];exact aB _
  |succ k=>
   rw[hW2 k (by omega)];exact List.pairwise_iff_getElem.1 hpos.1 k (k+1) (by omega) h (by omega)
 have hWE:(wd (tk s 0).length).2≤s.length∧(wd (tk s 0).length).1.length≤10000000:=by
  refine⟨?_,hWL _⟩;rcases hn:(tk s 0).length with _|k
  ·rw[hwd];exact aB _
  ·rw[hW2 k (by omega)];exact hWp k (by omega)
 obtain⟨BL,hBL⟩:∃BL:LS→me→bv,BL=fun s' p=>bv.loop s' p 8 ((aT1 u (.p sb 0) (.p bb 0) (.p lb 0) (.f 43 [] [.p pb 0]) (.p c1 0) (.p (c1+1) 0) (sV s) (.f 43 [] [.p pb 0]) (.f 43 [] [.p pb 0]) (.b false) (.f 43 [] [.p pb 0]))) [(.l (.r (.r (.r (.r (.l .h)))))),(.r (.r (.r (.r (.r (.l .h))))))] KT (.block 1 (.seq KU KV)) (c1+2):=⟨_,rfl⟩
 obtain⟨Ik,hIk⟩:∃I:Nat→Mem→Nat→Prop,∀k M cc,I k M cc↔(Gr c1 M1 cc M∧c1+4≤cc∧M.get c1=some (af 9 [sV (wd k).1])∧M.get (c1+1)=some (af 3 [.i .i64 ((wd k).2:Int)])∧M.get (c1+2)=some (.defs false)∧M.get (c1+3)=some (BL .ready .none)):=⟨fun k M cc=>_,fun _ _ _=>Iff.rfl⟩
 refine(r43 Φ h43 h28 h56 h55 h73 h75 h76 h77 h74 (y:=c1+3) (pb:=pb) (s:=s) (by omega) ?_ (I:=Ik) (J:=fun _ _=>False) ?_ ?_ ?_ ?_).mono ?_
 ·rw[ah _ _ (by omega),ah _ _ (by omega),ah _ _ (by omega),ah _ _ (by omega)];exact hbox
 ·refine(hIk _ _ _).2 ⟨(((((Gr.refl ok1).set c1 _ (ag _) (aA _) (aP _)).set (c1+1) _ (by omega) (aA _) (by omega)).set (c1+2) _ (by omega) (aA _) (by omega)).set (c1+3) _ (by omega) (aA _) (by omega)),by omega,?_,?_,?_,?_⟩
  ·rw[ah _ _ (by omega),ah _ _ (by omega),ah _ _ (by omega),hwd];exact am _ _ _
  ·rw[ah _ _ (by omega),ah _ _ (by omega),hwd];exact am _ _ _
  ·rw[ah _ _ (by omega)];exact am _ _ _
  ·rw[hBL];exact am _ _ _
 ·intro k M2 cc hi;obtain⟨a1,a2,a3,a4,a5,a6⟩:=(hIk _ _ _).1 hi;exact⟨a1.ok ok1,a2⟩
 ·intro k M2 cc M4 c4 hi g;obtain⟨a1,a2,a3,a4,a5,a6⟩:=(hIk _ _ _).1 hi;have hle:=g.le;exact(hIk _ _ _).2 ⟨a1.trans g,by omega,(g.old _ (by omega)).trans a3,(g.old _ (by omega)).trans a4,(g.old _ (by omega)).trans a5,(g.old _ (by omega)).trans a6⟩
 ·intro k M2 cc pv pbk hklt hi hpv hA;obtain⟨a1,a2,a3,a4,a5,a6⟩:=(hIk _ _ _).1 hi;have hl6:=a6;rw[hBL]at hl6;refine OO hl6 (ti _ _ _ _ _) ?_;simp only[WX,Zb];refine Qh hl6 ?_;rw[show bv.loop LS.busy _ _ _ _ _ _ _=BL .busy .none by rw[hBL]];simp only[WX];have gMB:=a1.set (c1+3) (BL .busy .none) (by omega) (by omega) (ag _);have m_y:(M2.set (c1+3) (BL .busy .none)).get (c1+3)=some (BL .busy .none):=am _ _ _;have m_p:∀b,b≠c1+3→(M2.set (c1+3) (BL .busy .none)).get b=M2.get b:=fun b h2=>ah _ _ h2;generalize M2.set (c1+3) (BL .busy .none)=MB at gMB m_y m_p⊢;have o0:load1 F MB sb 0=some (sV s):=aq ((gMB.old _ (by omega)).trans ((g1.old _ (by omega)).trans x0)) 0;have o1:load1 F MB bb 0=some (.i .i64 bl):=aq ((gMB.old _ (by omega)).trans ((g1.old _ (by omega)).trans x1)) 0;have o2:load1 F MB c1 0=some (sV (wd k).1):=aq ((m_p _ (by omega)).trans a3) 0;have o3:load1 F MB (c1+1) 0=some (.i .i64 ((wd k).2:Int)):=aq ((m_p _ (by omega)).trans a4) 0;have hfr:=(gMB.ok ok1).free;have hB:(wd k).2≤(tk s 0)[k].1∧(tk s 0)[k].1≤s.length∧(wd k).1.length≤10000000:=hWB k hklt;have e4:vT (sV s) (some (.i .i64 ((wd k).2:Int))) (some (.i .i64 ((tk s 0)[k].1:Int)))=some (sV ((s.take (tk s 0)[k].1).drop (wd k).2)):=Nz s _ _ _ _ hB.1 hB.2.1;have e5:=fT (wd k).1 ((s.take (tk s 0)[k].1).drop (wd k).2) (by rw[aZ,List.length_take];omega);have e7:=EP bl;have e8:du .add (.i .i64 ((bl%16).toNat:Int)) (.i .i64 1)=some (.i .i64 (nb:Int)):=by rw[bJ _ _ (by omega) (by omega),hnb];simp
  have e9:=LZ nb (by omega);have e10:=fT ((wd k).1++(s.take (tk s 0)[k].1).drop (wd k).2) (rp nb) (by rw[aF,aZ,List.length_take,List.length_replicate];omega);simp only[WX,Zc,o0,o1,o2,o3,Ae,v9,e4,e5,e7,e8];have gM2:Gr cc MB (cc+12) MB:=(Gr.refl (gMB.ok ok1)).up (by omega);have okM2:=gM2.ok (gMB.ok ok1);refine o9 _ _ _ _ _ _ _ _ _ _ _ okM2 ?_;intro F1 N1 okn hlk;refine(show kc (cS (gV Φ) F1 26 [.i .i64 (nb:Int)] N1 (cc+12) (Φ 26)) _ from mq h26 e9 ?_);refine⟨Gr.refl okn,fun M4 g4 _=>?_⟩;obtain⟨W,hW⟩:∃W,W=(wd k).1++(s.take (tk s 0)[k].1).drop (wd k).2++rp nb:=⟨_,rfl⟩
  rw[←hW]at e10;have gM4:=gMB.trans (gM2.trans g4);have m4:M4.get c1=some (af 9 [sV (wd k).1]):=(g4.old _ (by omega)).trans ((m_p _ (by omega)).trans a3);have st4:bK M4 c1 0 [sV W]=some (M4.set c1 (af 9 [sV W])):=by
   rw[aH m4 0 [sV W] (by simp) (aS W)];rfl
  have hf4:=(gM4.ok ok1).free;simp only[WX,Nat.reducePow,Nat.reduceDiv,Nat.reduceMod,Nat.reduceBEq,il,v9,e10,st4,il,fS];have gM5:=gM4.set c1 (af 9 [sV W]) (ag _) (by omega) (ag _);have m50:(M4.set c1 (af 9 [sV W])).get c1=some (af 9 [sV W]):=am _ _ _;have m51:(M4.set c1 (af 9 [sV W])).get (c1+1)=some (af 3 [.i .i64 ((wd k).2:Int)]):=(ah _ _ (by omega)).trans ((g4.old _ (by omega)).trans ((m_p _ (by omega)).trans a4));have m52:(M4.set c1 (af 9 [sV W])).get (c1+2)=some (.defs false):=(ah _ _ (by omega)).trans ((g4.old _ (by omega)).trans ((m_p _ (by omega)).trans a5));have m53:(M4.set c1 (af 9 [sV W])).get (c1+3)=some (BL .busy .none):=(ah _ _ (by omega)).trans ((g4.old _ (by omega)).trans m_y);refine⟨(gM5.ok ok1).free,?_⟩;generalize M4.set c1 (af 9 [sV W])=M5 at gM5 m50 m51 m52 m53⊢;have st5:bK M5 (c1+1) 0 [.i .i64 ((tk s 0)[k].1:Int)]=some (M5.set (c1+1) (af 3 [.i .i64 ((tk s 0)[k].1:Int)])):=by
   rw[aH m51 0 [.i .i64 ((tk s 0)[k].1:Int)] (by simp) rfl];rfl
  have fI:∀(a:Int),flatten (V.i .i64 a)=[V.i .i64 a]:=fun _=>rfl;simp only[WX,B8,st5,fI];have h53:(M5.set (c1+1) (af 3 [.i .i64 ((tk s 0)[k].1:Int)])).get (c1+3)=some (BL .busy .none):=(ah _ _ (by omega)).trans m53;rw[hBL]at h53;refine aw4 h53 ?_;rw[show bv.loop LS.ready _ _ _ _ _ _ _=BL .ready .none by rw[hBL]];have hk1:(tk s 0).take (k+1)=(tk s 0).take k++[(tk s 0)[k]]:=by rw[List.take_add_one,List.getElem?_eq_getElem hklt];rfl
  have hw1:wd (k+1)=(W,(tk s 0)[k].1):=by
   rw[hwd,hk1,sG,←hwd,hW,bh]
  refine⟨rfl,(hIk _ _ _).2 ⟨(gM5.set (c1+1) _ (by omega) (by omega) (ag _)).set (c1+3) _ (by omega) (by omega) (ag _),by omega,?_,?_,?_,am _ _ _⟩⟩
  ·rw[ah _ _ (by omega),ah _ _ (by omega),hw1];exact m50
  ·rw[ah _ _ (by omega),hw1];exact am _ _ _
  ·rw[ah _ _ (by omega),ah _ _ (by omega)];exact m52
 ·rintro v2 M2 c2 (hi|hj)
  case inr=>exact hj.elim
  obtain⟨a1,a2,a3,a4,a5,a6⟩:=(hIk _ _ _).1 hi;have hl5:=a6;rw[hBL]at hl5;refine⟨_,_,_,_,_,_,_,_,hl5,(by intro h;cases h),?_⟩;rw[show bv.loop LS.exhausted _ _ _ _ _ _ _=BL .exhausted .none by rw[hBL]];simp only[WX,xX];have gX:=a1.set (c1+3) (BL .exhausted .none) (by omega) (by omega) (ag _);have m_p:∀b,b≠c1+3→(M2.set (c1+3) (BL .exhausted .none)).get b=M2.get b:=fun b h2=>ah _ _ h2;generalize M2.set (c1+3) (BL .exhausted .none)=MX at gX m_p⊢;have okX:=gX.ok ok1;obtain⟨w,hw⟩:∃w,w=(wd (tk s 0).length).1:=⟨_,rfl⟩
  obtain⟨la,hla⟩:∃la,la=(wd (tk s 0).length).2:=⟨_,rfl⟩
  rw[←hw]at a3;rw[←hla]at a4;have x0':=(gX.old _ (by omega)).trans ((g1.old _ (by omega)).trans x0);have o0:load1 F MX sb 0=some (sV s):=aq x0' 0;have o1:load1 F MX bb 0=some (.i .i64 bl):=aq ((gX.old _ (by omega)).trans ((g1.old _ (by omega)).trans x1)) 0;have mc1:=(m_p c1 (by omega)).trans a3;have o2:load1 F MX c1 0=some (sV w):=aq mc1 0;have o3:load1 F MX (c1+1) 0=some (.i .i64 (la:Int)):=aq ((m_p _ (by omega)).trans a4) 0;have hB:la≤s.length∧w.length≤10000000:=by rw[hla,hw];exact hWE
  obtain⟨kb,hkb⟩:∃kb,kb=(bl%8).toNat:=⟨_,rfl⟩
  have e7:=Mg bl;rw[←hkb]at e7;have e9:=LZ kb (by omega);have e4:vT (sV s) (some (.i .i64 (la:Int))) none=some (sV (s.drop la)):=Dr s _ _ hB.1;have f1:=fT (rp kb) w (by rw[List.length_replicate];omega);have f2:=fT (rp kb++w) (s.drop la) (by rw[aF,List.length_replicate,aZ];omega);have f3:=fT (rp kb++w++s.drop la) (rp kb) (by rw[aF,aF,List.length_replicate,aZ];omega);have hfr:=okX.free;have gX2:Gr c2 MX (c2+14) MX:=(Gr.refl okX).up (by omega);have okX2:=gX2.ok okX;simp only[WX,Zd,o0,o1,o2,o3,Ae,e4,e7];refine o9 _ _ _ _ _ _ _ _ _ _ _ okX2 ?_;intro F1 N1 okn hlk;refine(show kc (cS (gV Φ) F1 26 [.i .i64 (kb:Int)] N1 (c2+14) (Φ 26)) _ from mq h26 e9 ?_);refine⟨Gr.refl okn,fun M4 g4 _=>?_⟩;simp only[WX,v9,f1,f2];refine o9 _ _ _ _ _ _ _ _ _ _ _ (g4.ok okX2) ?_;intro F2 N2 okn2 hlk2;refine(show kc (cS (gV Φ) F2 26 [.i .i64 (kb:Int)] N2 (c2+14) (Φ 26)) _ from mq h26 e9 ?_);refine⟨Gr.refl okn2,fun M5 g5 _=>?_⟩;have gM5:=gX.trans (gX2.trans (g4.trans g5));have ok5:=gM5.ok ok1;have hf5:=ok5.free;have m5:M5.get c1=some (af 9 [sV w]):=(g5.old _ (by omega)).trans ((g4.old _ (by omega)).trans mc1);obtain⟨W,hW⟩:∃W,W=rp kb++w++s.drop la++rp kb:=⟨_,rfl⟩
  rw[←hW]at f3;have st5:bK M5 c1 0 [sV W]=some (M5.set c1 (af 9 [sV W])):=by
   rw[aH m5 0 [sV W] (by simp) (aS W)];rfl
  have gM6:=gM5.set c1 (af 9 [sV W]) (ag _) (by omega) (ag _);have hf6:=(gM6.ok ok1).free;simp only[WX,Nat.reducePow,Nat.reduceDiv,Nat.reduceMod,Nat.reduceBEq,il,v9,f3,hf6,st5,il,fS];have k6:(M5.set c1 (af 9 [sV W])).get c1=some (af 9 [sV W]):=am _ _ _;have k2:(M5.set c1 (af 9 [sV W])).get (c1+2)=some (.defs false):=(ah _ _ (by omega)).trans ((g5.old _ (by omega)).trans ((g4.old _ (by omega)).trans ((m_p _ (by omega)).trans a5)));generalize M5.set c1 (af 9 [sV W])=M6 at gM6 hf6 k6 k2⊢;have ok6:=gM6.ok ok1;have l6:load1 F M6 c1 0=some (sV W):=aq k6 0;have hG:∀v,flatten (V.g [v])=[v]:=fun _=>rfl;have BOX:∀(M:Mem) (c:Nat) (v:V),cV F M c→aC [v]=true→bK (M.set c (af 25 [.l0])) c 0 [v]=some (M.set c (af 25 [v]))∧Gr c M (c+1) (M.set c (af 25 [v])):=fun M c v ok h1=>⟨eQ rfl h1,(Gr.refl ok).set c _ (ag _) (aA _) (aP _)⟩;simp only[WX,Ze,l6];refine aw ((r10 Φ h10 h28 h56 h55 h73 h75 h76 h74 h29 h30 h31 h32 h17 h40 h63 h62 h80 h81 h82 h90 h83 h61 h39 h33 h57 h58 h59 h60 h79 h89 h77 h52 h54 h71 ok6 W (fun h=>⟨(oR h).1,(oR h).2.1⟩)).mono ?_);rintro r M7 c7 ⟨v7,rfl,hL7,g7⟩;have ok7:=g7.ok ok6;obtain⟨wQ,yW,fA⟩:=(hL7 M7 fun _ _ _=>rfl).ln.one;obtain⟨s7,b7⟩:=BOX M7 c7 v7 ok7 fA;have k7:=am M7 c7 (af 25 [v7]);have i7:=g7.le;simp only[WX,hG,s7];generalize M7.set c7 (af 25 [v7])=N7 at b7 k7⊢;have okN7:=b7.ok ok7;have g67:=g7.trans b7;have lc:load1 F N7 c1 0=some (sV W):=aq ((g67.old _ (by omega)).trans k6) 0;by_cases hlW:4096<W.length
  ·have dW:decide ((4096:Int)<(W.length:Int))=true:=aj (by omega);have td7:bY [c1+2] N7=some (N7.set (c1+2) (.defs true)):=(o8 ((g67.old _ (by omega)).trans k2)).trans rfl;simp only[WX,B8,lc,dW,tT,td7,tS]
  have dW:decide ((4096:Int)<(W.length:Int))=false:=ak (by omega);have hWw:W=wide s nb kb:=by
   unfold wide;rw[hW,hw,hla,hwd,List.take_length];simp only[bh]
  have hpW:fY W=((fY s).1,0):=by
   rw[hWw];exact MU nb kb (by omega) (Prod.ext rfl eS) (by rw[←hWw];omega)
  rw[hpW]at hL7;have e0:(fY W).2=0:=by rw[hpW]
  rw[e0];simp only[WX,B8,lc,dW];refine aw ((w13 Φ h13 0).mono ?_);rintro r M8 c8 ⟨rfl,rfl,rfl⟩;have n7:loadN F M8 c7 0 1=some [v7]:=bc k7 1 rfl;have nl:loadN F M8 lb 0 1=some [v1]:=bc ((g67.old _ (by omega)).trans ((gM6.old _ (by omega)).trans ((g1.old _ (by omega)).trans xl))) 1 rfl;have d00:decide ((0:Int)=0)=true:=aj rfl;simp only[WX,n7,nl];refine aw ((w23 Φ h23 h46 h47 h49 h50 h51 h48 h70 okN7 ((hL7 M8 fun x x1 x2=>b7.old _ x2).up (ag _) (by omega)).ln (hD M8 _ (((g1.trans gM6).trans g7).trans b7))).mono ?_);rintro r M9 c9 ⟨rfl,g9⟩;have dll:decide ((fY s).1=(fY s).1)=true:=aj rfl;rw[dll];have td9:bY [c1+2] M9=some (M9.set (c1+2) (.defs true)):=(o8 ((g9.old _ (by omega)).trans ((g67.old _ (by omega)).trans k2))).trans rfl;simp only[WX,tT,td9,tS]
theorem nL{s:List UInt8}{l:List eB}(h:fY s=(l,0)):s.length≤4096∧l=(dp 0 (cU s)).1:=by
 unfold fY at h
 split at h
 ·injection h with _ h;cases h
 ·rename_i h1;split at h
  ·injection h with _ h;cases h
  ·split at h
   ·injection h with _ h;cases h
   ·injection h with h _
    exact⟨by omega,h.symm⟩
theorem l8(Φ:Nat→Option CF)(h:Φ 8=some c8){L:List BX}(h9:Φ 9=some (.orc (vw L)))(h10:Φ 10=some c10)(h28:Φ 28=some XZ)(h56:Φ 56=some Qo)(h55:Φ 55=some (.orc (aN Ev.h55)))(h73:Φ 73=some (.orc (aN Ev.h73)))(h75:Φ 75=some (.orc (aN Ev.h75)))(h76:Φ 76=some (.orc (aN Ev.h88)))(h74:Φ 74=some Gd)(h29:Φ 29=some c29)(h30:Φ 30=some Le)(h31:Φ 31=some Cj)(h32:Φ 32=some Ph)(h17:Φ 17=some XY)(h40:Φ 40=some Qm)(h63:Φ 63=some Lh)(h62:Φ 62=some Eg)(h80:Φ 80=some Eh)(h81:Φ 81=some Ei)(h82:Φ 82=some Ge)(h90:Φ 90=some Ej)(h83:Φ 83=some Ck)(h61:Φ 61=some zY)(h39:Φ 39=some Ql)(h33:Φ 33=some Ga)(h57:Φ 57=some vd)(h58:Φ 58=some Lg)(h59:Φ 59=some yY)(h60:Φ 60=some Gb)(h79:Φ 79=some Li)(h89:Φ 89=some Gf)(h77:Φ 77=some (.orc (aN Ev.h77)))(h52:Φ 52=some wp)(h54:Φ 54=some wq)(h71:Φ 71=some tJ)(h13:Φ 13=some c13)(h16:Φ 16=some c16)(h20:Φ 20=some c20)(h43:Φ 43=some c43)(h26:Φ 26=some (.orc (aN Ev.h26)))(h23:Φ 23=some c23)(h46:Φ 46=some c46)(h47:Φ 47=some ZP)(h49:Φ 49=some Y0)(h50:Φ 50=some Qn)(h51:Φ 51=some Pi)(h48:Φ 48=some Lf)(h70:Φ 70=some Gc){F:RO}{M:Mem}{c:Nat}(ok:cV F M c)(ht:fq F L=true)(s t:List UInt8)(bl:Int):
 Calls Φ F 8 [sV s,sV t,.i .i64 bl] M c fun r _ _=>r= .b true:=by
 have hkn:=fun M c=>Av ht M c
 refine aI h ?_
 have fS:∀l,flatten (sV l)=[sV l]:=fun _=>rfl
 have aS:∀l,aC [sV l]=true:=fun _=>rfl
 by_cases hl1:2000<s.length
 ·have hd:decide ((2000:Int)<(s.length:Int))=true:=aj (by omega);simp only[WX,Nat.reduceAdd,B8,hd,h9,hkn,fS,aS]
 have hd1:decide ((2000:Int)<(s.length:Int))=false:=ak (by omega)
 by_cases hl2:2000<t.length
 ·have hd:decide ((2000:Int)<(t.length:Int))=true:=aj (by omega);simp only[WX,Nat.reduceAdd,B8,hd1,hd,h9,hkn,fS,aS]
 have hd2:decide ((2000:Int)<(t.length:Int))=false:=ak (by omega)
 have hG:∀v,flatten (V.g [v])=[v]:=fun _=>rfl
 have BOX:∀(M:Mem) (c:Nat) (v:V),cV F M c→aC [v]=true→bK (M.set c (af 25 [.l0])) c 0 [v]=some (M.set c (af 25 [v]))∧Gr c M (c+1) (M.set c (af 25 [v])):=fun M c v ok h1=>⟨eQ rfl h1,(Gr.refl ok).set c _ (ag _) (aA _) (aP _)⟩
 have hPB:∀s:List UInt8,s.length≤4096→(∀p∈(dp 0 (cU s)).1,P8 p)∧dt (lP (dp 0 (cU s)).1)≤1000000:=fun s h=>⟨(oR h).1,(oR h).2.1⟩
 have hX:Gr c M (c+2) ((M.set c (af 9 [sV s])).set (c+1) (af 3 [.i .i64 bl])):=((Gr.refl ok).set c _ (ag _) (aA _) (aP _)).set (c+1) _ (by omega) (by omega) (by omega)
 have x0:((M.set c (af 9 [sV s])).set (c+1) (af 3 [V.i .i64 bl])).get c=some (af 9 [sV s]):=by rw[ah _ _ (by omega),am]
 have x1:((M.set c (af 9 [sV s])).set (c+1) (af 3 [V.i .i64 bl])).get (c+1)=some (af 3 [.i .i64 bl]):=am _ _ _
 simp only[WX,Nat.reduceAdd,B8,hd1,hd2,h9,hkn,fS,aS]
 generalize(M.set c (af 9 [sV s])).set (c+1) (af 3 [V.i .i64 bl])=X at hX x0 x1⊢
 have okX:=hX.ok ok
 refine aw ((r10 Φ h10 h28 h56 h55 h73 h75 h76 h74 h29 h30 h31 h32 h17 h40 h63 h62 h80 h81 h82 h90 h83 h61 h39 h33 h57 h58 h59 h60 h79 h89 h77 h52 h54 h71 okX s (hPB s)).mono ?_)
 rintro r M1 c1 ⟨v1,rfl,hL1,g1⟩
 have ok1:=g1.ok okX
 obtain⟨a1,a2,a3⟩:=(hL1 M1 fun _ _ _=>rfl).ln.one
 obtain⟨s1,b1⟩:=BOX M1 c1 v1 ok1 a3
 simp only[WX,B8,hG,s1]
 have k1:=am M1 c1 (af 25 [v1])
 generalize M1.set c1 (af 25 [v1])=N1 at b1 k1⊢
 have okN1:=b1.ok ok1
 refine aw ((r10 Φ h10 h28 h56 h55 h73 h75 h76 h74 h29 h30 h31 h32 h17 h40 h63 h62 h80 h81 h82 h90 h83 h61 h39 h33 h57 h58 h59 h60 h79 h89 h77 h52 h54 h71 okN1 t (hPB t)).mono ?_)
 rintro r M2 c2 ⟨v2,rfl,hL2,g2⟩
 have ok2:=g2.ok okN1
 obtain⟨gT,lL,kl⟩:=(hL2 M2 fun _ _ _=>rfl).ln.one
 obtain⟨s2,b2⟩:=BOX M2 c2 v2 ok2 kl
 simp only[WX,B8,hG,s2]
 have k2:=am M2 c2 (af 25 [v2])
 generalize M2.set c2 (af 25 [v2])=N2 at b2 k2⊢
 have okN2:=b2.ok ok2
 refine aw ((w13 Φ h13 (fY s).2).mono ?_)
 rintro r M3 c3 ⟨rfl,rfl,rfl⟩
 have i1:=g1.le;have i2:=g2.le
 by_cases he:(fY s).2=0
 case neg=>
  have dn:decide (¬((fY s).2=0))=true:=aj he;simp only[WX,B8,dn]
 have dn:decide (¬((fY s).2=0))=false:=ak (fun h=>h he)
 have xx0:M3.get c=some (af 9 [sV s]):=(b2.old _ (by omega)).trans ((g2.old _ (by omega)).trans ((b1.old _ (by omega)).trans ((g1.old _ (by omega)).trans x0)))
 have xx1:M3.get (c+1)=some (af 3 [.i .i64 bl]):=(b2.old _ (by omega)).trans ((g2.old _ (by omega)).trans ((b1.old _ (by omega)).trans ((g1.old _ (by omega)).trans x1)))
 have kk1:M3.get c1=some (af 25 [v1]):=(b2.old _ (by omega)).trans ((g2.old _ (by omega)).trans k1)
 have n1:loadN F M3 c1 0 1=some [v1]:=bc kk1 1 rfl
 have eS:fY s=((fY s).1,0):=Prod.ext rfl he
 have hc1:=CT eS
 have hB1:=oR (nL eS).1
 rw[←(nL eS).2]at hB1
 have hbk:=xY hc1
 have D1:∀(M':Mem),(∀x,c+2≤x→x<c1→M'.get x=M1.get x)→PB F (c+2) M' c1 v1 (fY s).1:=fun M' hM=>hL1 M' hM
 have D1':PB F (c+2) M3 c1 v1 (fY s).1:=D1 M3 fun x x1 x2=>(b2.old _ (by omega)).trans ((g2.old _ (by omega)).trans (b1.old _ x2))
 simp only[WX,B8,dn,n1]
 refine aw ((w16 Φ h16 h17 h40 h63 h62 h80 h81 h82 h90 h83 h61 h39 h33 h57 h58 h59 h60 h79 h89 h77 h52 h54 h71 okN2 (D1'.up (ag _) (by omega)).ln hB1.1 hB1.2.1).mono ?_)
 rintro r M4 c4 ⟨rfl,g4⟩
 have ok4:=g4.ok okN2
 have etx:FO (fY s).1= .t [sV (dm [32] (lP (fY s).1)),.i .i64 0]:=by unfold FO;rw[ac hc1]
 rw[etx]
 simp only[WX,B8]
 refine aw ((r10 Φ h10 h28 h56 h55 h73 h75 h76 h74 h29 h30 h31 h32 h17 h40 h63 h62 h80 h81 h82 h90 h83 h61 h39 h33 h57 h58 h59 h60 h79 h89 h77 h52 h54 h71 ok4 (dm [32] (lP (fY s).1)) (hPB _)).mono ?_)
 rintro r M5 c5 hP5
 unfold PsP at hP5
 rw[hbk]at hP5
 obtain⟨v5,rfl,hL5,g5⟩:=hP5
 have ok5:=g5.ok ok4
 obtain⟨wj,sS,wP⟩:=(hL5 M5 fun _ _ _=>rfl).ln.one
 obtain⟨s5,b5⟩:=BOX M5 c5 v5 ok5 wP
 have k5:=am M5 c5 (af 25 [v5])
 have i4:=g4.le;have i5:=g5.le
 simp only[WX,B8,hG,s5]
 generalize M5.set c5 (af 25 [v5])=N5 at b5 k5⊢
 have okN5:=b5.ok ok5
 refine aw ((w13 Φ h13 0).mono ?_)
 rintro r M6 c6 ⟨rfl,rfl,rfl⟩
 simp only[WX]
 refine aw ((w13 Φ h13 0).mono ?_)
 rintro r M7 c7 ⟨rfl,rfl,rfl⟩
 have g25:Gr (c2+1) M3 (c5+1) M7:=(g4.trans g5).trans b5
 have n1b:loadN F M7 c1 0 1=some [v1]:=bc ((g25.old _ (by omega)).trans kk1) 1 rfl
 have n5b:loadN F M7 c5 0 1=some [v5]:=bc k5 1 rfl
 have q00:du .add (.i .i64 0) (.i .i64 0)=some (.i .i64 0):=rfl
 have d00:decide (¬((0:Int)=0))=false:=ak (fun h=>h rfl)
 simp only[WX,q00,d00,n1b,n5b]
 have D17:∀(M':Mem) (c':Nat),Gr (c2+1) M3 c' M'→iT F M' c' v1 (fY s).1:=fun M' c' g=>((D1 M' fun x x1 x2=>(g.old _ (by omega)).trans ((b2.old _ (by omega)).trans ((g2.old _ (by omega)).trans (b1.old _ x2)))).up (ag _) (by have:=g.le;omega)).ln
 have D27:∀(M':Mem) (c':Nat),Gr (c2+1) M3 c' M'→iT F M' c' v2 (fY t).1:=fun M' c' g=>((hL2 M' fun x x1 x2=>(g.old _ (by omega)).trans (b2.old _ x2)).up (ag _) (by have:=g.le;omega)).ln
 refine aw ((w23 Φ h23 h46 h47 h49 h50 h51 h48 h70 okN5 ((hL5 M7 fun x x1 x2=>b5.old _ x2).up (ag _) (by omega)).ln (D17 M7 _ g25)).mono ?_)
 rintro r M8 c8 ⟨rfl,g8⟩
 have dll:decide ((fY s).1=(fY s).1)=true:=aj rfl
 rw[dll]
 have ok8:=g8.ok okN5
 have g28:=g25.trans g8
 have REST:∀(u:List (Option V)) (M':Mem) (c':Nat),Gr (c2+1) M3 c' M'→Wp Cg (K Φ none 8 F) (.mk ((YJ u (.p c 0) (.p (c+1) 0) (.p c1 0))) [] M' c') (lO F [.t a6] fun r _ _=>r= .b true):=by
  intro u M' c' g;exact n8 Φ h10 h28 h56 h55 h73 h75 h76 h74 h29 h30 h31 h32 h17 h40 h63 h62 h80 h81 h82 h90 h83 h61 h39 h33 h57 h58 h59 h60 h79 h89 h77 h52 h54 h71 h13 h16 h20 h43 h26 h23 h46 h47 h49 h50 h51 h48 h70 (g.ok okN2) ((g.old _ (by omega)).trans xx0) ((g.old _ (by omega)).trans xx1) ((g.old _ (by omega)).trans kk1) (by have:=g.le;omega) (by have:=g.le;omega) (by have:=g.le;omega) (fun M2 c2 g2=>D17 M2 c2 (g.trans g2)) he (by omega) u
 simp only[WX,Z1,Z2]
 refine aw ((w13 Φ h13 (fY t).2).mono ?_)
 rintro r M9 c9 ⟨rfl,rfl,rfl⟩
 by_cases hf:(fY t).2=0
 case neg=>
  have df:decide ((fY t).2=0)=false:=ak hf;simp only[WX,OA,df];exact REST (X2 (X1 (G1 (X1 (G1 (X1 (G1 (d9 (d9 (d9 (cP (cw (X4 (X2 (X1 []))))))))))))))) _ _ g28
 have df:decide ((fY t).2=0)=true:=aj hf
 have eT:fY t=((fY t).1,0):=Prod.ext rfl hf
 have hc2:=CT eT
 have hB2:=oR (nL eT).1
 rw[←(nL eT).2]at hB2
 have hbk2:=xY hc2
 have kk2:M9.get c2=some (af 25 [v2]):=(g28.old _ (by omega)).trans k2
 have n2:loadN F M9 c2 0 1=some [v2]:=bc kk2 1 rfl
 simp only[WX,Z3,OA,df,n2]
 refine aw ((w16 Φ h16 h17 h40 h63 h62 h80 h81 h82 h90 h83 h61 h39 h33 h57 h58 h59 h60 h79 h89 h77 h52 h54 h71 ok8 (D27 M9 _ g28) hB2.1 hB2.2.1).mono ?_)
 rintro r M10 c10 ⟨rfl,g10⟩
 have ad5:=g10.ok ok8
 have etx2:FO (fY t).1= .t [sV (dm [32] (lP (fY t).1)),.i .i64 0]:=by unfold FO;rw[ac hc2]
 rw[etx2]
 simp only[WX,Z4]
 refine aw ((w13 Φ h13 0).mono ?_)
 rintro r M11 c11 ⟨rfl,rfl,rfl⟩
 have g2a:=g28.trans g10
 have n1c:loadN F M11 c1 0 1=some [v1]:=bc ((g2a.old _ (by omega)).trans kk1) 1 rfl
 have n2c:loadN F M11 c2 0 1=some [v2]:=bc ((g2a.old _ (by omega)).trans k2) 1 rfl
 have quv:du .eql (sV (dm [32] (lP (fY s).1))) (sV (dm [32] (lP (fY t).1)))=some (.b (decide ((fY s).1=(fY t).1))):=by
  rw[r5]
  congr 2
  apply decide_eq_decide.2;constructor
  ·intro e;rw[e,hbk2]at hbk;injection hbk with e _;exact e.symm
  ·intro e;rw[e]
 simp only[WX,d00,n1c,n2c,quv]
 refine aw ((w23 Φ h23 h46 h47 h49 h50 h51 h48 h70 ad5 (D17 M11 _ g2a) (D27 M11 _ g2a)).mono ?_)
 rintro r M12 c12 ⟨rfl,g12⟩
 have eqb:∀(b:Bool) (M:Mem),tW F M .bool false (.b b) (.b b)=some true:=fun b M=>by cases b<;>rfl
 simp only[WX,Z5,eqb]
 exact REST (X2 (X1 (G1 (X1 (G1 (X1 (G1 (d9 (d9 (d9 (cP (cw (X4 (X2 (X1 []))))))))))))))) _ _ (g2a.trans g12)
end
end Go.Proofs.YtmbpllipombieaaDoor.Ev
