/- What is proved here: pieces of the evaluator's soundness: if the evaluator comes to a value, the model's run comes to it, for every world and tape; no conditions beyond the hypotheses of each theorem. -/
import Derived.Test.YtmbpllipombieaaDoorEv9
set_option linter.unusedSimpArgs false
set_option linter.unusedVariables false
set_option linter.defProp false
set_option maxRecDepth 10000
set_option maxHeartbeats 16000000
namespace Go.Proofs.YtmbpllipombieaaDoor.Ev
open Go
noncomputable section
def ZW(M:Mem)(lo hi:Nat)(v:V):Prop:=∃n,n≤9223372036854775807∧VD M lo hi 36 1 v n
def YO:CC:=(.reg [(qq a3 (.mv z0)),(qq a2 (.mv z3))])
def YP:CC:=(.seq (.reg [(qq a2 (.mv (x6 0)))]) (.seq YO .ret))
def c13:CF:= .mk 3 [.t a2] YP
theorem e13(v0:V):bz 3 [v0]=(.n re (some v0) re):=rfl
def B13:=ai @e13 (ai (wu YO.eq_1) (wu YP.eq_1))
theorem w13(Φ:Nat→Option CF)(h:Φ 13=some c13){F:RO}{M:Mem}{c:Nat}(x:Int):Calls Φ F 13 [.i .i64 x] M c fun r M' c'=>r= .i .i64 x∧M'=M∧c'=c:=by
 refine aN h ?_
 simp only[WX,B13]
section
variable{P:Program}(hm:P.follows .mixedOrders=true){Φ:Nat→Option CF}(hΦ:eR P Φ)
include hm hΦ
theorem o84(h:Φ 84=some c84):dh P 84 (aO h84):=eI hm hΦ (by
 intro args v ct hv hct;unfold h84 at hv;split at hv
 ·obtain⟨l,rfl,hv1⟩:=kR hv;obtain rfl:=ae hv1;exact⟨trivial,t84 Φ h _ _⟩
 ·cases hv)
theorem o65(h:Φ 65=some c65):dh P 65 (aO h65):=eI hm hΦ (by
 intro args v ct hv hct;unfold h65 at hv;split at hv
 ·obtain⟨l,rfl,hv1⟩:=kR hv;obtain rfl:=ae hv1;exact⟨⟨trivial,trivial,trivial,trivial⟩,t65 Φ h _ _⟩
 ·cases hv)
end
def Rn(c:UInt8):Bool:=decide (c=32)||decide (c=38)||decide (c=124)||decide (c=60)||decide (c=62)||decide (c=59)||decide (c=33)
theorem G9{c:UInt8}{t:List UInt8}(h:cL (c::t)≠[]):Rn c=true:=by
 have one:(c=124∨c=60∨c=62∨c=59∨c=33)→Rn c=true:=by
  rintro(h1|h1|h1|h1|h1)<;>subst h1<;>rfl
 cases t with
 |nil=>
  rw[cL]at h;by_cases h1:c=124∨c=60∨c=62∨c=59∨c=33
  ·exact one h1
  ·rw[ab h1]at h;exact absurd rfl h
 |cons b t=>
  rw[cL]at h;by_cases h0:(c=62∧b=62)∨(c=38∧b=38)∨(c=124∧b=124)
  ·rcases h0 with⟨h1,_⟩|⟨h1,_⟩|⟨h1,_⟩<;>subst h1<;>rfl
  ·rw[ab h0]at h;by_cases h1:c=124∨c=60∨c=62∨c=59∨c=33
   ·exact one h1
   ·rw[ab h1]at h;exact absurd rfl h
theorem bx8{c:UInt8}{t:List UInt8}(h:Rn c=true):c=32∨cL (c::t)≠[]∨c=38:=by
 unfold Rn at h
 simp only[Bool.or_eq_true,decide_eq_true_eq]at h
 rcases h with(((((h|h)|h)|h)|h)|h)|h
 ·exact .inl h
 ·exact .inr (.inr h)
 all_goals
  right;left;cases t with
  |nil=>subst h;decide
  |cons b t=>
   rw[cL];split
   ·simp
   ·subst h;simp
theorem jM(c:UInt8)(t:List UInt8):stW (c::t)=if Rn c=true then none
 else if c=39 then(if(t.drop (qn t)).head?=some 39 then some (some (qn t+1,t.take (qn t),false))else some none)
 else if c=36 then(if t.head?=some 63 then some (some (1,[],true))else some none)
 else if mi c=true then some (some (0,[c],false))else some none:=by
 by_cases h:Rn c=true
 ·rw[ac h,stW,ac (bx8 h)]
 ·rw[ab h,stW,ab];rintro(h1|h1|h1)
  ·subst h1;exact h rfl
  ·exact h (G9 h1)
  ·subst h1;exact h rfl
abbrev rp(n:Nat):List UInt8:=List.replicate n 32
def Bl(r:List UInt8):Prop:=r=[]∨ ∃q,r=32::q
theorem Bl.stW{r:List UInt8}(h:Bl r):stW r=none:=by
 rcases h with rfl|⟨q,rfl⟩
 ·rfl
 ·rw[jM,ac (by decide)]
def Tkn(x:List UInt8)(t:T2):Prop:=x≠[]∧ ∀r,Bl r→(∀i,tk (x++r) i=(i,t.1,t.2)::tk r (i+x.length))∧rS (x++r)=rS r
theorem aY6{a b:UInt8}(h:(a=62∧b=62)∨(a=38∧b=38)∨(a=124∧b=124)):Tkn [a,b] ([a,b],[]):=by
 refine⟨by simp,fun r hr=>?_⟩
 have hs:cL (a::b::r)=[a,b]:=by rw[cL,ac h]
 have ha:a≠32:=by rcases h with⟨h,_⟩|⟨h,_⟩|⟨h,_⟩<;>subst h<;>decide
 have hn:cL (a::b::r)≠[]:=by rw[hs];simp
 refine⟨fun i=>?_,?_⟩
 ·show tk (a::b::r) i=_;rw[Ei i ha hn,hs];rfl
 ·show rS (a::b::r)=_;rw[yN ha hn,hs];rfl
theorem TB{a:UInt8}(h:a=124∨a=60∨a=62∨a=59∨a=33):Tkn [a] ([a],[]):=by
 refine⟨by simp,fun r hr=>?_⟩
 have hs:cL (a::r)=[a]:=by
  rcases hr with rfl|⟨q,rfl⟩
  ·rw[cL,ac h]
  ·rw[cL,ab (by rintro(⟨_,h⟩|⟨_,h⟩|⟨_,h⟩)<;>exact absurd h (by decide)),ac h]
 have ha:a≠32:=by rcases h with h|h|h|h|h<;>subst h<;>decide
 have hn:cL (a::r)≠[]:=by rw[hs];simp
 refine⟨fun i=>?_,?_⟩
 ·show tk (a::r) i=_;rw[Ei i ha hn,hs];rfl
 ·show rS (a::r)=_;rw[yN ha hn,hs];rfl
theorem aY7{x:List UInt8}{ps:List Pc}(hx:stW x≠none)(h:∀r,stW r=none→iP (x++r) [] [] false 0=some (ps,x.length)):Tkn x ([],ps):=by
 cases x with
 |nil=>exact absurd rfl hx
 |cons c x=>
  have he:Rn c≠true:=by
   intro he;rw[jM,ac he]at hx;exact hx rfl
  have hc:c≠32:=by rintro rfl;exact he rfl
  refine⟨by simp,fun r hr=>?_⟩;have hs:cL (c::(x++r))=[]:=by
   rcases hq:cL (c::(x++r))with _|⟨a,q⟩
   ·rfl
   ·exact absurd (G9 (c:=c) (t:=x++r) (by rw[hq];simp)) he
  have hw:=h r hr.stW;have hd:(c::(x++r)).drop (c::x).length=r:=by
   show(c::x++r).drop (c::x).length=r;rw[List.drop_append_of_le_length (aj _),cm];rfl
  refine⟨fun i=>?_,?_⟩
  ·show tk (c::(x++r)) i=_;rw[aF4 i hc hs hw (by simp),hd]
  ·show rS (c::(x++r))=_;rw[Tz hc hs hw (by simp),hd]
def wdL(s:List UInt8)(n:Nat):List Tk→List UInt8→Nat→List UInt8×Nat
 |[],w,l=>(w,l)
 |t::r,w,l=>wdL s n r (w++((s.take t.1).drop l++rp n)) t.1
def wide(s:List UInt8)(n k:Nat):List UInt8:=rp k++((wdL s n (tk s 0) [] 0).1++(s.drop (wdL s n (tk s 0) [] 0).2++rp k))
theorem Sr{c:UInt8}(h:mi c=true):Rn c=false∧c≠39∧c≠36:=by
 refine⟨?_,?_,?_⟩
 ·cases he:Rn c with
  |false=>rfl
  |true=>
   unfold Rn at he;simp only[Bool.or_eq_true,decide_eq_true_eq]at he;rcases he with(((((he|he)|he)|he)|he)|he)|he<;>subst he<;>exact absurd h (by decide)
 ·rintro rfl;exact absurd h (by decide)
 ·rintro rfl;exact absurd h (by decide)
theorem Ax:∀(x:List UInt8) (r:List UInt8) (w:List Pc) (text:List UInt8) (sm:Bool) (n:Nat),(∀c∈x,mi c=true)→x≠[]→iP (x++r) w text sm n=iP r w (text++x) true (n+x.length)
 |[],_,_,_,_,_,_,h=>absurd rfl h
 |c::x,r,w,text,sm,n,h,_=>by
  have hc:=h c (bG ..);obtain⟨h1,h2,h3⟩:=Sr hc;have hs:stW (c::(x++r))=some (some (0,[c],false)):=by
   rw[jM,ab (by rw[h1];exact Bool.false_ne_true),ab h2,ab h3,ac hc]
  show iP (c::(x++r)) w text sm n=_;rw[p9 hs];show iP (x++r) w (text++[c]) true (n+1)=_;by_cases hx:x=[]
  ·subst hx;rfl
  ·rw[Ax x r w _ _ _ (fun d hd=>h d (bq _ hd)) hx,aQ,av];show iP r w (text++(c::x)) true (n+1+x.length)=_;rw[show n+1+x.length=n+(x.length+1) by omega]
theorem SG:∀(x r:List UInt8),(∀c∈x,ka c=true)→qn (x++39::r)=x.length
 |[],r,_=>by
  show qn (39::r)=0;rw[yy,ab (by decide)]
 |c::x,r,h=>by
  show qn (c::(x++39::r))=_;rw[yy,ac (h c (bG ..)),SG x r (fun d hd=>h d (bq _ hd))];rfl
theorem XC(x r:List UInt8)(w:List Pc)(text:List UInt8)(sm:Bool)(n:Nat)(h:∀c∈x,ka c=true):iP (39::(x++39::r)) w text sm n=iP r w (text++x) true (n+(x.length+2)):=by
 have hq:=SG x r h
 have e1:(x++39::r).drop x.length=39::r:=by rw[List.drop_append_of_le_length (aj _),cm];rfl
 have e2:(x++39::r).take x.length=x:=by rw[List.take_append_of_le_length (aj _),List.take_length]
 have hs:stW (39::(x++39::r))=some (some (x.length+1,x,false)):=by
  rw[jM,ab (by decide),ac rfl,hq,e1,e2];rfl
 rw[p9 hs]
 have e3:(39::(x++39::r)).drop (x.length+1+1)=r:=by
  rw[List.drop_succ_cons,←List.drop_drop,e1];rfl
 rw[e3]
theorem aW9{p:Pc}(h2:p.2=false)(ha:p.1.all ka=true)(r:List UInt8)(w:List Pc)(n:Nat):iP (lz p++r) w [] false n=iP r w p.1 true (n+(lz p).length):=by
 unfold lz
 rw[ab (by rw[h2];exact Bool.false_ne_true)]
 by_cases hp:(!decide (p.1=[])&&p.1.all mi)=true
 ·rw[ac hp];rw[aC,Bool.not_eq_true',decide_eq_false_iff_not,List.all_eq_true]at hp;rw[Ax p.1 r w [] false n hp.2 hp.1];rfl
 ·rw[ab hp];have:=XC p.1 r w [] false n (List.all_eq_true.1 ha);rw[List.cons_append,aQ];show iP (39::(p.1++39::r)) w [] false n=_;rw[this];simp[aG]
theorem aC5(r:List UInt8)(w:List Pc)(text:List UInt8)(sm:Bool)(n:Nat):iP (36::63::r) w text sm n=iP r (gQ w text) [] false (n+2):=by
 have hs:stW (36::63::r)=some (some (1,[],true)):=by
  rw[jM,ab (by decide),ab (by decide),ac rfl];rfl
 rw[Aw hs];rfl
theorem QF{N:Nat}{tx:Bool}{p:Pc}(h:pJ N tx p=false)(h2:p.2=true):p=([],true):=by
 unfold pJ at h
 rw[h2]at h
 simp only[Bool.true_and,Bool.or_eq_false_iff,Bool.not_eq_false',decide_eq_true_eq]at h
 obtain⟨a,b⟩:=p
 simp only at h h2
 rw[h.1,h2]
theorem QG{N:Nat}{tx:Bool}{p:Pc}(h:pJ N tx p=false)(h2:p.2=false):tx=false∧(p.1=[]→N≤1)∧p.1.all ka=true:=by
 unfold pJ at h
 rw[h2]at h
 simp only[Bool.false_and,Bool.false_or,Bool.not_false,Bool.true_and,Bool.or_eq_false_iff,Bool.not_eq_false',Bool.and_eq_false_iff,decide_eq_false_iff_not]at h
 refine⟨h.1,fun he=>?_,h.2.2⟩
 rcases h.2.1 with h|h
 ·exact absurd he h
 ·omega
theorem DU(N:Nat):∀(k:Nat) (l:List Pc) (w0:List Pc) (r:List UInt8) (n:Nat),l.length≤k→stW r=none→N=w0.length+l.length→iZ N false l=true→iP (cw l++r) w0 [] false n=some (w0++l,n+(cw l).length)
 |_,[],w0,r,n,_,hr,_,_=>by
  show iP r w0 [] false n=_;rw[u4 hr];simp[nF,cw]
 |0,_::_,_,_,_,h,_,_,_=>by simp at h
 |k+1,p::l,w0,r,n,hk,hr,hN,hf=>by
  rw[av]at hk hN;unfold iZ at hf;rw[aC,Bool.not_eq_true']at hf;obtain⟨hb,hf⟩:=hf;have ew:cw (p::l)++r=lz p++(cw l++r):=by show(lz p++cw l)++r=_;rw[aQ]
  have el:(cw (p::l)).length=(lz p).length+(cw l).length:=by show(lz p++cw l).length=_;rw[aG]
  rw[ew,el];cases h2:p.2 with
  |true=>
   obtain rfl:=QF hb h2;rw[show lz ([],true)=[36,63]from rfl];show iP (36::63::(cw l++r)) w0 [] false n=_;rw[aC5,show gQ w0 []=w0++[([],true)] by simp[gQ]];rw[DU N k l _ r _ (by omega) hr (by rw[aG];simp;omega) hf];rw[aQ];show some (w0++([],true)::l,_)=some (w0++([],true)::l,n+(2+_));rw[show n+2+(cw l).length=n+(2+(cw l).length) by omega]
  |false=>
   obtain⟨_,hN1,ha⟩:=QG hb h2;have ep:p=(p.1,false):=by rw[←h2]
   rw[aW9 h2 ha];cases l with
   |nil=>
    show iP r w0 p.1 true _=_;rw[u4 hr];have:nF w0 p.1 true=w0++[p]:=by
     unfold nF;rw[ac,←ep];by_cases h1:p.1=[]
     ·right;have:=hN1 h1;rw[aM]at hN;exact⟨rfl,List.length_eq_zero_iff.1 (by omega)⟩
     ·exact .inl h1
    rw[this];simp[cw]
   |cons q l=>
    rw[h2]at hf;unfold iZ at hf;rw[aC,Bool.not_eq_true']at hf;obtain⟨hb2,hf⟩:=hf;have hq:q.2=true:=by
     cases hq:q.2 with
     |true=>rfl
     |false=>have:=(QG hb2 hq).1;cases this
    obtain rfl:=QF hb2 hq;have h1:p.1≠[]:=fun h1=>by have:=hN1 h1;rw[av]at hN;omega
    have Br:cw (([],true)::l)++r=36::63::(cw l++r):=rfl;have eq2:(cw (([],true)::l)).length=2+(cw l).length:=by show([36,63]++cw l).length=_;rw[aG];rfl
    rw[Br,eq2,aC5,show gQ w0 p.1=w0++[p,([],true)] by unfold gQ;rw[ac h1,←ep,aQ];rfl];rw[av]at hk hN;rw[DU N k l _ r _ (by omega) hr (by rw[aG];simp;omega) hf,aQ];show some (w0++p::([],true)::l,_)=some (w0++p::([],true)::l,_);rw[show n+(lz p).length+2+(cw l).length=n+((lz p).length+(2+(cw l).length)) by omega]
theorem sA{w:List Pc}(h:cP w=true):Tkn (cw w) ([],w):=by
 unfold cP at h
 rw[aC,decide_eq_true_eq]at h
 obtain⟨hf,h0⟩:=h
 have hr:=fun r hr=>DU w.length w.length w [] r 0 (aj _) hr (by simp) hf
 refine aY7 ?_ (fun r h=>by rw[hr r h];simp)
 have en:∀c t,Rn c=false→stW (c::t)≠none:=by
  intro c t he;rw[jM,ab (by rw[he];exact Bool.false_ne_true)];split
  ·split<;>simp
  ·split
   ·split<;>simp
   ·split<;>simp
 cases w with
 |nil=>simp at h0
 |cons p w=>
  unfold iZ at hf;rw[aC,Bool.not_eq_true']at hf;show stW (lz p++cw w)≠none;unfold lz;by_cases h2:p.2=true
  ·rw[ac h2];exact en 36 _ (by decide)
  ·rw[ab h2];by_cases hp:(!decide (p.1=[])&&p.1.all mi)=true
   ·rw[ac hp];rw[aC,Bool.not_eq_true',decide_eq_false_iff_not,List.all_eq_true]at hp;cases hx:p.1 with
    |nil=>exact absurd hx hp.1
    |cons c x=>exact en c _ (Sr (hp.2 c (by rw[hx];exact bG ..))).1
   ·rw[ab hp];exact en 39 _ (by decide)
def wU:List (List UInt8)→List T2→Prop
 |[],[]=>True
 |x::a,t::b=>Tkn x t∧wU a b
 |_,_=>False
theorem wU.app:∀{a b:List (List UInt8)} {s t:List T2},wU a s→wU b t→wU (a++b) (s++t)
 |[],_,[],_,_,h=>h
 |_::_,_,_::_,_,h1,h2=>⟨h1.1,wU.app h1.2 h2⟩
 |[],_,_::_,_,h,_=>h.elim
 |_::_,_,[],_,h,_=>h.elim
theorem TC:∀{xs:List (List UInt8)} {ts:List T2},wU xs ts→Bl (xs.map fun x=>[32]++x).flatten∧rS (xs.map fun x=>[32]++x).flatten=true∧ ∀i,(tk (xs.map fun x=>[32]++x).flatten i).map (·.2)=ts
 |[],[],_=>⟨.inl rfl,rfl,fun i=>rfl⟩
 |x::a,t::b,h=>by
  obtain⟨h1,h2,h3⟩:=TC h.2;have e:((x::a).map fun x=>[32]++x).flatten=32::(x++(a.map fun x=>[32]++x).flatten):=rfl;rw[e];obtain⟨g1,g2⟩:=h.1.2 _ h1;refine⟨.inr ⟨_,rfl⟩,by rw[Tx,g2,h2],fun i=>?_⟩;rw[aF3,g1,List.map_cons,h3]
 |[],_::_,h=>h.elim
 |_::_,[],h=>h.elim
theorem TD{xs:List (List UInt8)}{ts:List T2}(h:wU xs ts):rS (dA [32] xs)=true∧dJ (dA [32] xs)=ts:=by
 cases xs with
 |nil=>
  cases ts with
  |nil=>exact⟨rfl,rfl⟩
  |cons t b=>exact h.elim
 |cons x a=>
  cases ts with
  |nil=>exact h.elim
  |cons t b=>
   obtain⟨h1,h2,h3⟩:=TC h.2;obtain⟨g1,g2⟩:=h.1.2 _ h1;show rS (x++(a.map fun x=>[32]++x).flatten)=true∧dJ (x++(a.map fun x=>[32]++x).flatten)=_;refine⟨by rw[g2,h2],?_⟩;unfold dJ;rw[g1,List.map_cons,h3]
def wK(w:List Pc):T2:=([],w)
def sK(s:List UInt8):T2:=(s,[])
def lm(inp:List Pc):Nat→List eF→List T2
 |_,[]=>[]
 |k,c::r=>(if 0<k then[sK [124]]else[])++(c.map wK++((if(decide (k=0)&&hasW inp)=true then[sK [60],wK inp]else[])++lm inp (k+1) r))
theorem pM(inp:List Pc)(k:Nat)(c:eF)(r:List eF):lm inp k (c::r)=(if 0<k then[sK [124]]else[])++(c.map wK++((if(decide (k=0)&&hasW inp)=true then[sK [60],wK inp]else[])++lm inp (k+1) r)):=rfl
def rO(beh:Bool)(out:List Pc):List T2:=if beh=true then[sK [62,62],wK out]else if hasW out=true then[sK [62],wK out]else[]
def jH(p:dD):List T2:=(if p.nt=true then[sK [33]]else[])++(lm p.inp 0 p.cmds++rO p.beh p.out)
def bE1(p:dD):List T2:=(if 0<p.join then[sK (tA p.join.toNat)]else[])++jH p
def IF:List dD→List T2
 |[]=>[]
 |p::r=>bE1 p++IF r
theorem B8(p:dD)(r:List dD):IF (p::r)=(if 0<p.join then[sK (tA p.join.toNat)]else[])++jH p++IF r:=rfl
theorem Gn:∀{c:eF},(∀w∈c,cP w=true)→wU (c.map cw) (c.map wK)
 |[],_=>trivial
 |w::c,h=>⟨sA (h w (bG ..)),Gn fun x hx=>h x (bq _ hx)⟩
theorem Gm{inp:List Pc}(hi:hasW inp=true→cP inp=true):∀(cs:List eF) (k:Nat),(∀c∈cs,∀w∈c,cP w=true)→wU (gI inp k cs) (lm inp k cs)
 |[],_,_=>trivial
 |c::r,k,h=>by
  unfold gI lm;refine wU.app ?_ (wU.app (Gn (h c (bG ..))) (wU.app ?_ (Gm hi r (k+1) fun x hx=>h x (bq _ hx))))
  ·by_cases hk:0<k
   ·rw[ac hk,ac hk];exact⟨TB (.inl rfl),trivial⟩
   ·rw[ab hk,ab hk];exact trivial
  ·by_cases hk:(decide (k=0)&&hasW inp)=true
   ·rw[ac hk,ac hk];rw[aC]at hk;exact⟨TB (.inr (.inl rfl)),sA (hi hk.2),trivial⟩
   ·rw[ab hk,ab hk];exact trivial
structure PrF(p:dD):Prop where
 inp:hasW p.inp=true→cP p.inp=true
 out:hasW p.out=true→cP p.out=true
 beh:p.beh=true→hasW p.out=true
 cmds:∀c∈p.cmds,∀w∈c,cP w=true
 one:p.cmds≠[]
theorem yq{p:dD}(h:jI p=true):PrF p:=by
 unfold jI at h
 simp only[aC,Bool.not_eq_true',Bool.and_eq_false_iff,Bool.not_eq_false',decide_eq_false_iff_not,List.all_eq_true]at h
 obtain⟨h1,h2,h3,h4,h5,h6⟩:=h
 refine⟨fun hi=>?_,fun ho=>?_,fun hb=>?_,fun c hc w hw=>?_,fun he=>?_⟩
 ·rcases h4 with h4|h4
  ·rw[h4]at hi;cases hi
  ·exact h4
 ·rcases h5 with h5|h5
  ·rw[h5]at ho;cases ho
  ·exact h5
 ·rcases h3 with h3|h3
  ·rw[h3]at hb;cases hb
  ·exact h3
 ·have:=h6 c hc;unfold zg at this;rw[aC]at this;have h7:=this.1;unfold nv at h7;split at h7
  ·simp only[aC,List.all_eq_true]at h7;exact h7.2.2.2 w hw
  ·cases h7
 ·rw[he]at h1;exact h1 (by decide)
theorem TE{p:dD}(h:PrF p):wU (ra p) (jH p):=by
 unfold ra jH
 refine wU.app ?_ (wU.app (Gm h.inp _ _ h.cmds) ?_)
 ·by_cases hn:p.nt=true
  ·rw[ac hn,ac hn];exact⟨TB (.inr (.inr (.inr (.inr rfl)))),trivial⟩
  ·rw[ab hn,ab hn];exact trivial
 ·unfold jD rO;by_cases hb:p.beh=true
  ·rw[ac hb,ac hb];exact⟨aY6 (.inl ⟨rfl,rfl⟩),sA (h.out (h.beh hb)),trivial⟩
  ·rw[ab hb,ab hb];by_cases ho:hasW p.out=true
   ·rw[ac ho,ac ho];exact⟨TB (.inr (.inr (.inl rfl))),sA (h.out ho),trivial⟩
   ·rw[ab ho,ab ho];exact trivial
theorem aY8{j:Int}(h0:0<j)(h3:j≤3):Tkn (tA j.toNat) (sK (tA j.toNat)):=by
 have:j=1∨j=2∨j=3:=by omega
 rcases this with rfl|rfl|rfl
 ·exact TB (.inr (.inr (.inr (.inl rfl))))
 ·exact aY6 (.inr (.inl ⟨rfl,rfl⟩))
 ·exact aY6 (.inr (.inr ⟨rfl,rfl⟩))
theorem TF:∀(l:List dD) (i:Nat),cd i l=true→wU (kZ l) (IF l)
 |[],_,_=>trivial
 |p::r,i,h=>by
  have hj:=iw (p::r) i h p (bG ..);unfold cd at h;rw[aC,aC]at h;unfold kZ IF I4 bE1;refine wU.app (wU.app ?_ ?_) (TF r (i+1) h.2)
  ·by_cases h0:0<p.join
   ·rw[ac h0,ac h0];exact⟨aY8 h0 hj.2,trivial⟩
   ·rw[ab h0,ab h0];exact trivial
  ·exact TE (yq h.1.2)
def Bq(ss:List (List UInt8))(R:List T2):Prop:=R=[]∨ ∃t r,R=t::r∧t.1∈ss
theorem Bq.mono{a b:List (List UInt8)}{R:List T2}(h:Bq a R)(hs:∀x∈a,x∈b):Bq b R:=by
 rcases h with h|⟨t,r,h1,h2⟩
 ·exact .inl h
 ·exact .inr ⟨t,r,h1,hs _ h2⟩
theorem Bq.no{a:List (List UInt8)}{R:List T2}(h:Bq a R){s:List UInt8}(hs:s∉a):isS s R=none:=by
 rcases h with rfl|⟨t,r,rfl,h2⟩
 ·rfl
 ·rw[cC,ab];rintro⟨h3,_⟩;rw[h3]at h2;exact hs h2
abbrev jS:List (List UInt8):=[[59],[38,38],[124,124]]
theorem UX{R:List T2}(hR:Bq ([[33],[60],[62,62],[62],[124]]++jS) R):∀(c:eF) (m:Nat),c.length+R.length≤m→dX m (c.map wK++R)=(c,R)
 |[],m,hm=>by
  show dX m R=([],R)
  cases m with
  |zero=>rfl
  |succ m=>
   rcases hR with rfl|⟨t,r,rfl,h2⟩
   ·rfl
   ·rw[dX,ab];intro h3;rw[h3]at h2;exact absurd h2 (by decide)
 |w::c,m,hm=>by
  rw[av]at hm;cases m with
  |zero=>omega
  |succ m=>
   show dX (m+1) (wK w::(c.map wK++R))=_;rw[dX,ac (show(wK w).1=[]from rfl),UX hR c m (by omega)];rfl
theorem Gw{R:List T2}(hR:Bq ([[33],[60],[62,62],[62],[124]]++jS) R)(c:eF):cJ (c.map wK++R)=(c,R):=by
 unfold cJ
 exact UX hR c _ (by rw[aG,List.length_map];exact aj _)
theorem Xf(beh:Bool)(out:List Pc){R:List T2}(hR:Bq jS R):Bq ([[62,62],[62]]++jS) (rO beh out++R):=by
 unfold rO
 split
 ·exact .inr ⟨_,_,rfl,by decide⟩
 ·split
  ·exact .inr ⟨_,_,rfl,by decide⟩
  ·exact hR.mono (by decide)
theorem Fa{inp:List Pc}{R:List T2}{k:Nat}(hk:0<k)(cs:List eF)(hR:Bq ([[62,62],[62]]++jS) R):Bq ([[124],[62,62],[62]]++jS) (lm inp k cs++R):=by
 cases cs with
 |nil=>exact hR.mono (by decide)
 |cons c r=>
  rw[pM,ac hk];exact .inr ⟨_,_,rfl,by decide⟩
theorem FA{inp:List Pc}{R:List T2}(hR:Bq ([[62,62],[62]]++jS) R):∀(cs:List eF) (k:Nat),0<k→dm (lm inp k cs++R)=(cs,R)
 |[],k,_=>o4 (hR.no (by decide))
 |c::r,k,hk=>by
  have hs:=Fa (inp:=inp) (Nat.succ_pos k) r hR;have e:lm inp k (c::r)++R=sK [124]::(c.map wK++(lm inp (k+1) r++R)):=by
   rw[pM,ac hk,ab (by rw[ag (by omega:¬k=0)];exact Bool.false_ne_true)];simp only[aQ];rfl
  have h1:isS [124] (sK [124]::(c.map wK++(lm inp (k+1) r++R)))=some (c.map wK++(lm inp (k+1) r++R)):=by
   rw[cC,ac ⟨rfl,by decide⟩]
  rw[e,tU h1,Gw (hs.mono (by decide)) c];dsimp only;rw[FA hR r (k+1) (Nat.succ_pos k)]
theorem yC(w:List Pc)(R:List T2):redir (wK w::R)=(w,false,R):=by
 unfold redir;rw[jC,ac (show(wK w).1=[]from rfl)];rfl
theorem aU8{beh:Bool}{out:List Pc}{R:List T2}(hR:Bq jS R)(hb:beh=true→hasW out=true):dK (rO beh out++R)=(beh,out,false,R):=by
 unfold rO
 by_cases h1:beh=true
 ·rw[ac h1,h1];show dK (sK [62,62]::wK out::R)=_;unfold dK;rw[cC,ac ⟨rfl,by decide⟩];dsimp only;rw[yC]
 ·have h1:beh=false:=by cases beh with|true=>exact absurd rfl h1|false=>rfl
  subst h1;rw[ab Bool.false_ne_true];by_cases h2:hasW out=true
  ·rw[ac h2];show dK (sK [62]::wK out::R)=_;unfold dK;rw[cC,ab (by decide)];dsimp only;rw[cC,ac ⟨rfl,by decide⟩];dsimp only;rw[yC]
  ·rw[ab h2];have:out=[]:=by
    unfold hasW at h2;cases out with
    |nil=>rfl
    |cons p q=>exact absurd (by simp) h2
   subst this;show dK R=_;unfold dK;rw[hR.no (by decide)];dsimp only;rw[hR.no (by decide)]
theorem aS8{inp:List Pc}{R:List T2}(hR:Bq ([[124],[62,62],[62]]++jS) R):d6 ((if hasW inp=true then[sK [60],wK inp]else[])++R)=(inp,false,R):=by
 by_cases h:hasW inp=true
 ·rw[ac h];show d6 (sK [60]::wK inp::R)=_;unfold d6;rw[cC,ac ⟨rfl,by decide⟩];dsimp only;rw[yC]
 ·rw[ab h];have:inp=[]:=by
   unfold hasW at h;cases inp with
   |nil=>rfl
   |cons p q=>exact absurd (by simp) h
  subst this;show d6 R=_;unfold d6;rw[hR.no (by decide)]
theorem Fy{p:dD}(hp:PrF p){R:List T2}(hR:Bq jS R):cY p.join (jH p++R)=(p,false,R):=by
 obtain⟨j,nt,inp,out,beh,cmds⟩:=p
 obtain⟨c,cs,rfl⟩:∃c cs,cmds=c::cs:=by
  cases cmds with
  |nil=>exact absurd rfl hp.one
  |cons c cs=>exact⟨c,cs,rfl⟩
 have so:=Xf beh out hR
 have sc:=Fa (inp:=inp) (Nat.succ_pos 0) cs so
 have si:Bq ([[60],[124],[62,62],[62]]++jS) ((if hasW inp=true then[sK [60],wK inp]else[])++(lm inp 1 cs++(rO beh out++R))):=by
  by_cases h:hasW inp=true
  ·rw[ac h];exact .inr ⟨_,_,rfl,by decide⟩
  ·rw[ab h];exact sc.mono (by decide)
 have e0:jH ⟨j,nt,inp,out,beh,c::cs⟩++R=(if nt=true then[sK [33]]else[])++(c.map wK++((if hasW inp=true then[sK [60],wK inp]else[])++(lm inp 1 cs++(rO beh out++R)))):=by
  unfold jH;show((if nt=true then[sK [33]]else[])++(lm inp 0 (c::cs)++rO beh out))++R=_;rw[pM,ab (Nat.lt_irrefl 0)];simp only[decide_true,Bool.true_and,aQ,List.nil_append,Nat.zero_add]
 have en:jk ((if nt=true then[sK [33]]else[])++(c.map wK++((if hasW inp=true then[sK [60],wK inp]else[])++(lm inp 1 cs++(rO beh out++R)))))=(nt,c.map wK++((if hasW inp=true then[sK [60],wK inp]else[])++(lm inp 1 cs++(rO beh out++R)))):=by
  cases nt with
  |true=>
   rw[ac rfl];show jk (sK [33]::_)=_;unfold jk;rw[cC,ac ⟨rfl,by decide⟩];rfl
  |false=>
   rw[ab Bool.false_ne_true];show jk (c.map wK++_)=_;unfold jk;have:isS [33] (c.map wK++((if hasW inp=true then[sK [60],wK inp]else[])++(lm inp 1 cs++(rO beh out++R))))=none:=by
    cases c with
    |nil=>exact si.no (by decide)
    |cons w c=>
     show isS [33] (wK w::_)=none;rw[cC,ab];rintro⟨h,_⟩;exact absurd (show([]:List UInt8)=[33]from h) (by decide)
   rw[this]
 have ew:=Gw (si.mono (by decide)) c
 have ei:=aS8 (inp:=inp) sc
 have ep:=FA (inp:=inp) so cs 1 (Nat.succ_pos 0)
 have eo:=aU8 (out:=out) hR hp.beh
 unfold cY
 rw[e0,en]
 dsimp only
 rw[ew]
 dsimp only
 rw[ei]
 dsimp only
 rw[ep]
 dsimp only
 rw[eo]
 rfl
theorem WZ{j:Int}(h0:0<j)(h3:j≤3)(R:List T2):eO (sK (tA j.toNat)::R)=some (j,R):=by
 have:j=1∨j=2∨j=3:=by omega
 rcases this with rfl|rfl|rfl
 ·unfold eO;rw[cC,ac ⟨rfl,by decide⟩]
 ·unfold eO;rw[cC,ab (by decide)];dsimp only;rw[cC,ac ⟨rfl,by decide⟩]
 ·unfold eO;rw[cC,ab (by decide)];dsimp only;rw[cC,ab (by decide)];dsimp only;rw[cC,ac ⟨rfl,by decide⟩]
theorem bA9{j:Int}(h0:0<j)(h3:j≤3):tA j.toNat∈jS:=by
 have:j=1∨j=2∨j=3:=by omega
 rcases this with rfl|rfl|rfl<;>decide
theorem aB4{i:Nat}{j:Int}(h:jOk i j=true):0≤j∧j≤3∧(i=0↔j=0):=by
 unfold jOk at h
 simp only[aC,Bool.not_eq_true',decide_eq_false_iff_not,beq_iff_eq,decide_eq_decide]at h
 exact⟨by omega,by omega,h.1⟩
theorem Fo:∀(r:List dD) (p:dD) (i:Nat),cd i (p::r)=true→dU p.join (jH p++IF r)=(p::r,false,[])
 |[],p,i,h=>by
  unfold cd at h;rw[aC,aC]at h;have hp:=Fy (yq h.1.2) (R:=[]) (.inl rfl);show dU p.join (jH p++[])=_;rw[tH (by rw[hp];rfl),hp]
 |q::r,p,i,h=>by
  unfold cd at h;rw[aC,aC]at h;have h2:=h.2;unfold cd at h2;rw[aC,aC]at h2;obtain⟨j1,j2,j3⟩:=aB4 h2.1.1;have j0:0<q.join:=by
   rcases Int.lt_or_le 0 q.join with h|h
   ·exact h
   ·exact absurd (j3.2 (by omega)) (by omega)
  have ek:IF (q::r)=sK (tA q.join.toNat)::(jH q++IF r):=by
   rw[B8,ac j0];simp only[aQ];rfl
  have hp:=Fy (yq h.1.2) (R:=IF (q::r)) (by rw[ek];exact .inr ⟨_,_,rfl,bA9 j0 j2⟩);have hj:eO (cY p.join (jH p++IF (q::r))).2.2=some (q.join,jH q++IF r):=by
   rw[hp,ek];exact WZ j0 j2 _
  rw[tI hj,hp,Fo r q (i+1) h.2];rfl
theorem Su{l:List dD}(h:t4 l=true):IY (dA [32] (kZ l))=(l,0):=by
 have hc:=h
 unfold t4 at h
 simp only[aC,Bool.not_eq_true',decide_eq_false_iff_not]at h
 obtain⟨h1,h2,h3,h4⟩:=h
 obtain⟨e1,e2⟩:=TD (TF l 0 h3)
 cases l with
 |nil=>exact absurd (by decide) h1
 |cons p r=>
  have hl:=Fo r p 0 h3;have h5:=h3;unfold cd at h5;rw[aC,aC]at h5;have j0:=(aB4 h5.1.1).2.2.1 rfl;have ek:IF (p::r)=jH p++IF r:=by
   rw[B8,j0,ab (by decide)];rfl
  rw[j0,←ek]at hl;unfold IY;rw[ab h4,e1,ab (by simp),e2,hl,hc];rfl
abbrev bH7(u:List (Option V))(x1 x2 x5 x6:V):T:=(.n (.n (.n (aq u 31 15 47 7 39 23 55) (uO u 3) (aq u 35 19 51 11 43 27 59)) (some x1) (.n (aq u 33 17 49 9 41 25 57) (some x5) (aq u 37 21 53 13 45 29 61))) (uO u 0) (.n (.n (aq u 32 16 48 8 40 24 56) (uO u 4) (aq u 36 20 52 12 44 28 60)) (some x2) (.n (aq u 34 18 50 10 42 26 58) (some x6) (aq u 38 22 54 14 46 30 62))))
abbrev aE7(u:List (Option V))(x1 x2 x5 x6 x7 x8:V):T:=(.n (.n (.n (.n (aq u 63 31 95 15 79 47 111) (some x7) (aq u 71 39 103 23 87 55 119)) (uO u 3) (.n (aq u 67 35 99 19 83 51 115) (uO u 11) (aq u 75 43 107 27 91 59 123))) (some x1) (.n (.n (aq u 65 33 97 17 81 49 113) (uO u 9) (aq u 73 41 105 25 89 57 121)) (some x5) (.n (aq u 69 37 101 21 85 53 117) (uO u 13) (aq u 77 45 109 29 93 61 125)))) (uO u 0) (.n (.n (.n (aq u 64 32 96 16 80 48 112) (some x8) (aq u 72 40 104 24 88 56 120)) (uO u 4) (.n (aq u 68 36 100 20 84 52 116) (uO u 12) (aq u 76 44 108 28 92 60 124))) (some x2) (.n (.n (aq u 66 34 98 18 82 50 114) (uO u 10) (aq u 74 42 106 26 90 58 122)) (some x6) (.n (aq u 70 38 102 22 86 54 118) (uO u 14) (aq u 78 46 110 30 94 62 126)))))
abbrev aE8(u:List (Option V))(x1 x2 x5 x6 x7 x8 x9:V):T:=(.n (.n (.n (.n (aq u 63 31 95 15 79 47 111) (some x7) (aq u 71 39 103 23 87 55 119)) (uO u 3) (.n (aq u 67 35 99 19 83 51 115) (uO u 11) (aq u 75 43 107 27 91 59 123))) (some x1) (.n (.n (aq u 65 33 97 17 81 49 113) (some x9) (aq u 73 41 105 25 89 57 121)) (some x5) (.n (aq u 69 37 101 21 85 53 117) (uO u 13) (aq u 77 45 109 29 93 61 125)))) (uO u 0) (.n (.n (.n (aq u 64 32 96 16 80 48 112) (some x8) (aq u 72 40 104 24 88 56 120)) (uO u 4) (.n (aq u 68 36 100 20 84 52 116) (uO u 12) (aq u 76 44 108 28 92 60 124))) (some x2) (.n (.n (aq u 66 34 98 18 82 50 114) (uO u 10) (aq u 74 42 106 26 90 58 122)) (some x6) (.n (aq u 70 38 102 22 86 54 118) (uO u 14) (aq u 78 46 110 30 94 62 126)))))
abbrev aE9(u:List (Option V))(x1 x2 x5 x6:V):T:=(.n (.n (.n (.n (aq u 63 31 95 15 79 47 111) (uO u 7) (aq u 71 39 103 23 87 55 119)) (uO u 3) (.n (aq u 67 35 99 19 83 51 115) (uO u 11) (aq u 75 43 107 27 91 59 123))) (some x1) (.n (.n (aq u 65 33 97 17 81 49 113) (uO u 9) (aq u 73 41 105 25 89 57 121)) (some x5) (.n (aq u 69 37 101 21 85 53 117) (uO u 13) (aq u 77 45 109 29 93 61 125)))) (uO u 0) (.n (.n (.n (aq u 64 32 96 16 80 48 112) (uO u 8) (aq u 72 40 104 24 88 56 120)) (uO u 4) (.n (aq u 68 36 100 20 84 52 116) (uO u 12) (aq u 76 44 108 28 92 60 124))) (some x2) (.n (.n (aq u 66 34 98 18 82 50 114) (uO u 10) (aq u 74 42 106 26 90 58 122)) (some x6) (.n (aq u 70 38 102 22 86 54 118) (uO u 14) (aq u 78 46 110 30 94 62 126)))))
abbrev aF0(u:List (Option V))(x1 x2 x5 x6 x7:V):T:=(.n (.n (.n (.n (aq u 63 31 95 15 79 47 111) (some x7) (aq u 71 39 103 23 87 55 119)) (uO u 3) (.n (aq u 67 35 99 19 83 51 115) (uO u 11) (aq u 75 43 107 27 91 59 123))) (some x1) (.n (.n (aq u 65 33 97 17 81 49 113) (uO u 9) (aq u 73 41 105 25 89 57 121)) (some x5) (.n (aq u 69 37 101 21 85 53 117) (uO u 13) (aq u 77 45 109 29 93 61 125)))) (uO u 0) (.n (.n (.n (aq u 64 32 96 16 80 48 112) (uO u 8) (aq u 72 40 104 24 88 56 120)) (uO u 4) (.n (aq u 68 36 100 20 84 52 116) (uO u 12) (aq u 76 44 108 28 92 60 124))) (some x2) (.n (.n (aq u 66 34 98 18 82 50 114) (uO u 10) (aq u 74 42 106 26 90 58 122)) (some x6) (.n (aq u 70 38 102 22 86 54 118) (uO u 14) (aq u 78 46 110 30 94 62 126)))))
theorem bY2(a b:Int):HR false (.i .i64 a) (.i .i64 b)=some (.i .i64 (if b<a then b else a)):=by
 show(fI _ fun n=>some (V.i .i64 n))=_
 rw[aA1]
 show some (V.i .i64 (bif S6 b a then b else a))=_
 rw[fH]
 by_cases h:b<a
 ·rw[ah h,ac h];rfl
 ·rw[ag h,ab h];rfl
def mzT(w:List Pc):Nat:=(w.map fun p=>p.1.length).sum
def tO(w:List Pc):Nat:=w.length+mzT w
def zk(c:List (List Pc)):Nat:=c.length+(c.map tO).sum
def HS(p:dD):Nat:=p.cmds.length+p.inp.length+p.out.length+(p.cmds.map zk).sum+tO p.inp+tO p.out
def S8(l:List dD):Nat:=l.length+(l.map HS).sum
def BdC(c:List (List Pc)):Prop:=c.length≤140737488351232∧ ∀w∈c,w.length≤140737488351232
def BdP(p:dD):Prop:=p.inp.length≤140737488351232∧p.out.length≤140737488351232∧p.cmds.length≤140737488351232∧ ∀c∈p.cmds,BdC c
theorem ui{α:Type}(f:α→Nat):∀(l:List α) (i:Nat) (h:i<l.length),((l.take (i+1)).map f).sum=((l.take i).map f).sum+f l[i]
 |[],i,h=>by cases h
 |a::l,0,h=>by simp
 |a::l,i+1,h=>by
  have ih:=ui f l i (Nat.lt_of_succ_lt_succ h);rw[List.take_succ_cons,List.take_succ_cons,List.map_cons,List.map_cons,List.sum_cons,List.sum_cons,ih,List.getElem_cons_succ,Nat.add_assoc]
theorem ba9(Φ:Nat→Option CF)(h:Φ 37=some c37){F:RO}{M:Mem}{c:Nat}(ok:cK F M c){v:V}{w:List Pc}(hw:dw F M c v w)(hb:w.length≤140737488351232)(m:Int)(m0:0≤m)(m1:m≤1000000):
 Calls Φ F 37 [.g [v],.i .i64 m] M c fun r M' c'=>(∃z:Int,r= .i .i64 z∧0≤z∧z≤281474976710656∧(z≤m→z=(tO w:Nat)))∧Gr c M c' M':=by
 refine aN h ?_
 obtain⟨y1,y2,y3⟩:=hw.one
 have hG:∀v,flatten (V.g [v])=[v]:=fun _=>rfl
 have gX:=(Gr.refl ok).set c (af 36 [v]) (aj _) (ay _) (aH _)
 have mm:(M.set c (af 36 [v])).get c=some (af 36 [v]):=am _ _ _
 have k0:load1 F (M.set c (af 36 [v])) c 0=some v:=au mm 0
 have n1:=hw.len
 have mx1:w.length≤9223372036854775807:=hw.2
 have hX:=hw.grow gX
 simp only[WX,B37,hG,y3,k0,n1]
 generalize M.set c (af 36 [v])=X at gX k0 hX⊢
 obtain⟨I,hI⟩:∃I:Nat→St→Prop,∀n s',I n s'↔(∃(i:Nat) (z:Int) (u:List (Option V)),n=w.length-i∧i≤w.length∧(0≤z∧z≤281474976710656∧(z≤m→z=((w.length+((w.take i).map fun p=>p.1.length).sum:Nat):Int)))∧s'= .mk ((bH7 u (.i .i64 m) (.p c 0) (.i .i64 z) (.i .i64 (i:Int)))) [] X (c+1)):=⟨fun n s'=>_,fun _ _=>Iff.rfl⟩
 refine bw I ?_ w.length _ ((hI _ _).2 ⟨0,_,(X1 (G2 (X2 (G2 (bK (bB (X8 []))))))),rfl,ax _,⟨by omega,by omega,fun _=>by rw[List.take_zero];rfl⟩,rfl⟩)
 intro n s' hIs
 obtain⟨i,z,u,rfl,hi,⟨z0,zB,zE⟩,rfl⟩:=(hI _ _).1 hIs
 clear hIs
 by_cases hlt:i<w.length
 ·have q8:cz .add (.i .i64 (i:Int)) (.i .i64 1)=some (.i .i64 ((i+1:Nat):Int)):=by rw[aX _ _ (by omega) (by omega)];simp
  have d1:decide ((i:Int)<(w.length:Int))=true:=ah (by omega);by_cases hz:z≤m
  ·have d2:decide (z≤m)=true:=ah hz;obtain⟨b,o,hb,ia,ld1⟩:=Sm hX.1 i hlt;have ia:=ia .i64;have hz1:=aX m 1 (by omega) (by omega);have hz2:=bY2 (w[i].1.length:Int) (m+1);have hsum:=ui (fun p:Pc=>p.1.length) w i hlt;have zE':=zE hz;generalize hg:(if m+1<(w[i].1.length:Int)then m+1 else(w[i].1.length:Int))=y at hz2;have y0:0≤y∧y≤m+1∧(y≤m→y=(w[i].1.length:Int)):=by
    split at hg<;>omega
   have hz3:=aX z y (by omega) (by omega);simp only[WX,B37,k0,n1,d1,d2,ia,ld1,aB,bJ7,hz1,hz2,hz3,q8];exact⟨w.length-(i+1),by omega,(hI _ _).2 ⟨i+1,_,(X1 (G2 (X2 (G2 (bK (bB (X8 []))))))),rfl,hlt,⟨by omega,by omega,fun hle=>by rw[hsum];omega⟩,rfl⟩⟩
  ·have d2:decide (z≤m)=false:=ag hz;simp only[WX,B37,k0,n1,d1,d2];exact⟨⟨_,rfl,z0,zB,fun h=>absurd h hz⟩,gX⟩
 ·obtain rfl:i=w.length:=by omega
  have d1:decide ((w.length:Int)<(w.length:Int))=false:=ag (by omega);simp only[WX,B37,k0,n1,d1];refine⟨⟨_,rfl,z0,zB,fun h=>?_⟩,gX⟩;rw[zE h,List.take_length];rfl
theorem bC2(Φ:Nat→Option CF)(h37:Φ 37=some c37){F:RO}{M:Mem}{c1 pc pb k s0:Nat}{m z:Int}{iv vc:V}(ok:cK F M c1){cs:List (List (List Pc))}(hk:k<cs.length)(hc:jg F M c1 vc cs)(A5:load1 F M pb 5=some vc)(hb:pb<c1)(m0:0≤m)(m1:m≤1000000)(hB:∀w∈cs[k],w.length≤140737488351232)(hz:0≤z∧z≤562949953421312∧(z≤m→z=(s0:Int)))(u:List (Option V))(Q:Ex→St→Prop)
 (hQ:∀(u:List (Option V)) (z:Int) M' c',Gr c1 M c' M'→(0≤z∧z≤562949953421312∧(z≤m→z=((s0+(cs[k].map tO).sum:Nat):Int)))→Q (.ext 4) (.mk ((aE7 u (.i .i64 m) (.p pc 0) (.i .i64 z) iv (.p pb 0) (.i .i64 (k:Int)))) [] M' c')):
 Wp Cb (K Φ none 14 F) (.mk ((aE8 u (.i .i64 m) (.p pc 0) (.i .i64 z) iv (.p pb 0) (.i .i64 (k:Int)) (.i .i64 0))) [] M c1) Q:=by
 obtain⟨b,o,x,hbx,ia,ld,_,w⟩:=cg.at1 hc k hk
 have ia:=ia .i64
 have n1:=w.len
 have mx1:=w.max
 generalize cs[k]=wl at w n1 mx1 hB hQ
 show Wp (.loop (.seq (.seq C7 C8) (.seq (.block 5 C9) Ca))) _ _ _
 obtain⟨I,hI⟩:∃I:Nat→St→Prop,∀n s',I n s'↔(∃(i c2:Nat) (z:Int) (M1:Mem) (u:List (Option V)),n=wl.length-i∧i≤wl.length∧s'= .mk ((aE8 u (.i .i64 m) (.p pc 0) (.i .i64 z) iv (.p pb 0) (.i .i64 (k:Int)) (.i .i64 (i:Int)))) [] M1 c2∧Gr c1 M c2 M1∧(0≤z∧z≤562949953421312∧(z≤m→z=((s0+((wl.take i).map tO).sum:Nat):Int)))):=⟨fun n s'=>_,fun _ _=>Iff.rfl⟩
 refine bw I ?_ wl.length _ ((hI _ _).2 ⟨0,_,_,_,(X1 (G2 (X2 (G4 (G1 (bD (bK (bB (X4 (X1 [])))))))))),rfl,ax _,rfl,Gr.refl ok,hz⟩)
 intro n s' hIs
 clear hz
 obtain⟨i,c2,z,M1,u,rfl,hi,rfl,gr1,z0,zB,zE⟩:=(hI _ _).1 hIs
 clear hIs
 have A5:load1 F M1 pb 5=some vc:=(gr1.load1 hb _).trans A5
 have ld:load1 F M1 b o=some x:=(gr1.load1 hbx _).trans ld
 by_cases hlt:i<wl.length
 ·have q8:cz .add (.i .i64 (i:Int)) (.i .i64 1)=some (.i .i64 ((i+1:Nat):Int)):=by rw[aX _ _ (by omega) (by omega)];simp
  have d1:decide ((i:Int)<(wl.length:Int))=true:=ah (by omega);by_cases hz:z≤m
  ·have d2:decide (z≤m)=true:=ah hz;have ok1:=gr1.ok ok;obtain⟨b1,o1,y,hb1,ia1,_,ld1,w1⟩:=cg.at1 (w.grow gr1) i hlt;have ia1:=ia1 .i64;simp only[WX,Vy,aB,A5,ia,ld,n1,d1,d2,ia1,ld1];refine aD ((ba9 Φ h37 ok1 w1 (hB _ (List.getElem_mem hlt)) m m0 m1).mono ?_);rintro r M2 c3 ⟨⟨z1,rfl,y0,yB,yE⟩,g2⟩;have hsum:=ui tO wl i hlt;have zE':=zE hz;have hz2:=aX z z1 (by omega) (by omega);simp only[WX,Vy,hz2,q8];exact⟨wl.length-(i+1),by omega,(hI _ _).2 ⟨i+1,_,_,_,(X1 (G2 (X2 (G4 (G1 (bD (bK (bB (X4 (X1 [])))))))))),rfl,hlt,rfl,gr1.trans g2,by omega,by omega,fun hle=>by rw[hsum];omega⟩⟩
  ·have d2:decide (z≤m)=false:=ag hz;simp only[WX,Vy,aB,A5,ia,ld,n1,d1,d2];exact hQ (X1 (G2 (X2 (G4 (bD (bK (bB (X4 (X2 []))))))))) _ _ _ gr1 ⟨z0,zB,fun h=>absurd h hz⟩
 ·obtain rfl:i=wl.length:=by omega
  have d1:decide ((wl.length:Int)<(wl.length:Int))=false:=ag (by omega);simp only[WX,Vy,aB,A5,ia,ld,n1,d1];refine hQ (X1 (G2 (X2 (G4 (bD (bK (bB (X4 (X2 []))))))))) _ _ _ gr1 ⟨z0,zB,fun h=>?_⟩;rw[zE h,List.take_length]
theorem bC1(Φ:Nat→Option CF)(h37:Φ 37=some c37){F:RO}{M:Mem}{c1 pc pb s0:Nat}{m z:Int}{iv:V}(ok:cK F M c1){r1:List V}{p:dD}(hp:P1 F M c1 r1 p)(mb:M.get pb=some (af 39 r1))(hb:pb<c1)(m0:0≤m)(m1:m≤1000000)(hB:BdP p)(hz:0≤z∧z≤562949953421312∧(z≤m→z=(s0:Int)))(u:List (Option V))(Q:Ex→St→Prop)
 (hQ:∀(u:List (Option V)) (z:Int) M' c',Gr c1 M c' M'→(0≤z∧z≤1125899906842624∧(z≤m→z=((s0+((p.cmds.map zk).sum+tO p.inp+tO p.out):Nat):Int)))→Q .nrm (.mk ((aE9 u (.i .i64 m) (.p pc 0) (.i .i64 z) iv)) [] M' c')):
 Wp Cd (K Φ none 14 F) (.mk ((aF0 u (.i .i64 m) (.p pc 0) (.i .i64 z) iv (.p pb 0))) [] M c1) Q:=by
 obtain⟨i1,o1,k1,hr1,a1,a2,a3⟩:=hp
 have A5:load1 F M pb 5=some k1:=(au mb 5).trans (by rw[hr1];rfl)
 have A2:loadN F M pb 2 1=some [i1]:=by rw[cO mb,bW _ _ _ _ _ _ (by rw[hr1];simp),hr1];rfl
 have A3:loadN F M pb 3 1=some [o1]:=by rw[cO mb,bW _ _ _ _ _ _ (by rw[hr1];simp),hr1];rfl
 clear mb hr1
 have n1:=a3.len
 have mx1:=a3.max
 obtain⟨B1,B2,B3,B4⟩:=hB
 simp only[WX,aH3,U3]
 obtain⟨I,hI⟩:∃I:Nat→St→Prop,∀n s',I n s'↔(∃(i c2:Nat) (z:Int) (M1:Mem) (u:List (Option V)),n=p.cmds.length-i∧i≤p.cmds.length∧s'= .mk ((aE7 u (.i .i64 m) (.p pc 0) (.i .i64 z) iv (.p pb 0) (.i .i64 (i:Int)))) [] M1 c2∧Gr c1 M c2 M1∧(0≤z∧z≤562949953421312∧(z≤m→z=((s0+((p.cmds.take i).map zk).sum:Nat):Int)))):=⟨fun n s'=>_,fun _ _=>Iff.rfl⟩
 have FIN:∀(u:List (Option V)) (z:Int) (M1:Mem) (c2:Nat),Gr c1 M c2 M1→(0≤z∧z≤562949953421312∧(z≤m→z=((s0+(p.cmds.map zk).sum:Nat):Int)))→Wp Cc (K Φ none 14 F) (.mk ((aF0 u (.i .i64 m) (.p pc 0) (.i .i64 z) iv (.p pb 0))) [] M1 c2) Q:=by
  intro u z M1 c2 gr1 ⟨x0,xB,xE⟩;have A2:loadN F M1 pb 2 1=some [i1]:=(gr1.loadN hb _ _).trans A2;have A3:loadN F M1 pb 3 1=some [o1]:=(gr1.loadN hb _ _).trans A3;have ok1:=gr1.ok ok;have g12:Gr c2 M1 (c2+12) M1:=(Gr.refl ok1).up (by omega);have ok2:=g12.ok ok1;simp only[WX,Vy,A2,A3];refine nJ _ _ _ _ _ _ _ _ _ _ _ ok2 ?_;intro F1 N1 okn hlk;have b1:=(a1.grow gr1).grow g12;refine(show lw (cT (iu Φ) F1 37 [.g [i1],.i .i64 m] N1 (c2+12) (Φ 37)) _ from(ba9 Φ h37 okn ⟨b1.1.lk hlk,b1.2⟩ B1 m m0 m1).mono ?_);rintro v M2 c3 ⟨⟨z1,rfl,y0,yB,yE⟩,g2⟩;refine⟨g2,fun M3 g3 _=>?_⟩;have hz2:=aX z z1 (by omega) (by omega);simp only[WX,Nat.reducePow,Nat.reduceDiv,Nat.reduceMod,Nat.reduceBEq,fW,hz2];have b2:=(a2.grow gr1).grow (g12.trans g3);refine du ((ba9 Φ h37 (g3.ok ok2) b2 B2 m m0 m1).mono ?_);rintro v M5 c4 ⟨⟨z3,rfl,t0,tB,tE⟩,g5⟩;refine⟨(g5.ok (g3.ok ok2)).free,?_⟩;have hz4:=aX (z+z1) z3 (by omega) (by omega);simp only[WX,hz4];refine hQ (X1 (G2 (X2 (G2 (bD (bK (bB (X8 [])))))))) _ _ _ (gr1.trans ((g12.trans g3).trans g5)) ⟨by omega,by omega,fun hle=>?_⟩;have e1:=xE (by omega);have e2:=yE (by omega);have e3:=tE (by omega);omega
 refine bw I ?_ p.cmds.length _ ((hI _ _).2 ⟨0,_,_,_,(X1 (G2 (X2 (G4 (bD (bK (bB (X4 (X2 []))))))))),rfl,ax _,rfl,Gr.refl ok,hz⟩)
 intro n s' hIs
 clear hz
 obtain⟨i,c2,z,M1,u,rfl,hi,rfl,gr1,z0,zB,zE⟩:=(hI _ _).1 hIs
 clear hIs
 have A5:load1 F M1 pb 5=some k1:=(gr1.load1 hb _).trans A5
 have hle:=gr1.le
 by_cases hlt:i<p.cmds.length
 ·have q8:cz .add (.i .i64 (i:Int)) (.i .i64 1)=some (.i .i64 ((i+1:Nat):Int)):=by rw[aX _ _ (by omega) (by omega)];simp
  have d1:decide ((i:Int)<(p.cmds.length:Int))=true:=ah (by omega);by_cases hz:z≤m
  ·have d2:decide (z≤m)=true:=ah hz;have ok1:=gr1.ok ok;obtain⟨b,o,x,hbx,ia,ld,_,w⟩:=cg.at1 (a3.grow gr1) i hlt;have ia:=ia .i64;have n2:=w.len;have hBi:=B4 _ (List.getElem_mem hlt);have hsum:=ui zk p.cmds i hlt;have hBl:=hBi.1;have zE':=zE hz;have hz1:=aX z (p.cmds[i].length:Int) (by omega) (by omega);simp only[WX,Gs,yP,U0,U1,U2,aB,A5,n1,d1,d2,ia,ld,n2,hz1];refine bC2 Φ h37 ok1 (s0:=s0+((p.cmds.take i).map zk).sum+p.cmds[i].length) hlt (a3.grow gr1) A5 (by omega) m0 m1 hBi.2 ⟨by omega,by omega,fun hle=>by omega⟩ (X1 (G2 (X2 (G4 (G1 (bD (bK (bB (X4 (X1 [])))))))))) _ ?_;intro u z' M' c' g ⟨t0,tB,tE⟩;simp only[WX,Nat.reduceEqDiff,Vy,q8];refine⟨p.cmds.length-(i+1),by omega,(hI _ _).2 ⟨i+1,_,_,_,(X1 (G2 (X2 (G4 (bD (bK (bB (X4 (X2 []))))))))),rfl,hlt,rfl,gr1.trans g,t0,tB,fun hle=>?_⟩⟩;rw[tE hle,hsum];unfold zk;omega
  ·have d2:decide (z≤m)=false:=ag hz;simp only[WX,Gs,yP,A5,n1,d1,d2];exact FIN (X1 (G2 (X2 (G2 (G1 (bD (bK (bB (X4 (X2 (X1 []))))))))))) _ _ _ gr1 ⟨z0,zB,fun h=>absurd h hz⟩
 ·obtain rfl:i=p.cmds.length:=by omega
  have d1:decide ((p.cmds.length:Int)<(p.cmds.length:Int))=false:=ag (by omega);simp only[WX,Gs,yP,A5,n1,d1];exact FIN (X1 (G2 (X2 (G2 (G1 (bD (bK (bB (X4 (X2 (X1 []))))))))))) _ _ _ gr1 ⟨z0,zB,fun h=>by rw[zE h,List.take_length]⟩
theorem cg0(Φ:Nat→Option CF)(h:Φ 14=some c14)(h37:Φ 37=some c37){F:RO}{M:Mem}{c:Nat}(ok:cK F M c){v:V}{l:List dD}(hl:iF F M c v l)(hB:l.length≤140737488351232∧ ∀p∈l,BdP p)(m:Int)(m0:0≤m)(m1:m≤1000000):
 Calls Φ F 14 [.g [v],.i .i64 m] M c fun r M' c'=>(∃b,r= .b b∧(b=false→(S8 l:Int)≤m))∧Gr c M c' M':=by
 refine aN h ?_
 obtain⟨y1,y2,y3⟩:=hl.one
 have hG:∀v,flatten (V.g [v])=[v]:=fun _=>rfl
 have gX:=(Gr.refl ok).set c (af 25 [v]) (aj _) (ay _) (aH _)
 have mm:(M.set c (af 25 [v])).get c=some (af 25 [v]):=am _ _ _
 have k0:load1 F (M.set c (af 25 [v])) c 0=some v:=au mm 0
 have n1:=hl.len
 have mx1:=hl.max
 have hl:=hl.grow gX
 obtain⟨B1,B2⟩:=hB
 simp only[WX,e14,aG6,aG7,aG8,U5,hG,y3,k0,n1]
 generalize M.set c (af 25 [v])=X at gX k0 hl⊢
 have okX:=gX.ok ok
 obtain⟨I,hI⟩:∃I:Nat→St→Prop,∀n s',I n s'↔(∃(i c1:Nat) (z:Int) (M1:Mem) (u:List (Option V)),n=l.length-i∧i≤l.length∧s'= .mk ((aE9 u (.i .i64 m) (.p c 0) (.i .i64 z) (.i .i64 (i:Int)))) [] M1 c1∧Gr (c+1) X c1 M1∧(0≤z∧z≤1125899906842624∧(z≤m→z=((l.length+((l.take i).map HS).sum:Nat):Int)))):=⟨fun n s'=>_,fun _ _=>Iff.rfl⟩
 refine bw I ?_ l.length _ ((hI _ _).2 ⟨0,_,_,_,(X1 (G2 (X2 (G2 (bD (bK (bB (X8 [])))))))),rfl,ax _,rfl,Gr.refl okX,by omega,by omega,fun _=>by rw[List.take_zero];rfl⟩)
 intro n s' hIs
 obtain⟨i,c1,z,M1,u,rfl,hi,rfl,gr1,z0,zB,zE⟩:=(hI _ _).1 hIs
 clear hIs
 have hle1:=gr1.le
 have k0:load1 F M1 c 0=some v:=(gr1.load1 (by omega) _).trans k0
 by_cases hlt:i<l.length
 ·have q8:cz .add (.i .i64 (i:Int)) (.i .i64 1)=some (.i .i64 ((i+1:Nat):Int)):=by rw[aX _ _ (by omega) (by omega)];simp
  have d1:decide ((i:Int)<(l.length:Int))=true:=ah (by omega);by_cases hz:z≤m
  ·have d2:decide (z≤m)=true:=ah hz;have ok1:=gr1.ok okX;obtain⟨b1,o1,e1,hb1,ia1,ld1,el1,r1⟩:=cg.at (hl.grow gr1) (by decide) i hlt;have ia1:=ia1 .i64;have hov1:over [V.i .i64 0,.b false,.l0,.l0,.b false,.l0] 0 e1=e1:=tS el1.symm;have hf1:flatten (V.g e1)=e1:=rfl;have ha1:=r1.all;have g1:Gr c1 M1 (c1+1) (M1.set c1 (af 39 e1)):=(Gr.refl ok1).set c1 _ (aj _) (ay _) (aH _);have ma:(M1.set c1 (af 39 e1)).get c1=some (af 39 e1):=am _ _ _;have hp:=P1.grow g1 _ _ r1;obtain⟨vi,vo,vc,he,w1,w2,w3⟩:=hp;have A5:load1 F (M1.set c1 (af 39 e1)) c1 5=some vc:=(au ma 5).trans (by rw[he];rfl);have A2:load1 F (M1.set c1 (af 39 e1)) c1 2=some vi:=(au ma 2).trans (by rw[he];rfl);have A3:load1 F (M1.set c1 (af 39 e1)) c1 3=some vo:=(au ma 3).trans (by rw[he];rfl);have n5:=w3.len;have n2:=w1.len;have n3:=w2.len;have hBi:=B2 _ (List.getElem_mem hlt);obtain⟨D1,D2,D3,D4⟩:=hBi;have hsum:=ui HS l i hlt;have zE':=zE hz;have hz1:=aX z (l[i].cmds.length:Int) (by omega) (by omega);have hz2:=aX (z+(l[i].cmds.length:Int)) (l[i].inp.length:Int) (by omega) (by omega);have hz3:=aX (z+(l[i].cmds.length:Int)+(l[i].inp.length:Int)) (l[i].out.length:Int) (by omega) (by omega);simp only[WX,Nat.reduceAdd,Nat.reduceLeDiff,aG9,aH0,aH1,aH2,U4,aB,k0,n1,d1,d2,ia1,ld1,hov1,hf1,ha1,el1,A5,A2,A3,n5,n2,n3,hz1,hz2,hz3];refine bC1 Φ h37 (s0:=l.length+((l.take i).map HS).sum+l[i].cmds.length+l[i].inp.length+l[i].out.length) (g1.ok ok1) (P1.grow g1 _ _ r1) ma (ay _) m0 m1 ⟨D1,D2,D3,D4⟩ ⟨by omega,by omega,fun hle=>by omega⟩ (X1 (G2 (X2 (G2 (G1 (bD (bK (bB (X4 (X2 (X1 []))))))))))) _ ?_;intro u z' M' c' g ⟨t0,tB,tE⟩;simp only[WX,Vy,q8];refine⟨l.length-(i+1),by omega,(hI _ _).2 ⟨i+1,_,_,_,(X1 (G2 (X2 (G2 (bD (bK (bB (X8 [])))))))),rfl,hlt,rfl,gr1.trans (g1.trans g),t0,tB,fun hle=>?_⟩⟩;rw[tE hle,hsum];unfold HS;omega
  ·have d2:decide (z≤m)=false:=ag hz;have dr:decide (m<z)=true:=ah (by omega);simp only[WX,Vy,k0,n1,d1,d2,dr];exact⟨⟨_,rfl,fun h=>by cases h⟩,gX.trans gr1⟩
 ·obtain rfl:i=l.length:=by omega
  have d1:decide ((l.length:Int)<(l.length:Int))=false:=ag (by omega);simp only[WX,Vy,k0,n1,d1];refine⟨⟨_,rfl,fun h=>?_⟩,gX.trans gr1⟩;have hzm:z≤m:=by
   by_cases hh:z≤m
   ·exact hh
   ·exact absurd h (by rw[ah (by omega)];decide)
  have:=zE hzm;rw[List.take_length]at this;unfold S8;omega
abbrev bH8(u:List (Option V))(x1 x2 x3 x4 x5 x6 x7:V):T:=(.n (.n (.n (.n (aq u 63 31 95 15 79 47 111) (some x7) (aq u 71 39 103 23 87 55 119)) (some x3) (.n (aq u 67 35 99 19 83 51 115) (uO u 11) (aq u 75 43 107 27 91 59 123))) (some x1) (.n (.n (aq u 65 33 97 17 81 49 113) (uO u 9) (aq u 73 41 105 25 89 57 121)) (some x5) (.n (aq u 69 37 101 21 85 53 117) (uO u 13) (aq u 77 45 109 29 93 61 125)))) (uO u 0) (.n (.n (.n (aq u 64 32 96 16 80 48 112) (uO u 8) (aq u 72 40 104 24 88 56 120)) (some x4) (.n (aq u 68 36 100 20 84 52 116) (uO u 12) (aq u 76 44 108 28 92 60 124))) (some x2) (.n (.n (aq u 66 34 98 18 82 50 114) (uO u 10) (aq u 74 42 106 26 90 58 122)) (some x6) (.n (aq u 70 38 102 22 86 54 118) (uO u 14) (aq u 78 46 110 30 94 62 126)))))
abbrev aF1(u:List (Option V))(x1 x2 x3 x4 x5 x6 x7 x8:V):T:=(.n (.n (.n (.n (aq u 63 31 95 15 79 47 111) (some x7) (aq u 71 39 103 23 87 55 119)) (some x3) (.n (aq u 67 35 99 19 83 51 115) (uO u 11) (aq u 75 43 107 27 91 59 123))) (some x1) (.n (.n (aq u 65 33 97 17 81 49 113) (uO u 9) (aq u 73 41 105 25 89 57 121)) (some x5) (.n (aq u 69 37 101 21 85 53 117) (uO u 13) (aq u 77 45 109 29 93 61 125)))) (uO u 0) (.n (.n (.n (aq u 64 32 96 16 80 48 112) (some x8) (aq u 72 40 104 24 88 56 120)) (some x4) (.n (aq u 68 36 100 20 84 52 116) (uO u 12) (aq u 76 44 108 28 92 60 124))) (some x2) (.n (.n (aq u 66 34 98 18 82 50 114) (uO u 10) (aq u 74 42 106 26 90 58 122)) (some x6) (.n (aq u 70 38 102 22 86 54 118) (uO u 14) (aq u 78 46 110 30 94 62 126)))))
abbrev aF2(u:List (Option V))(x1 x2 x3 x4:V):T:=(.n (.n (.n (.n (aq u 63 31 95 15 79 47 111) (uO u 7) (aq u 71 39 103 23 87 55 119)) (some x3) (.n (aq u 67 35 99 19 83 51 115) (uO u 11) (aq u 75 43 107 27 91 59 123))) (some x1) (.n (.n (aq u 65 33 97 17 81 49 113) (uO u 9) (aq u 73 41 105 25 89 57 121)) (uO u 5) (.n (aq u 69 37 101 21 85 53 117) (uO u 13) (aq u 77 45 109 29 93 61 125)))) (uO u 0) (.n (.n (.n (aq u 64 32 96 16 80 48 112) (uO u 8) (aq u 72 40 104 24 88 56 120)) (some x4) (.n (aq u 68 36 100 20 84 52 116) (uO u 12) (aq u 76 44 108 28 92 60 124))) (some x2) (.n (.n (aq u 66 34 98 18 82 50 114) (uO u 10) (aq u 74 42 106 26 90 58 122)) (uO u 6) (.n (aq u 70 38 102 22 86 54 118) (uO u 14) (aq u 78 46 110 30 94 62 126)))))
abbrev bH9(u:List (Option V))(x1 x2 x3 x4 x5:V):T:=(.n (.n (.n (.n (aq u 63 31 95 15 79 47 111) (uO u 7) (aq u 71 39 103 23 87 55 119)) (some x3) (.n (aq u 67 35 99 19 83 51 115) (uO u 11) (aq u 75 43 107 27 91 59 123))) (some x1) (.n (.n (aq u 65 33 97 17 81 49 113) (uO u 9) (aq u 73 41 105 25 89 57 121)) (some x5) (.n (aq u 69 37 101 21 85 53 117) (uO u 13) (aq u 77 45 109 29 93 61 125)))) (uO u 0) (.n (.n (.n (aq u 64 32 96 16 80 48 112) (uO u 8) (aq u 72 40 104 24 88 56 120)) (some x4) (.n (aq u 68 36 100 20 84 52 116) (uO u 12) (aq u 76 44 108 28 92 60 124))) (some x2) (.n (.n (aq u 66 34 98 18 82 50 114) (uO u 10) (aq u 74 42 106 26 90 58 122)) (uO u 6) (.n (aq u 70 38 102 22 86 54 118) (uO u 14) (aq u 78 46 110 30 94 62 126)))))
abbrev bI0(u:List (Option V))(x1 x2 x3 x4 x5 x6:V):T:=(.n (.n (.n (.n (aq u 63 31 95 15 79 47 111) (uO u 7) (aq u 71 39 103 23 87 55 119)) (some x3) (.n (aq u 67 35 99 19 83 51 115) (uO u 11) (aq u 75 43 107 27 91 59 123))) (some x1) (.n (.n (aq u 65 33 97 17 81 49 113) (uO u 9) (aq u 73 41 105 25 89 57 121)) (some x5) (.n (aq u 69 37 101 21 85 53 117) (uO u 13) (aq u 77 45 109 29 93 61 125)))) (uO u 0) (.n (.n (.n (aq u 64 32 96 16 80 48 112) (uO u 8) (aq u 72 40 104 24 88 56 120)) (some x4) (.n (aq u 68 36 100 20 84 52 116) (uO u 12) (aq u 76 44 108 28 92 60 124))) (some x2) (.n (.n (aq u 66 34 98 18 82 50 114) (uO u 10) (aq u 74 42 106 26 90 58 122)) (some x6) (.n (aq u 70 38 102 22 86 54 118) (uO u 14) (aq u 78 46 110 30 94 62 126)))))
def ac3:CC:=(.reg [(aa a1 (.bx 36 1 z0)),(aa a2 (.al 36 [.l0]))])
def ac4:CC:=(.reg [(qq a3 (.fa 0 z1)),(qq a4 (.ld1 z3)),(ee a5 (.app 64 2 24 (.c .l0) z4)),(qq a6 (.bld [.l0] [(0,1,z5)])),(ez (.st 1 z2 z6))])
def c38:CF:= .mk 3 [.cn a2 1] (.seq ac3 (.seq ac4 .ret))
theorem e38(v0:V):bz 3 [v0]=(.n re (some v0) re):=rfl
def B38:=ai @e38 (ai (wu ac3.eq_1) (wu ac4.eq_1))
def YZ:CC:=(.reg [(aa a1 (.bx 25 1 z0)),(aa a2 (.al 25 [.l0]))])
def aH4:=wu YZ.eq_1
def Z0:CC:=(.reg [(qq a4 (.mv (x6 0)))])
def aH5:=wu Z0.eq_1
def Z1:CC:=(.reg [(qq a9 (.mv z4)),(qq dT (.fa 0 z1)),(qq eP (.ld1 ft)),(qq fg (.ln .slice dL)),(qq eQ (.bi .lss z9 eN))])
def aH6:=wu Z1.eq_1
def Z2:CC:=(.reg [(qq fu (.fa 0 z1)),(qq gL (.ld1 iA)),(qq fy (.mv z4)),(qq jr (.iaS 6 iB iC)),(qq gH (.ldn 6 l8)),(aa a5 (.al 39 [(.i .i64 0),(.b false),.l0,.l0,(.b false),.l0])),(ez (.st 6 z5 la))])
def aH7:=wu Z2.eq_1
def Z3:CC:=(.dreg 10 [(0,0,(qq fY (.fa 2 z5))),(1,1,(qq jt (.ldn 1 kL))),(3,0,(qq jX (.fa 3 z5))),(4,8,(qq gv (.ldn 1 kM))),(2,3,(ee gU (.call 38 [lA]))),(6,31,(qq gV (.fa 2 z5))),(5,31,(ee kd (.call 38 [lB]))),(7,127,(ez (.st 1 nn lg))),(8,255,(qq lE (.fa 3 z5))),(9,511,(ez (.st 1 nK nl)))])
def aH8:=wu Z3.eq_1
def Z4:CC:=(.reg [(qq ip (.fa 5 z5)),(ez (.st 1 ot (.c .l0)))])
def aH9:=wu Z4.eq_1
def Z5:CC:=(.reg [(qq a6 (.mv (x6 0)))])
def aI0:=wu Z5.eq_1
def Z6:CC:=(.reg [(qq ke (.mv z6)),(qq lj (.fa 0 z1)),(qq np (.ld1 pq)),(qq nM (.mv z4)),(qq jY (.iaS 6 pz ru)),(qq jZ (.fa 5 rv)),(qq nN (.ld1 rx)),(qq k8 (.ln .slice sC)),(qq nq (.bi .lss oz qF))])
def Uf:=wu Z6.eq_1
def Z7:CC:=(.seq Z6 (.cond rU .skip (.exit 2)))
def Ug:=wu Z7.eq_1
def Lf:CC:=(.reg [(aa a7 (.al 42 [.l0]))])
def U6:=wu Lf.eq_1
def Lg:CC:=(.reg [(qq a8 (.mv (x6 0)))])
def U7:=wu Lg.eq_1
def Lh:CC:=(.reg [(qq js (.mv z8)),(qq lF (.fa 0 z1)),(qq pD (.ld1 sE)),(qq ng (.mv z4)),(qq pE (.iaS 6 sF rW)),(qq lG (.fa 5 rX)),(qq pF (.ld1 vm)),(qq kQ (.mv z6)),(qq nh (.iaS 1 sG uE)),(qq px (.fa 0 vn)),(qq rA (.ld1 vp)),(qq oD (.ln .slice uM)),(qq sP (.bi .lss ry vq))])
def b76:=wu Lh.eq_1
def Li:CC:=(.seq Lh (.cond wM .skip (.exit 4)))
def b77:=wu Li.eq_1
def Lj:CC:=(.dreg 20 [(0,0,(qq uI (.fa 0 z7))),(1,1,(qq vw (.ld1 wN))),(2,0,(qq vz (.fa 0 z1))),(3,4,(qq rZ (.ld1 Bd))),(4,0,(qq vA (.mv z4))),(5,28,(qq s5 (.iaS 6 Be Bf))),(6,60,(qq sQ (.fa 5 Bz))),(7,124,(qq ou (.ld1 Bg))),(8,0,(qq vC (.mv z6))),(9,508,(qq uT (.iaS 1 zm BA))),(10,1020,(qq oE (.fa 0 zb))),(11,2044,(qq qJ (.ld1 zn))),(12,0,(qq uU (.mv z8))),(13,8188,(qq uV (.iaS 1 wO zo))),(14,16380,(qq vD (.ldn 1 zp))),(15,32764,(ee py (.call 38 [BB]))),(16,65532,(aa vE (.bsl 36 1 1 [.l0] [(0,Bh)]))),(17,131071,(ee fA (.app 36 1 24 Bx BC))),(18,262143,(qq qK (.fa 0 z7))),(19,524287,(ez (.st 1 BD uF)))])
def b78:=wu Lj.eq_1
def Lk:CC:=(.reg [(qq pG (.mv z8)),(qq pH (.bi .add za (x6 1))),(qq a8 (.mv zl))])
def b79:=wu Lk.eq_1
def Ce:CC:=(.block 4 (.loop (.seq Li (.seq (.block 5 Lj) Lk))))
def U8:=wu Ce.eq_1
def Ll:CC:=(.reg [(qq uJ (.fa 5 z5)),(qq wW (.ld1 BE)),(qq zc (.ldn 1 z7)),(aa zd (.bsl 42 1 1 [.l0] [(0,EK)])),(ee ze (.app 42 1 24 BF EL)),(qq vF (.fa 5 z5)),(ez (.st 1 GB EM))])
def b80:=wu Ll.eq_1
def Lm:CC:=(.reg [(qq mN (.mv z6)),(qq pC (.bi .add rV (x6 1))),(qq a6 (.mv sD))])
def b81:=wu Lm.eq_1
def Ln:CC:=(.seq (.block 3 (.seq Lf (.seq (.seq Lg Ce) Ll))) Lm)
def U9:=wu Ln.eq_1
def Lo:CC:=(.reg [(qq zx (.fa 0 z3)),(qq pI (.ld1 GC)),(qq uW (.ldn 6 z5)),(aa BJ (.bsl 39 1 6 [(.i .i64 0),(.b false),.l0,.l0,(.b false),.l0] [(0,GE)])),(ee wX (.app 39 6 96 GD GF)),(qq BK (.fa 0 z3)),(ez (.st 1 IK GG))])
def b82:=wu Lo.eq_1
def Cf:CC:=(.seq (.seq Z5 (.block 2 (.loop (.seq Z7 Ln)))) Lo)
def Ua:=wu Cf.eq_1
def Lq:CC:=(.reg [(qq fh (.mv z4)),(qq dM (.bi .add gb (x6 1))),(qq a4 (.mv gK))])
def b83:=wu Lq.eq_1
def Lr:CC:=(.seq (.block 1 (.seq Z2 (.seq Z3 (.seq Z4 Cf)))) Lq)
def Ub:=wu Lr.eq_1
def Ls:CC:=(.seq (.seq Z1 (.cond ed .skip (.exit 0))) Lr)
def Uc:=wu Ls.eq_1
def Lt:CC:=(.reg [(qq BL (.ldn 1 z3)),(ez (.st 1 z2 GH))])
def b84:=wu Lt.eq_1
def Lu:CC:=(.seq (.seq Z0 (.block 0 (.loop Ls))) (.seq Lt .ret))
def Ud:=wu Lu.eq_1
def Lv:CC:=(.seq (.reg [(aa a3 (.al 25 [.l0]))]) Lu)
def Ue:=wu Lv.eq_1
def c15:CF:= .mk 7 [.cn a2 1] (.seq YZ Lv)
theorem e15(v0:V):bz 7 [v0]=(.n vg (some v0) vg):=rfl
def Yo:=ai @e15 (ai @aH4 (ai @aH5 (ai @aH6 (ai @aH7 (ai @aH8 (ai @aH9 (ai @aI0 (ai @Uf (ai @Ug (ai @U6 (ai @U7 (ai @b76 (ai @b77 (ai @b78 (ai @b79 (ai @U8 (ai @b80 (ai @b81 (ai @U9 (ai @b82 (ai @Ua (ai @b83 (ai @Ub (ai @Uc (ai @b84 (ai @Ud (@Ue)))))))))))))))))))))))))))
def rY{α:Type}(R:Mem→Nat→List V→α→Prop)(M:Mem)(c0 c ty sz:Nat)(v:V)(l:List α):Prop:=
 ∃b es,bm M c0 c b ty sz v es∧es.length=l.length∧l.length≤1000000∧ ∀i (h:i<es.length) (h':i<l.length),∃lo hi,c0≤lo∧lo≤hi∧hi≤c∧(b<lo∨hi≤b)∧ ∀M',(∀x,lo≤x→x<hi→M'.get x=M.get x)→R M' hi es[i] l[i]
theorem rY.nil{α:Type}{R:Mem→Nat→List V→α→Prop}{M:Mem}{c0 c ty sz:Nat}:rY R M c0 c ty sz .l0 []:=⟨0,[],bm.nil,rfl,ax _,fun i h=>(by cases h)⟩
theorem rY.keep{α:Type}{R:Mem→Nat→List V→α→Prop}{M M':Mem}{c0 c c' ty sz:Nat}{v:V}{l:List α}(h:rY R M c0 c ty sz v l)(hc:c≤c')(hM:∀x,c0≤x→x<c→M'.get x=M.get x):rY R M' c0 c' ty sz v l:=by
 obtain⟨b,es,hA,q1,q2,q3⟩:=h
 refine⟨b,es,?_,q1,q2,fun i hi hi'=>?_⟩
 ·rcases hA with⟨a0,a1|⟨a1,a2,a3,a4⟩⟩
  ·exact⟨a0,.inl a1⟩
  ·exact⟨a0,.inr ⟨a1,by omega,a3,(hM b a1 a2).trans a4⟩⟩
 ·obtain⟨lo,hi2,e1,e2,e3,e4,e5⟩:=q3 i hi hi';exact⟨lo,hi2,e1,e2,by omega,e4,fun M2 h2=>e5 M2 fun x a1 a2=>(h2 x a1 a2).trans (hM x (by omega) (by omega))⟩
theorem rY.ls{α:Type}{F:RO}{R:Mem→Nat→List V→α→Prop}{M:Mem}{c0 c ty sz:Nat}{v:V}{l:List α}(h:rY R M c0 c ty sz v l)(hR:∀M c c' e a,c≤c'→R M c e a→R M c' e a):cg F R sz M c v l:=by
 obtain⟨b,es,hA,q1,q2,q3⟩:=h
 refine⟨es,hA.sl,q1,(show l.length≤9223372036854775807 by omega),fun i hi hi'=>?_⟩
 obtain⟨lo,hi2,e1,e2,e3,e4,e5⟩:=q3 i hi hi'
 exact hR _ _ _ _ _ e3 (e5 M fun _ _ _=>rfl)
theorem rY.one{α:Type}{R:Mem→Nat→List V→α→Prop}{M:Mem}{c0 c ty sz:Nat}{v:V}{l:List α}(h:rY R M c0 c ty sz v l):bO v=true∧flatten v=[v]∧aL [v]=true:=by
 obtain⟨b,es,hA,_⟩:=h
 exact mZ (hA.sl (F:=[]))
theorem rY.push{α:Type}{F:RO}{R:Mem→Nat→List V→α→Prop}{M1 M:Mem}{c0 c1 c lo hi ty sz bytes:Nat}{v y:V}{l:List α}{e:List V}{a:α}(h:rY R M1 c0 c1 ty sz v l)(hc0:c0≤c1)(hc:c1≤c)(hM:∀x,c0≤x→x<c1→M.get x=M1.get x)(ok:cK F M c)(hsz:0<sz)(hy:cA F M c sz y [e])(h1:aL e=true)(hlo:c1≤lo)(hlh:lo≤hi)(hhi:hi≤c)(hR:∀M',(∀x,lo≤x→x<hi→M'.get x=M.get x)→R M' hi e a)(hl:l.length≤900000)(hb:bytes≤100):
 lw (rB F M c ty sz bytes v y) fun v' M' c'=>rY R M' c0 c' ty sz v' (l++[a])∧cK F M' c'∧c≤c'∧(∀x,x<c0→M'.get x=M.get x)∧(∀x,c1≤x→x<c→M'.get x=M.get x):=by
 obtain⟨b,es,hA,q1,q2,q3⟩:=h
 obtain⟨b1,hA1,hb1⟩:∃b1,bm M c0 c b1 ty sz v es∧((b1=b∧c0≤b∧b<c1∧M.get b=some (qo ty es.flatten))∨(es=[]∧c≤b1)):=by
  rcases hA with⟨a0,⟨a1,a2⟩|⟨a1,a2,a3,a4⟩⟩
  ·exact⟨c,⟨a0,.inl ⟨a1,a2⟩⟩,.inr ⟨a1,aj _⟩⟩
  ·have:=(hM b a1 a2).trans a4;exact⟨b,⟨a0,.inr ⟨a1,by omega,a3,this⟩⟩,.inl ⟨rfl,a1,a2,this⟩⟩
 have gA:Gr c0 M c M:=⟨by omega,fun _ _=>rfl,ok.hiM⟩
 refine(hJ (bytes:=bytes) hA1 gA hsz hy (by show aL ([e].flatten)=true;rw[List.flatten_cons,List.flatten_nil,bF];exact h1) (fP (bc (Nat.mul_le_mul (show 3*(es.length+[e].length)+2000≤2800000 by rw[List.length_singleton];omega) hb) (by decide)) (by rw[List.length_singleton];omega))).mono ?_
 rintro v' M' c' ⟨b',hA',g',hle,hf,hb'⟩
 have gx:jq (fun x=>x=b1) c M c' M':=⟨hle,fun x a b=>hf x a b,g'.new⟩
 have okM:cK F M' c':=gx.ok ok fun x a e=>by
  rcases hb1 with⟨rfl,_,_,hm⟩|⟨_,a2⟩
  ·rw[e];exact⟨_,hm⟩
  ·omega
 refine⟨⟨b',es++[e],hA',by rw[aG,aG,q1];rfl,by rw[aG,List.length_singleton];omega,fun i hi1 hi2=>?_⟩,okM,hle,fun x hx=>g'.old x hx,fun x x1 x2=>hf x x2 (by rcases hb1 with⟨rfl,_,_,_⟩|⟨_,a2⟩<;>omega)⟩
 by_cases hie:i<es.length
 ·obtain⟨lo',hi',e1,e2,e3,e4,e5⟩:=q3 i hie (by omega);have hbl:b1<lo'∨hi'≤b1:=by rcases hb1 with⟨rfl,_,_⟩|⟨_,a2⟩<;>omega
  have hbl':b'<lo'∨hi'≤b':=by rcases hb' with rfl|h<;>omega
  refine⟨lo',hi',e1,e2,by omega,hbl',fun M2 h2=>?_⟩;rw[eu hie,eu (by omega)];exact e5 M2 fun x x1 x2=>(h2 x x1 x2).trans ((hf x (by omega) (by omega)).trans (hM x (by omega) (by omega)))
 ·rw[aG,List.length_singleton]at hi1;obtain rfl:i=es.length:=by omega
  have hbl':b'<lo∨hi≤b':=by
   rcases hb' with rfl|h
   ·rcases hb1 with⟨rfl,_,_,_⟩|⟨_,a2⟩<;>omega
   ·omega
  refine⟨lo,hi,by omega,hlh,by omega,hbl',fun M2 h2=>?_⟩;have hnb:∀x,lo≤x→x<hi→x≠b1:=fun x x1 x2=>by rcases hb1 with⟨rfl,_,_,_⟩|⟨_,a2⟩<;>omega
  have:=hR M2 fun x x1 x2=>(h2 x x1 x2).trans (hf x (by omega) (hnb x x1 x2));rw[ej (aj _)];rw[ej (by omega)];simp only[q1,Nat.sub_self,List.getElem_cons_zero];exact this
theorem C1.upc{F:RO}{M:Mem}{c c':Nat}(hc:c≤c')(e:List V)(l:eF)(h:C1 F M c e l):C1 F M c' e l:=by obtain⟨x,h1,h2⟩:=h;exact⟨x,h1,cg.imp h2 hc (W1.upc hc)⟩
theorem P1.upc{F:RO}{M:Mem}{c c':Nat}(hc:c≤c')(e:List V)(p:dD)(h:P1 F M c e p):P1 F M c' e p:=by
 obtain⟨vi,vo,vc,h1,h2,h3,h4⟩:=h;exact⟨vi,vo,vc,h1,h2.upc hc,h3.upc hc,cg.imp h4 hc (C1.upc hc)⟩
theorem Fz:∀(w:List Pc),aL (jm w).flatten=true
 |[]=>rfl
 |p::w=>by
  show aL (ve p++(jm w).flatten)=true;rw[show ve p=[sV p.1,.b p.2]from rfl];exact Fz w
theorem w38(Φ:Nat→Option CF)(h:Φ 38=some c38){F:RO}{M:Mem}{c:Nat}(ok:cK F M c){v:V}{w:List Pc}(hw:dw F M c v w)(hl:w.length≤900000):
 Calls Φ F 38 [.g [v]] M c fun r M' c'=>∃v',r= .g [v']∧Gr c M c' M'∧ ∀(F':RO) M2,(∀x,c≤x→x<c'→M2.get x=M'.get x)→dw F' M2 c' v' w:=by
 refine aN h ?_
 obtain⟨y1,y2,y3⟩:=hw.one
 have hG:∀v,flatten (V.g [v])=[v]:=fun _=>rfl
 have gX:=((Gr.refl ok).set c (af 36 [v]) (aj _) (ay _) (aH _)).set (c+1) (af 36 [.l0]) (by omega) (by omega) (aH _)
 have mm:((M.set c (af 36 [v])).set (c+1) (af 36 [.l0])).get c=some (af 36 [v]):=by rw[ak _ _ (by omega),am]
 have mm1:((M.set c (af 36 [v])).set (c+1) (af 36 [.l0])).get (c+1)=some (af 36 [.l0]):=am _ _ _
 have k0:load1 F ((M.set c (af 36 [v])).set (c+1) (af 36 [.l0])) c 0=some v:=au mm 0
 have hX:=hw.grow gX
 simp only[WX,Nat.reduceAdd,B38,hG,y3,k0]
 generalize(M.set c (af 36 [v])).set (c+1) (af 36 [.l0])=X at gX k0 hX mm mm1⊢
 have okX:=gX.ok ok
 refine aD ((hJ (bytes:=24) (bm.nil (c0:=c+2) (b:=c+2)) (Gr.refl okX) (by decide) hX.1 (Fz w) (fP (bc (Nat.mul_le_mul (show 3*(([]:List (List V)).length+(jm w).length)+2000≤2800000 by rw[dv,aM];omega) (aj 24)) (by decide)) (by rw[dv,aM];omega))).mono ?_)
 rintro v' M' c' ⟨b',hA,g,hle,hf,hb⟩
 rw[List.nil_append]at hA
 obtain⟨k1,k2,k3⟩:=mZ (hA.sl (F:=F))
 have m1':M'.get (c+1)=some (af 36 [.l0]):=(g.old _ (by omega)).trans mm1
 have st:=aJ m1' 0 [v'] (by simp) k3
 have ho:over [V.l0] 0 [v']=[v']:=rfl
 rw[ho]at st
 have ld:loadN F (M'.set (c+1) (af 36 [v'])) (c+1) 0 1=some [v']:=aY (am _ _ _) 1 rfl
 have gF:=(gX.trans g).set (c+1) (af 36 [v']) (by omega) (by omega) (aj _)
 have fr:=(gF.ok ok).free
 simp only[WX,Nat.reduceLeDiff,k2,st,ld]
 refine⟨v',rfl,gF,fun F' M2 h2=>⟨?_,hw.2⟩⟩
 rcases hA with⟨a0,a1|⟨a1,a2,a3,a4⟩⟩
 ·exact(show bm M2 (c+2) c' b' 64 2 v' (jm w)from⟨a0,.inl a1⟩).sl
 ·exact(show bm M2 (c+2) c' b' 64 2 v' (jm w)from⟨a0,.inr ⟨a1,a2,a3,(h2 b' (by omega) a2).trans ((ak _ _ (by omega)).trans a4)⟩⟩).sl
theorem Eg{α:Type}{l:List α}{j:Nat}(h:j<l.length):l.take (j+1)=l.take j++[l[j]]:=by rw[List.take_add_one,List.getElem?_eq_getElem h];rfl
theorem bY4(Φ:Nat→Option CF)(h38:Φ 38=some c38){F:RO}{M M0:Mem}{c c0 pb cb c2 i k bp op:Nat}{v vc:V}{cs:List (List (List Pc))}(ok:cK F M c2)(hcb:cb<c2)(hc:c<cb)(A0:load1 F M c 0=some v)(ia0:fF 6 v (.i .i64 (i:Int))=some (.p bp op))(hbp:bp<cb)(A5:load1 F M bp (op+5)=some vc)(hk:k<cs.length)(g0:Gr c0 M0 c2 M)(h0:c0≤cb)(hcs:jg F M0 c0 vc cs)(mc:M.get cb=some (af 42 [.l0]))(hL:cs[k].length≤900000)(hW:∀w∈cs[k],w.length≤900000)(u:List (Option V))(Q:Ex→St→Prop)
 (hQ:∀(u:List (Option V)) (wv:V) M' c',Gr cb M c' M'→cK F M' c'→M'.get cb=some (af 42 [wv])→rY (W1 F) M' (cb+1) c' 36 1 wv cs[k]→Q .nrm (.mk ((bH8 u (.p c 0) (.p (c+1) 0) (.p (c+2) 0) (.i .i64 (i:Int)) (.p pb 0) (.i .i64 (k:Int)) (.p cb 0))) [] M' c')):
 Wp Ce (K Φ none 15 F) (.mk ((aF1 u (.p c 0) (.p (c+1) 0) (.p (c+2) 0) (.i .i64 (i:Int)) (.p pb 0) (.i .i64 (k:Int)) (.p cb 0) (.i .i64 0))) [] M c2) Q:=by
 obtain⟨b,o,x,hbx,ia,ld,_,w⟩:=cg.at1 hcs k hk
 have ia:=ia .i64
 have n1:=w.len
 have mx1:=w.max
 generalize cs[k]=wl at w n1 mx1 hL hW hQ
 simp only[WX,U8]
 obtain⟨I,hI⟩:∃I:Nat→St→Prop,∀n s',I n s'↔(∃(j c3:Nat) (wv:V) (M1:Mem) (u:List (Option V)),n=wl.length-j∧j≤wl.length∧s'= .mk ((aF1 u (.p c 0) (.p (c+1) 0) (.p (c+2) 0) (.i .i64 (i:Int)) (.p pb 0) (.i .i64 (k:Int)) (.p cb 0) (.i .i64 (j:Int)))) [] M1 c3∧Gr cb M c3 M1∧c2≤c3∧cK F M1 c3∧M1.get cb=some (af 42 [wv])∧rY (W1 F) M1 (cb+1) c3 36 1 wv (wl.take j)):=⟨fun n s'=>_,fun _ _=>Iff.rfl⟩
 refine bw I ?_ wl.length _ ((hI _ _).2 ⟨0,_,_,_,(X1 (G8 (bD (bK (bB (X4 (X2 []))))))),rfl,ax _,rfl,⟨by omega,fun _ _=>rfl,ok.hiM⟩,aj _,ok,mc,by rw[List.take_zero];exact rY.nil⟩)
 intro n s' hIs
 obtain⟨j,c3,wv,M1,u,rfl,hj,rfl,gr1,hle,ok1,mc1,hA⟩:=(hI _ _).1 hIs
 clear hIs
 have A0':load1 F M1 c 0=some v:=(gr1.load1 (by omega) _).trans A0
 have A5':load1 F M1 bp (op+5)=some vc:=(gr1.load1 hbp _).trans A5
 have g0':Gr c0 M0 c3 M1:=⟨by omega,fun x hx=>(gr1.old x (by omega)).trans (g0.old x hx),ok1.hiM⟩
 have ld':load1 F M1 b o=some x:=(g0'.load1 hbx _).trans ld
 by_cases hlt:j<wl.length
 ·have q8:cz .add (.i .i64 (j:Int)) (.i .i64 1)=some (.i .i64 ((j+1:Nat):Int)):=by rw[aX _ _ (by omega) (by omega)];simp
  have d1:decide ((j:Int)<(wl.length:Int))=true:=ah (by omega);obtain⟨b1,o1,y,hb1,ia1,_,ld1,w1⟩:=cg.at1 (w.grow g0') j hlt;have ia1:=ia1 .i64;have k7:load1 F M1 cb 0=some wv:=au mc1 0;have hfr:=ok1.free;simp only[WX,Yo,aB,A0',A5',ia0,ia,ld',n1,d1,ia1,ld1,k7];have g20:Gr c3 M1 (c3+20) M1:=(Gr.refl ok1).up (by omega);have ok20:=g20.ok ok1;refine nJ _ _ _ _ _ _ _ _ _ _ _ ok20 ?_;intro F1 N1 okn hlk;refine(show lw (cT (iu Φ) F1 38 [.g [y]] N1 (c3+20) (Φ 38)) _ from(w38 Φ h38 okn ((w1.grow g20).lk hlk) (hW _ (List.getElem_mem hlt))).mono ?_);rintro r N2 c5 ⟨v',rfl,gN,hW2⟩;refine⟨gN,fun M6 g6 hM6=>?_⟩;have hle6:=g6.le;obtain⟨z1,z2,z3⟩:=(hW2 F N2 fun _ _ _=>rfl).one;have lk:(look F M6 (c3+16)).isNone=true:=by rw[cH (g6.old _ (by omega)),ok1.look (by omega)];rfl
  have hG:∀v,flatten (V.g [v])=[v]:=fun _=>rfl;have rf:bU (c3+16) [(14,b1),(11,b),(7,bp),(3,c),(1,cb)]=true:=by rw[aU _ _ _ _ (by omega),aU _ _ _ _ (by omega),aU _ _ _ _ (by omega),aU _ _ _ _ (by omega),aU _ _ _ _ (by omega),cF]
  simp only[WX,Nat.reducePow,Nat.reduceDiv,Nat.reduceMod,Nat.reduceBEq,lk,rf,uw,mj,rq,hG,z1];have gZ:Gr c3 M1 c5 (M6.set (c3+16) (d7 [V.l0] 36 [v'])):=⟨by omega,fun x hx=>(ak _ _ (by omega)).trans (g6.old x (by omega)),fun x hx=>(ak _ _ (by omega)).trans (g6.new x hx)⟩
  have hys:cA F (M6.set (c3+16) (d7 [V.l0] 36 [v'])) c5 1 (.l (c3+16) 0 1 1) [[v']]:=J0 (d:=[V.l0]) (ty:=36) (by rw[am];rfl) (by omega) (fun e he=>by rw[List.mem_singleton]at he;subst he;rfl) rfl;refine du ((rY.push (R:=W1 F) (lo:=c3+20) (hi:=c5) (a:=wl[j]) hA (by omega) (by omega) (fun x x1 x2=>gZ.old x x2) (gZ.ok ok1) (by decide) hys z3 (by omega) (by omega) (aj _) (fun M' hM'=>⟨v',rfl,hW2 F M' fun x x1 x2=>(hM' x x1 x2).trans ((ak _ _ (by omega)).trans (hM6 x x1))⟩) (by rw[List.length_take];omega) (by decide)).mono ?_);rintro wv' M8 c8 ⟨hA8,ok8,hle8,f1,f2⟩;obtain⟨k1,k2,k3⟩:=hA8.one;have mc8:M8.get cb=some (af 42 [wv]):=(f1 cb (by omega)).trans ((gZ.old cb (by omega)).trans mc1);have st:=aJ mc8 0 [wv'] (by simp) k3;have ho:over [wv] 0 [wv']=[wv']:=rfl;rw[ho]at st;have Sb:cK F (M8.set cb (af 42 [wv'])) c8:=ok8.put (by omega) mc8;have f9:=Sb.free;refine⟨ok8.free,?_⟩;simp only[WX,Nat.reducePow,Nat.reduceDiv,Nat.reduceMod,Nat.reduceBEq,fW,Yo,k2,st,f9,q8];refine⟨wl.length-(j+1),by omega,(hI _ _).2 ⟨j+1,_,wv',_,(X1 (G8 (bD (bK (bB (X4 (X2 []))))))),rfl,hlt,rfl,⟨by omega,fun x hx=>(ak _ _ (by omega)).trans ((f1 x (by omega)).trans ((gZ.old x (by omega)).trans (gr1.old x hx))),Sb.hiM⟩,by omega,Sb,am _ _ _,?_⟩⟩;rw[Eg hlt];exact hA8.keep (aj _) fun x x1 x2=>ak _ _ (by omega)
 ·obtain rfl:j=wl.length:=by omega
  have d1:decide ((wl.length:Int)<(wl.length:Int))=false:=ag (by omega);simp only[WX,Yo,aB,A0',A5',ia0,ia,ld',n1,d1];rw[List.take_length]at hA;exact hQ (X1 (G4 (G2 (G1 (bD (bK (bB (X4 (X2 (X1 [])))))))))) _ _ _ gr1 ok1 mc1 hA
theorem bY3(Φ:Nat→Option CF)(h38:Φ 38=some c38){F:RO}{M1 M2:Mem}{c c1 c2 i bp op:Nat}{v vca vi vo vl:V}{p:dD}{dn:List dD}(ok2:cK F M2 c2)(hc:c+3≤c1)(hcc:c1<c2)(g2:Gr c1 M1 c2 M2)(A0:load1 F M1 c 0=some v)(ia0:fF 6 v (.i .i64 (i:Int))=some (.p bp op))(hbp:bp<c1)(A5:load1 F M1 bp (op+5)=some vca)(hcs:jg F M1 c1 vca p.cmds)(mp:M2.get c1=some (af 39 [.i .i64 p.join,.b p.nt,vi,vo,.b p.beh,.l0]))
 (hown:∀M',(∀x,c1<x→x<c2→M'.get x=M2.get x)→dw F M' c2 vi p.inp∧dw F M' c2 vo p.out) (mo:M1.get (c+2)=some (af 25 [vl])) (hL:rY (P1 F) M1 (c+3) c1 39 6 vl dn) (hdn:dn.length≤900000) (hl:p.cmds.length≤900000) (hl2:∀x∈p.cmds,x.length≤900000∧ ∀w∈x,w.length≤900000) (u:List (Option V)) (Q:Ex→St→Prop)
 (hQ:∀(u:List (Option V)) (vl':V) M' c',cK F M' c'→c1≤c'→(∀x,x<c+2→M'.get x=M1.get x)→M'.get (c+2)=some (af 25 [vl'])→rY (P1 F) M' (c+3) c' 39 6 vl' (dn++[p])→Q .nrm (.mk ((aF2 u (.p c 0) (.p (c+1) 0) (.p (c+2) 0) (.i .i64 (i:Int)))) [] M' c')):
 Wp Cf (K Φ none 15 F) (.mk ((bH9 u (.p c 0) (.p (c+1) 0) (.p (c+2) 0) (.i .i64 (i:Int)) (.p c1 0))) [] M2 c2) Q:=by
 have i1:=(hown M2 fun _ _ _=>rfl).1.one.1
 have o1:=(hown M2 fun _ _ _=>rfl).2.one.1
 have n1:=hcs.len
 have mx1:=hcs.max
 simp only[WX,aI0,Ua]
 obtain⟨I,hI⟩:∃I:Nat→St→Prop,∀n s',I n s'↔(∃(k c3:Nat) (vc:V) (M3:Mem) (u:List (Option V)),n=p.cmds.length-k∧k≤p.cmds.length∧s'= .mk ((bI0 u (.p c 0) (.p (c+1) 0) (.p (c+2) 0) (.i .i64 (i:Int)) (.p c1 0) (.i .i64 (k:Int)))) [] M3 c3∧Gr c1 M1 c3 M3∧c2≤c3∧cK F M3 c3∧M3.get c1=some (af 39 [.i .i64 p.join,.b p.nt,vi,vo,.b p.beh,vc])∧(∀x,c1<x→x<c2→M3.get x=M2.get x)∧rY (C1 F) M3 c2 c3 42 1 vc (p.cmds.take k)):=⟨fun n s'=>_,fun _ _=>Iff.rfl⟩
 refine bw I ?_ p.cmds.length _ ((hI _ _).2 ⟨0,_,_,_,(X1 (G4 (G2 (bD (bK (bB (X8 []))))))),rfl,ax _,rfl,g2,aj _,ok2,mp,fun _ _ _=>rfl,by rw[List.take_zero];exact rY.nil⟩)
 intro n s' hIs
 obtain⟨k,c3,vc,M3,u,rfl,hk,rfl,gr3,hle,ok3,mp3,hk3,hA⟩:=(hI _ _).1 hIs
 clear hIs
 have A0':load1 F M3 c 0=some v:=(gr3.load1 (by omega) _).trans A0
 have A5':load1 F M3 bp (op+5)=some vca:=(gr3.load1 hbp _).trans A5
 by_cases hlt:k<p.cmds.length
 ·have q8:cz .add (.i .i64 (k:Int)) (.i .i64 1)=some (.i .i64 ((k+1:Nat):Int)):=by rw[aX _ _ (by omega) (by omega)];simp
  have d1:decide ((k:Int)<(p.cmds.length:Int))=true:=ah (by omega);have gz:Gr c3 M3 (c3+1) (M3.set c3 (af 42 [.l0])):=(Gr.refl ok3).set c3 _ (aj _) (ay _) (aH _);have mz:=am M3 c3 (af 42 [.l0]);simp only[WX,Uf,Ug,U6,U7,U9,aB,A0',A5',ia0,n1,d1];generalize M3.set c3 (af 42 [.l0])=X at gz mz⊢;have okX:=gz.ok ok3;have B0:load1 F X c 0=some v:=(gz.load1 (by omega) _).trans A0';have B5:load1 F X bp (op+5)=some vca:=(gz.load1 (by omega) _).trans A5';refine bY4 Φ h38 okX (cb:=c3) (by omega) (by omega) B0 ia0 (by omega) B5 hlt (gr3.trans gz) (by omega) hcs mz (hl2 _ (List.getElem_mem hlt)).1 (hl2 _ (List.getElem_mem hlt)).2 (X1 (G8 (bD (bK (bB (X4 (X2 []))))))) _ ?_;intro u wv M4 c4 g4 Bs mw hW;have hle4:=g4.le;have hlt4:c3+1≤c4:=by
   by_cases hq:c3<c4
   ·exact hq
   ·rw[Bs.hiM c3 (by omega)]at mw;cases mw
  have mp4:M4.get c1=some (af 39 [.i .i64 p.join,.b p.nt,vi,vo,.b p.beh,vc]):=(g4.old _ (by omega)).trans ((gz.old _ (by omega)).trans mp3);have l5:load1 F M4 c1 5=some vc:=au mp4 5;have ln:loadN F M4 c3 0 1=some [wv]:=aY mw 1 rfl;obtain⟨z1,z2,z3⟩:=hW.one;have hG:∀v,flatten (V.g [v])=[v]:=fun _=>rfl;simp only[WX,Yo,l5,ln,hG,z1];have gZ:Gr c4 M4 (c4+1) (M4.set c4 (d7 [V.l0] 42 [wv])):=(Gr.refl Bs).set c4 _ (aj _) (ay _) (aH _);have hys:cA F (M4.set c4 (d7 [V.l0] 42 [wv])) (c4+1) 1 (.l c4 0 1 1) [[wv]]:=J0 (d:=[V.l0]) (ty:=42) (by rw[am];rfl) (by omega) (fun e he=>by rw[List.mem_singleton]at he;subst he;rfl) rfl;refine aD ((rY.push (R:=C1 F) (lo:=c3+1) (hi:=c4) (a:=p.cmds[k]) hA hle (by omega) (fun x x1 x2=>(gZ.old x (by omega)).trans ((g4.old x x2).trans (gz.old x x2))) (gZ.ok Bs) (by decide) hys z3 (by omega) (by omega) (by omega) (fun M' hM'=>⟨wv,rfl,(hW.keep (aj _) fun x x1 x2=>(hM' x x1 x2).trans (gZ.old x x2)).ls fun M c c' e a h1 h2=>W1.upc h1 e a h2⟩) (by rw[List.length_take];omega) (by decide)).mono ?_);rintro vc' M5 c5 ⟨hA5,ok5,hle5,f1,f2⟩;obtain⟨k1,k2,k3⟩:=hA5.one;have mp5:M5.get c1=some (af 39 [.i .i64 p.join,.b p.nt,vi,vo,.b p.beh,vc]):=(f1 c1 (by omega)).trans ((gZ.old c1 (by omega)).trans mp4);have st:=aJ mp5 5 [vc'] (by simp) k3;have ho:over [V.i .i64 p.join,.b p.nt,vi,vo,.b p.beh,vc] 5 [vc']=[.i .i64 p.join,.b p.nt,vi,vo,.b p.beh,vc']:=rfl;rw[ho]at st;have ok6:cK F (M5.set c1 (af 39 [.i .i64 p.join,.b p.nt,vi,vo,.b p.beh,vc'])) c5:=ok5.put (by omega) mp5;simp only[WX,Yo,k2,st,q8];have OLD:∀x,x<c2→x≠c1→(M5.set c1 (af 39 [.i .i64 p.join,.b p.nt,vi,vo,.b p.beh,vc'])).get x=M3.get x:=fun x x1 x2=>(ak _ _ x2).trans ((f1 x x1).trans ((gZ.old x (by omega)).trans ((g4.old x (by omega)).trans (gz.old x (by omega)))));refine⟨p.cmds.length-(k+1),by omega,(hI _ _).2 ⟨k+1,_,vc',_,(X1 (G4 (G2 (bD (bK (bB (X8 []))))))),rfl,hlt,rfl,⟨by omega,fun x hx=>(OLD x (by omega) (by omega)).trans (gr3.old x hx),ok6.hiM⟩,by omega,ok6,am _ _ _,fun x x1 x2=>(OLD x x2 (by omega)).trans (hk3 x x1 x2),?_⟩⟩;rw[Eg hlt];exact hA5.keep (aj _) fun x x1 x2=>ak _ _ (by omega)
 ·obtain rfl:k=p.cmds.length:=by omega
  have d1:decide ((p.cmds.length:Int)<(p.cmds.length:Int))=false:=ag (by omega);simp only[WX,Uf,Ug,aB,A0',A5',ia0,n1,d1];rw[List.take_length]at hA;obtain⟨v1,v2,v3⟩:=hA.one;have mo3:M3.get (c+2)=some (af 25 [vl]):=(gr3.old _ (by omega)).trans mo;have l2:load1 F M3 (c+2) 0=some vl:=au mo3 0;have ln:loadN F M3 c1 0 6=some [.i .i64 p.join,.b p.nt,vi,vo,.b p.beh,vc]:=aY mp3 6 rfl;have hG:flatten (V.g [.i .i64 p.join,.b p.nt,vi,vo,.b p.beh,vc])=[.i .i64 p.join,.b p.nt,vi,vo,.b p.beh,vc]:=rfl;have hall:=u5 (j:=p.join) (nt:=p.nt) (beh:=p.beh) i1 o1 v1;have gZ:=(Gr.refl ok3).set c3 (d7 [.i .i64 0,.b false,.l0,.l0,.b false,.l0] 39 [.i .i64 p.join,.b p.nt,vi,vo,.b p.beh,vc]) (aj _) (ay _) (aH _);have hys:cA F (M3.set c3 (d7 [.i .i64 0,.b false,.l0,.l0,.b false,.l0] 39 [.i .i64 p.join,.b p.nt,vi,vo,.b p.beh,vc])) (c3+1) 6 (.l c3 0 1 1) [[.i .i64 p.join,.b p.nt,vi,vo,.b p.beh,vc]]:=J0 (d:=[.i .i64 0,.b false,.l0,.l0,.b false,.l0]) (ty:=39) (by rw[am];rfl) (ay _) (fun e he=>by rw[List.mem_singleton]at he;subst he;rfl) rfl;simp only[WX,Nat.reduceAdd,Yo,l2,ln,hG,i1,o1,v1,Bool.and_self,aB];refine aD ((rY.push (R:=P1 F) (lo:=c1) (hi:=c3) (a:=p) hL (by omega) (by omega) (fun x x1 x2=>(gZ.old x (by omega)).trans (gr3.old x x2)) (gZ.ok ok3) (by decide) hys hall (aj _) (by omega) (by omega) (fun M' hM'=>?_) hdn (by decide)).mono ?_)
  ·have hO:=hown M' fun x x1 x2=>(hM' x (by omega) (by omega)).trans ((gZ.old x (by omega)).trans (hk3 x x1 x2));exact⟨vi,vo,vc,rfl,hO.1.upc hle,hO.2.upc hle,(hA.keep (aj _) fun x x1 x2=>(hM' x (by omega) x2).trans (gZ.old x x2)).ls fun M c c' e a h1 h2=>C1.upc h1 e a h2⟩
  rintro vl' M4 c4 ⟨hA4,Bs,hle4,f1,f2⟩;obtain⟨k1,k2,k3⟩:=hA4.one;have mo4:M4.get (c+2)=some (af 25 [vl]):=(f1 _ (by omega)).trans ((gZ.old _ (by omega)).trans mo3);have st:=aJ mo4 0 [vl'] (by simp) k3;have ho:over [vl] 0 [vl']=[vl']:=rfl;rw[ho]at st;have ok5:cK F (M4.set (c+2) (af 25 [vl'])) c4:=Bs.put (by omega) mo4;simp only[WX,k2,st];exact hQ (X1 (G4 (bD (bK (bB (X8 (X2 []))))))) vl' _ _ ok5 (by omega) (fun x hx=>(ak _ _ (by omega)).trans ((f1 x (by omega)).trans ((gZ.old x (by omega)).trans (gr3.old x (by omega))))) (am _ _ _) (hA4.keep (aj _) fun x x1 x2=>ak _ _ (by omega))
theorem w15(Φ:Nat→Option CF)(h:Φ 15=some c15)(h38:Φ 38=some c38){F:RO}{M:Mem}{c:Nat}(ok:cK F M c){v:V}{l:List dD}(hl:iF F M c v l)(hn:l.length≤900000)(hp:∀p∈l,p.inp.length≤900000∧p.out.length≤900000∧p.cmds.length≤900000∧ ∀x∈p.cmds,x.length≤900000∧ ∀w∈x,w.length≤900000):
 Calls Φ F 15 [.g [v]] M c fun r M' c'=>∃v',r= .g [v']∧Gr c M c' M'∧iF F M' c' v' l:=by
 refine aN h ?_
 obtain⟨y1,y2,y3⟩:=hl.one
 have hG:∀v,flatten (V.g [v])=[v]:=fun _=>rfl
 have gX:=(((Gr.refl ok).set c (af 25 [v]) (aj _) (ay _) (aH _)).set (c+1) (af 25 [.l0]) (by omega) (by omega) (aH _)).set (c+2) (af 25 [.l0]) (by omega) (by omega) (aH _)
 have m0:(((M.set c (af 25 [v])).set (c+1) (af 25 [.l0])).set (c+2) (af 25 [.l0])).get c=some (af 25 [v]):=by rw[ak _ _ (by omega),ak _ _ (by omega),am]
 have m1:(((M.set c (af 25 [v])).set (c+1) (af 25 [.l0])).set (c+2) (af 25 [.l0])).get (c+1)=some (af 25 [.l0]):=by rw[ak _ _ (by omega),am]
 have m2:(((M.set c (af 25 [v])).set (c+1) (af 25 [.l0])).set (c+2) (af 25 [.l0])).get (c+2)=some (af 25 [.l0]):=am _ _ _
 have n1:=hl.len
 have mx1:=hl.max
 have hX:=hl.grow gX
 simp only[WX,Nat.reduceAdd,e15,aH4,aH5,Ud,Ue,hG,y3]
 generalize((M.set c (af 25 [v])).set (c+1) (af 25 [.l0])).set (c+2) (af 25 [.l0])=X at gX m0 m1 m2 hX⊢
 have okX:=gX.ok ok
 obtain⟨I,hI⟩:∃I:Nat→St→Prop,∀n s',I n s'↔(∃(i c1:Nat) (vl:V) (M1:Mem) (u:List (Option V)),n=l.length-i∧i≤l.length∧s'= .mk ((aF2 u (.p c 0) (.p (c+1) 0) (.p (c+2) 0) (.i .i64 (i:Int)))) [] M1 c1∧c+3≤c1∧cK F M1 c1∧(∀x,x<c+2→M1.get x=X.get x)∧M1.get (c+2)=some (af 25 [vl])∧rY (P1 F) M1 (c+3) c1 39 6 vl (l.take i)):=⟨fun n s'=>_,fun _ _=>Iff.rfl⟩
 refine bw I ?_ l.length _ ((hI _ _).2 ⟨0,_,_,_,(X1 (G4 (bD (bK (bB (X8 (X2 []))))))),rfl,ax _,rfl,aj _,okX,fun _ _=>rfl,m2,by rw[List.take_zero];exact rY.nil⟩)
 intro n s' hIs
 obtain⟨i,c1,vl,M1,u,rfl,hi,rfl,hc1,ok1,hold,mo,hA⟩:=(hI _ _).1 hIs
 clear hIs
 have g01:Gr c M c1 M1:=⟨by omega,fun x hx=>(hold x (by omega)).trans (gX.old x hx),ok1.hiM⟩
 have A0:load1 F M1 c 0=some v:=au ((hold c (by omega)).trans m0) 0
 by_cases hlt:i<l.length
 ·have q8:cz .add (.i .i64 (i:Int)) (.i .i64 1)=some (.i .i64 ((i+1:Nat):Int)):=by rw[aX _ _ (by omega) (by omega)];simp
  have d1:decide ((i:Int)<(l.length:Int))=true:=ah (by omega);obtain⟨es,s1,s2,s3,s4⟩:=hl.grow g01;obtain⟨bp,op,hbp,ia0,ca⟩:=s1.at i (by omega);have ia0:=ia0 .i64;obtain⟨vi,vo,vca,he,w1,w2,w3⟩:=s4 i (by omega) hlt;rw[he]at ca;obtain⟨D1,D2,D3,D4⟩:=hp _ (List.getElem_mem hlt);generalize hpe:l[i]=p at he ca w1 w2 w3 D1 D2 D3 D4 hA;have A5:load1 F M1 bp (op+5)=some vca:=ca 5 (by simp);have ld1:loadN F M1 bp op 6=some [.i .i64 p.join,.b p.nt,vi,vo,.b p.beh,vca]:=ca.load (by simp);have hov1:over [V.i .i64 0,.b false,.l0,.l0,.b false,.l0] 0 [.i .i64 p.join,.b p.nt,vi,vo,.b p.beh,vca]=[.i .i64 p.join,.b p.nt,vi,vo,.b p.beh,vca]:=rfl;have hf1:flatten (V.g [.i .i64 p.join,.b p.nt,vi,vo,.b p.beh,vca])=[.i .i64 p.join,.b p.nt,vi,vo,.b p.beh,vca]:=rfl;have hall:=u5 (j:=p.join) (nt:=p.nt) (beh:=p.beh) w1.one.1 w2.one.1 w3.one.1;have g1:Gr c1 M1 (c1+1) (M1.set c1 (af 39 [.i .i64 p.join,.b p.nt,vi,vo,.b p.beh,vca])):=(Gr.refl ok1).set c1 _ (aj _) (ay _) (aH _);have ma:(M1.set c1 (af 39 [.i .i64 p.join,.b p.nt,vi,vo,.b p.beh,vca])).get c1=some (af 39 [.i .i64 p.join,.b p.nt,vi,vo,.b p.beh,vca]):=am _ _ _;simp only[WX,Nat.reduceAdd,Nat.reduceLeDiff,aH6,aH7,Ub,Uc,aB,A0,n1,d1,ia0,ld1,hov1,hf1,hall];generalize hY:M1.set c1 (af 39 [.i .i64 p.join,.b p.nt,vi,vo,.b p.beh,vca])=Y at g1 ma⊢;have okY:=g1.ok ok1;have A2:loadN F Y c1 2 1=some [vi]:=by rw[cO ma,bW _ _ _ _ _ _ (by simp)];rfl
  have A3:loadN F Y c1 3 1=some [vo]:=by rw[cO ma,bW _ _ _ _ _ _ (by simp)];rfl
  have g10:Gr (c1+1) Y (c1+1+10) Y:=(Gr.refl okY).up (by omega);have yk:=g10.ok okY;have hG:∀v,flatten (V.g [v])=[v]:=fun _=>rfl;simp only[WX,Nat.reduceAdd,aH8,A2,A3];refine nJ _ _ _ _ _ _ _ _ _ _ _ yk ?_;intro F1 N1 okn hlk;refine(show lw (cT (iu Φ) F1 38 [.g [vi]] N1 (c1+1+10) (Φ 38)) _ from(w38 Φ h38 okn (((w1.grow g1).grow g10).lk hlk) D1).mono ?_);rintro r N2 c5 ⟨v1,rfl,gN,hW1⟩;refine⟨gN,fun M6 g6 hM6=>?_⟩;have hle6:=g6.le;have ok6:=g6.ok yk;simp only[WX,Nat.reducePow,Nat.reduceDiv,Nat.reduceMod,Nat.reduceBEq,fW];refine du ((w38 Φ h38 ok6 (((w2.grow g1).grow g10).grow g6) D2).mono ?_);rintro r M7 c6 ⟨v2,rfl,g7,hW2⟩;have hle7:=g7.le;have ok7:=g7.ok ok6;obtain⟨z1,z2,z3⟩:=(hW1 F N2 fun _ _ _=>rfl).one;obtain⟨x1,x2,x3⟩:=(hW2 F M7 fun _ _ _=>rfl).one;have mb7:M7.get c1=some (af 39 [.i .i64 p.join,.b p.nt,vi,vo,.b p.beh,vca]):=(g7.old _ (by omega)).trans ((g6.old _ (by omega)).trans ma);have st1:=aJ mb7 2 [v1] (by simp) z3;have ho1:over [V.i .i64 p.join,.b p.nt,vi,vo,.b p.beh,vca] 2 [v1]=[.i .i64 p.join,.b p.nt,v1,vo,.b p.beh,vca]:=rfl;rw[ho1]at st1;have ok8:cK F (M7.set c1 (af 39 [.i .i64 p.join,.b p.nt,v1,vo,.b p.beh,vca])) c6:=ok7.put (by omega) mb7;have st2:=aJ (am M7 c1 (af 39 [.i .i64 p.join,.b p.nt,v1,vo,.b p.beh,vca])) 3 [v2] (by simp) x3;have ho2:over [V.i .i64 p.join,.b p.nt,v1,vo,.b p.beh,vca] 3 [v2]=[.i .i64 p.join,.b p.nt,v1,v2,.b p.beh,vca]:=rfl;rw[ho2]at st2;have Sb:cK F ((M7.set c1 (af 39 [.i .i64 p.join,.b p.nt,v1,vo,.b p.beh,vca])).set c1 (af 39 [.i .i64 p.join,.b p.nt,v1,v2,.b p.beh,vca])) c6:=ok8.put (by omega) (am _ _ _);have st3:=aJ (am (M7.set c1 (af 39 [.i .i64 p.join,.b p.nt,v1,vo,.b p.beh,vca])) c1 (af 39 [.i .i64 p.join,.b p.nt,v1,v2,.b p.beh,vca])) 5 [.l0] (by simp) rfl;have ho3:over [V.i .i64 p.join,.b p.nt,v1,v2,.b p.beh,vca] 5 [.l0]=[.i .i64 p.join,.b p.nt,v1,v2,.b p.beh,.l0]:=rfl;rw[ho3]at st3;have yk:cK F (((M7.set c1 (af 39 [.i .i64 p.join,.b p.nt,v1,vo,.b p.beh,vca])).set c1 (af 39 [.i .i64 p.join,.b p.nt,v1,v2,.b p.beh,vca])).set c1 (af 39 [.i .i64 p.join,.b p.nt,v1,v2,.b p.beh,.l0])) c6:=Sb.put (by omega) (am _ _ _);have f7:=ok7.free;have f8:=ok8.free;have f9:=Sb.free;refine⟨f7,?_⟩;simp only[WX,Nat.reducePow,Nat.reduceDiv,Nat.reduceMod,Nat.reduceBEq,fW,aH9,st1,st2,st3,f8,f9,hG];have OLD:∀x,x≠c1→(((M7.set c1 (af 39 [.i .i64 p.join,.b p.nt,v1,vo,.b p.beh,vca])).set c1 (af 39 [.i .i64 p.join,.b p.nt,v1,v2,.b p.beh,vca])).set c1 (af 39 [.i .i64 p.join,.b p.nt,v1,v2,.b p.beh,.l0])).get x=M7.get x:=fun x hx=>(ak _ _ hx).trans ((ak _ _ hx).trans (ak _ _ hx));refine bY3 Φ h38 yk hc1 (by omega) ⟨by omega,fun x hx=>(OLD x (by omega)).trans ((g7.old x (by omega)).trans ((g6.old x (by omega)).trans (g1.old x hx))),yk.hiM⟩ A0 ia0 hbp A5 w3 (am _ _ _) (fun M' hM'=>⟨((hW1 F M' fun x a b=>(hM' x (by omega) (by omega)).trans ((OLD x (by omega)).trans ((g7.old x b).trans (hM6 x a)))).upc (by omega)),hW2 F M' fun x a b=>(hM' x (by omega) b).trans (OLD x (by omega))⟩) mo hA (by rw[List.length_take];omega) D3 D4 (X1 (G4 (G1 (bD (bK (bB (X8 (X1 [])))))))) _ ?_;intro u vl' M' c' ok' hle' f mo' hA';simp only[WX,Yo,q8];refine⟨l.length-(i+1),by omega,(hI _ _).2 ⟨i+1,_,vl',_,(X1 (G4 (bD (bK (bB (X8 (X2 []))))))),rfl,hlt,rfl,by omega,ok',fun x hx=>(f x hx).trans (hold x hx),mo',?_⟩⟩;rw[Eg hlt,hpe];exact hA'
 ·obtain rfl:i=l.length:=by omega
  have d1:decide ((l.length:Int)<(l.length:Int))=false:=ag (by omega);rw[List.take_length]at hA;obtain⟨k1,k2,k3⟩:=hA.one;have ln:loadN F M1 (c+2) 0 1=some [vl]:=aY mo 1 rfl;have mr:M1.get (c+1)=some (af 25 [.l0]):=(hold _ (by omega)).trans m1;have st:=aJ mr 0 [vl] (by simp) k3;have ho:over [V.l0] 0 [vl]=[vl]:=rfl;rw[ho]at st;have ok2:cK F (M1.set (c+1) (af 25 [vl])) c1:=ok1.put (by omega) mr;have fr:=ok2.free;have ld:loadN F (M1.set (c+1) (af 25 [vl])) (c+1) 0 1=some [vl]:=aY (am _ _ _) 1 rfl;have hG1:flatten (V.g [vl])=[vl]:=rfl;simp only[WX,Yo,A0,n1,d1,ln,hG1,st,ld];exact⟨vl,rfl,⟨by omega,fun x hx=>(ak _ _ (by omega)).trans (g01.old x hx),ok2.hiM⟩,(hA.keep (aj _) fun x x1 x2=>ak _ _ (by omega)).ls fun M c c' e a h1 h2=>P1.upc h1 e a h2⟩
end
end Go.Proofs.YtmbpllipombieaaDoor.Ev
