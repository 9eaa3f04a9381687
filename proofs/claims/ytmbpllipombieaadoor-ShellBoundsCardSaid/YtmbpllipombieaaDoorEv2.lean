/- What is proved here: pieces of the evaluator's soundness: if the evaluator comes to a value, the model's run comes to it, for every world and tape; no conditions beyond the hypotheses of each theorem. -/
import Derived.Test.YtmbpllipombieaaDoorEv1
import Derived.RangeFuncRecord
import Derived.LoopNIn
import Derived.RangeFuncNested
import Derived.OrdersIn
import GoSem.ClaimChange
set_option linter.unusedSimpArgs false
set_option linter.unusedVariables false
set_option linter.defProp false
namespace Go.Proofs.YtmbpllipombieaaDoor.Ev
open Go
noncomputable section
section
variable{P:Program}{E:cG}{F:RO}{M:Mem}{c:Nat→Prop}{w:World}{t:T}{a:Act}
def EO.plain:EO→Bool
 | .call _ _| .cv _ _=>false
 |_=>true
theorem at0{α:Type}{x:Array α}{y:α}{l:List α}(h:x.toList=y::l):x[0]?=some y:=by rw[dx h];rfl
theorem at1{α:Type}{x:Array α}{y z:α}{l:List α}(h:x.toList=y::z::l):x[1]?=some z:=by rw[dx h];rfl
theorem bg9{α:Type}{x:Array α}{y:α}(h:x.toList=[y]):x[1]?=none:=by rw[dx h];rfl
theorem aR5(h:Cx P E F M c w t a){ct:Nat}(hf:eQ c ct){o:Oper}{eo:EO}(hc:ax P o.op=some (.e eo))(hp:eo.plain=true){k:Kn}(hk:k.F=F){v:V}{M':Mem}{ct':Nat}(he:ew eo k M ct t= .k v M' ct'):yy P F E M c ct w a o v M' ct':=by
 cases hop:o.op with
 |store ty y z=>exact Qi h hop hc hk he
 |mapUpdate ty m y z=>exact oY h (.inl hop) hc hk he
 |insert ty m y z=>exact oY h (.inr hop) hc hk he
 |next y b=>
  rw[hop]at hc;cases b with
  |true=>
   obtain⟨x,hx,e⟩:=bf.1 hc;obtain rfl:EO.nxs x=eo:=by simpa using e
   exact Qh h hop hx he
  |false=>
   obtain⟨x,hx,e⟩:=bf.1 hc;obtain rfl:EO.nxm x=eo:=by simpa using e
   exact Qg h hop hx hk he
 |range ty y=>
  rw[hop]at hc;simp only[ax]at hc;split at hc
  ·cases hc
  ·rename_i kt et x hu hx;obtain rfl:EO.rgm x=eo:=by simpa using hc
   exact Ls h hf hop hu hx hk he
  ·cases hc
 |convert s d y=>
  rw[hop]at hc;simp only[ax]at hc;split at hc
  ·cases hc
  ·cases hc
  ·split at hc<;>cases hc
  ·split at hc<;>cases hc
  ·rename_i e0 el x h1 h2 hx;split at hc
   ·rename_i hcond;obtain rfl:EO.ms x=eo:=by simpa using hc
    rw[aX]at hcond;have hsd:s=d:=by simpa using hcond.1
    subst hsd;have hel:P.underlying el=some (.int .u8):=by
     have:=hcond.2;unfold Ab at this;split at this
     ·assumption
     ·cases this
    exact ad0 h hop h2 hel hx he
   ·cases hc
  ·split at hc<;>cases hc
  ·split at hc<;>cases hc
  ·cases hc
 |call cl=>
  rw[hop]at hc;simp only[ax]at hc;split at hc
  ·rename_i b' hcal;unfold dy at hc;split at hc
   ·split at hc<;>first|cases hc|(split at hc<;>cases hc)
   ·split at hc<;>cases hc
   ·rename_i y z ty t2 ts hargs htys;split at hc
    ·rename_i el x1 x2 hu h1 h2;split at hc
     ·rename_i sz by_ d hsz hby hd;split at hc
      ·cases hc
      ·rename_i hnd;split at hc
       ·cases hc
       ·rename_i hcond;obtain rfl:EO.app el sz by_ x1 x2=eo:=by simpa using hc
        rw[Bool.not_eq_true,Bool.or_eq_false_iff]at hcond;have hpos:sz≠0:=by simpa using hcond.1
        have hzo:Sj P el sz=true:=by simpa using hcond.2
        exact wD h hf hop hcal hargs (at0 htys) (.inl ⟨t2,d,at1 htys,hd,fun k e=>hnd k e⟩) hu hsz hby hpos hzo h1 h2 hk he
     ·cases hc
    ·cases hc
   ·rename_i y z ty hargs htys;split at hc
    ·rename_i el x1 x2 hu h1 h2;split at hc
     ·rename_i sz by_ hsz hby;split at hc
      ·cases hc
      ·rename_i hcond;obtain rfl:EO.app el sz by_ x1 x2=eo:=by simpa using hc
       rw[Bool.not_eq_true,Bool.or_eq_false_iff]at hcond;have hpos:sz≠0:=by simpa using hcond.1
       have hzo:Sj P el sz=true:=by simpa using hcond.2
       exact wD h hf hop hcal hargs (at0 htys) (.inr (bg9 htys)) hu hsz hby hpos hzo h1 h2 hk he
     ·cases hc
    ·cases hc
   ·rename_i y z ty ts hargs htys;split at hc
    ·rename_i el x1 x2 hu h1 h2;split at hc
     ·rename_i sz hsz;split at hc
      ·cases hc
      ·obtain rfl:EO.cpy sz x1 x2=eo:=by simpa using hc
       exact ac9 h hop hcal hargs (at0 htys) hu hsz h1 h2 hk he
     ·cases hc
    ·cases hc
   ·split at hc<;>cases hc
   ·split at hc<;>cases hc
   ·rename_i m y ty ts hargs htys;split at hc
    ·rename_i kt et xm xk hu h1 h2;obtain⟨sh,hks,e⟩:=bf.1 hc;obtain rfl:EO.del sh xm xk=eo:=by simpa using e
     exact Lr h hop hcal hargs htys hu hks h1 h2 he
    ·cases hc
   ·rename_i y z ty ts hargs htys;split at hc
    ·rename_i el x1 x2 hu h1 h2;split at hc
     ·rename_i hcond;obtain rfl:EO.us el x1 x2=eo:=by simpa using hc
      rw[aX]at hcond;exact qR h hop hcal hargs (at0 htys) hu (by simpa using hcond.2) h1 h2 hk he
     ·cases hc
    ·cases hc
   ·obtain⟨z,_,e⟩:=aQ.1 hc;cases e
   ·rename_i y ty ts hargs htys;split at hc
    ·rename_i el x1 hu h1;obtain⟨z,hz,e⟩:=bf.1 hc;obtain rfl:EO.clr (bg z) x1=eo:=by simpa using e
     exact Qf h hop hcal hargs (at0 htys) hu hz h1 he
    ·cases hc
   ·cases hc
  ·rename_i f hcal;split at hc
   ·rename_i fn hf0;split at hc
    ·unfold eF at hc;split at hc
     ·cases hc
     ·split at hc
      ·split at hc
       ·split at hc<;>cases hc
       ·split at hc
        ·split at hc<;>cases hc
        ·split at hc
         ·split at hc<;>cases hc
         ·cases hc
      ·split at hc
       ·obtain⟨z,_,e⟩:=aQ.1 hc;cases e
       ·split at hc
        ·split at hc
         ·split at hc
          ·split at hc<;>cases hc
          ·cases hc
         ·cases hc
        ·cases hc
      ·cases hc
    ·obtain⟨z,_,e⟩:=bf.1 hc;obtain rfl:EO.call f z=eo:=by simpa using e
     cases hp
   ·cases hc
  ·split at hc
   ·rename_i x xs h1 h2;obtain rfl:EO.cv x xs=eo:=by simpa using hc
    cases hp
   ·cases hc
  ·cases hc
 |alloc ty=>rw[hop]at hc;obtain⟨z,_,e⟩:=bf.1 hc;cases e
 |box ty y=>rw[hop]at hc;simp only[ax]at hc;split at hc<;>cases hc
 |buildSlice ty n ps=>
  rw[hop]at hc;simp only[ax]at hc;split at hc
  ·split at hc
   ·split at hc
    ·cases hc
    ·obtain⟨z,_,e⟩:=bf.1 hc;cases e
   ·cases hc
  ·cases hc
 |makeMap ty r=>
  cases r with
  |none=>rw[hop]at hc;cases hc
  |some z=>rw[hop]at hc;cases hc
 |makeSlice ty l k'=>
  rw[hop]at hc;simp only[ax]at hc;split at hc
  ·split at hc
   ·split at hc<;>cases hc
   ·cases hc
  ·cases hc
 |move y=>rw[hop]at hc;obtain⟨z,_,e⟩:=aQ.1 hc;cases e
 |assign y=>rw[hop]at hc;obtain⟨z,_,e⟩:=aQ.1 hc;cases e
 |pick p y z=>rw[hop]at hc;simp only[ax]at hc;split at hc<;>cases hc
 |build ty ps=>
  rw[hop]at hc;simp only[ax]at hc;split at hc
  ·split at hc
   ·obtain⟨z,_,e⟩:=aQ.1 hc;cases e
   ·cases hc
  ·split at hc
   ·obtain⟨z,_,e⟩:=aQ.1 hc;cases e
   ·cases hc
  ·cases hc
 |load ty y=>rw[hop]at hc;simp only[ax]at hc;split at hc<;>cases hc
 |nilCheck y=>rw[hop]at hc;obtain⟨z,_,e⟩:=aQ.1 hc;cases e
 |binOp op ty y z ty'=>
  rw[hop]at hc;simp only[ax]at hc;split at hc
  ·cases hc
  ·cases hc
  ·split at hc
   ·obtain⟨z,_,e⟩:=aQ.1 hc;cases e
   ·obtain⟨z,_,e⟩:=aQ.1 hc;cases e
   ·cases hc
  ·cases hc
 |unOp op ty y=>rw[hop]at hc;obtain⟨z,_,e⟩:=aQ.1 hc;cases e
 |makeInterface ty y=>rw[hop]at hc;simp only[ax]at hc;split at hc<;>cases hc
 |makeFunc fn l1 l2=>
  cases fn with
  |func f=>rw[hop]at hc;simp only[ax]at hc;split at hc<;>cases hc
  |_=>rw[hop]at hc;cases hc
 |slice ty y lo hi mx=>
  rw[hop]at hc;simp only[ax]at hc;split at hc
  ·split at hc
   ·split at hc<;>cases hc
   ·obtain⟨z,_,e⟩:=aQ.1 hc;split at e<;>cases e
   ·obtain⟨z,_,e⟩:=aQ.1 hc;split at e<;>cases e
   ·split at hc
    ·obtain⟨z,_,e⟩:=aQ.1 hc;split at e<;>cases e
    ·cases hc
   ·cases hc
  ·cases hc
 |fieldAddr ty y f=>
  rw[hop]at hc;simp only[ax]at hc;split at hc
  ·split at hc
   ·split at hc<;>cases hc
   ·cases hc
  ·cases hc
 |field ty y f=>
  rw[hop]at hc;simp only[ax]at hc;split at hc
  ·split at hc
   ·split at hc<;>cases hc
   ·cases hc
  ·cases hc
 |indexAddr ty y i=>
  rw[hop]at hc;simp only[ax]at hc;split at hc
  ·obtain⟨z,_,e⟩:=aQ.1 hc;cases e
  ·obtain⟨z,_,e⟩:=aQ.1 hc;cases e
  ·cases hc
 |index ty y i=>
  rw[hop]at hc;simp only[ax]at hc;split at hc
  ·split at hc<;>cases hc
  ·cases hc
  ·cases hc
 |lookup ty y i ok=>
  rw[hop]at hc;simp only[ax]at hc;split at hc
  ·split at hc<;>cases hc
  ·cases hc
 |typeAssert y ty ty' ok=>rw[hop]at hc;simp only[ax]at hc;split at hc<;>cases hc
 |extract y i=>rw[hop]at hc;obtain⟨z,_,e⟩:=aQ.1 hc;cases e
 |sliceToArrayPointer d y=>rw[hop]at hc;simp only[ax]at hc;split at hc<;>cases hc
 |_=>rw[hop]at hc;cases hc
end
def cC(E:cG)(rd:Option Nat):Fence:={fn:=fun _=>True,depth:=none,alive:=false,round:=rd.map E.ρ}
structure SR(P:Program)(F:RO)(rd:Option Nat)(nt:Nat)(E:cG)(c:Nat→Prop)(w:World)(a:Act)(t:T)(d:List Nat)(M:Mem)(ct:Nat):Prop where
 cx:Cx P E F M c w t a
 fr:eQ c ct
 df:a.defers=d.map fun b=>{target:= .collected (E.ρ b),args:=#[]}
 dc:∀b∈d,c b
 sz:nt≤a.tmps.size
 rd:∀l,rd=some l→c l
def Gm(P:Program)(F:RO)(rd:Option Nat)(nt:Nat)(E:cG)(c:Nat→Prop)(w:World)(M:Mem)(ct:Nat)(t':T)(d':List Nat)(M':Mem)(ct':Nat)(a':Act)(w':World):Prop:=
 ∃E' c',jH P F E M c w E' M' c' w'∧gD c ct c' ct'∧SR P F rd nt E' c' w' a' t' d' M' ct'
section
variable{P:Program}{E E':cG}{F:RO}{M M':Mem}{c c':Nat→Prop}{ct ct' nt:Nat}{w w':World}{t:T}{d:List Nat}{a:Act}{rd:Option Nat}
theorem Fq(t:T)(v:V):setT t none v=t:=rfl
theorem iV(t:T)(p:ay)(v:V):setT t (some p) v=t.setP p v:=rfl
theorem pP{p:ay}{v:V}(h:t.getP p=some v):cd t p=v:=by unfold cd;rw[h]
theorem tq{p:ay}(h:t.getP p=none):cd t p=undef:=by unfold cd;rw[h]
theorem ED(t:T)(k j:Nat)(v:V):cd (t.setP (bo k) v) (bo j)=if j=k then v else cd t (bo j):=by
 have:=pA t k j v
 by_cases h:j=k
 ·rw[ac h]at this⊢;exact pP this
 ·rw[ab h]at this⊢;unfold cd;rw[this]
theorem A6(t:T)(p q:ay)(v:V):cd (t.setP p v) q=v∨cd (t.setP p v) q=cd t q:=by
 by_cases h:q=p
 ·subst h;exact .inl (pP (Tr.getP_setP_same q v t))
 ·right;unfold cd;rw[Tr.getP_setP_ne p v q t h]
theorem uD{dst:Option ay}{v:V}(h:KM c t)(hv:bd c v):KM c (setT t dst v):=by
 cases dst with
 |none=>exact h
 |some p=>
  intro q;rw[iV];rcases A6 t p q v with e|e
  ·rw[e];exact hv
  ·rw[e];exact h q
theorem qo{dst:Option Nat}{v:V}{val:Value}(h:nN E t a.tmps)(hd:∀k,dst=some k→k<a.tmps.size)(hv:val=conc E v):nN E (setT t (dst.map bo) v) (a.put dst val).tmps:=by
 cases dst with
 |none=>exact h
 |some k=>
  intro n;have hk:=hd k rfl;rw[Option.map_some,iV,ED];show(a.tmps.setIfInBounds k val).getD n Go.undef=_;by_cases e:n=k
  ·subst e;rw[ac rfl,hv];simp[Array.getD_eq_getD_getElem?,hk]
  ·rw[ab e,←h n];simp[Array.getD_eq_getD_getElem?,Array.getElem?_setIfInBounds_ne (Ne.symm e)]
theorem Act.put_defers(a:Act)(dst:Option Tmp)(v:Value):(a.put dst v).defers=a.defers:=by cases dst<;>rfl
theorem Act.put_size(a:Act)(dst:Option Tmp)(v:Value):(a.put dst v).tmps.size=a.tmps.size:=by cases dst<;>simp[Act.put]
theorem SR.put(h:SR P F rd nt E c w a t d M ct){dst:Option Nat}(hd:oX nt dst=true){v:V}{val:Value}(hv:val=conc E v)(hb:bd c v):SR P F rd nt E c w (a.put dst val) (setT t (dst.map bo) v) d M ct:=by
 refine⟨⟨h.cx.rel,h.cx.glob,h.cx.big,qo h.cx.tr (fun k hk=>?_) hv,uD h.cx.bt hb⟩,h.fr,by rw[Act.put_defers];exact h.df,h.dc,by rw[Act.put_size];exact h.sz,h.rd⟩
 subst hk
 have:k<nt:=by simpa [oX]using hd
 exact Nat.lt_of_lt_of_le this h.sz
theorem SR.stp(h:SR P F rd nt E c w a t d M ct)(hS:jH P F E M c w E' M' c' w')(hG:gD c ct c' ct'):SR P F rd nt E' c' w' a t d M' ct':=by
 refine⟨⟨hS.rel,fun g hg=>?_,fun g hg=>hS.le g (h.cx.big g hg),h.cx.tr.ext hS.ext h.cx.bt,fun p=>dD hS.le _ (h.cx.bt p)⟩,h.fr.grow hG,?_,fun b hb=>hS.le b (h.dc b hb),h.sz,fun l hl=>hS.le l (h.rd l hl)⟩
 ·rw[hS.ext.ρ g (h.cx.big g hg),hS.ext.β g (h.cx.big g hg)];exact h.cx.glob g hg
 ·rw[h.df];apply List.map_congr_left;intro b hb;rw[hS.ext.ρ b (h.dc b hb)]
theorem SR.res(h:SR P F rd nt E c w a t d M ct):Gm P F rd nt E c w M ct t d M ct a w:=⟨E,c,.refl h.cx.rel,.refl _ _,h⟩
theorem eJ(h:mD c E E')(hr:∀l,rd=some l→c l):cC E' rd=cC E rd:=by
 cases rd with
 |none=>rfl
 |some l=>unfold cC;simp only[Option.map_some];rw[h.ρ l (hr l rfl)]
theorem wR(h:nN E t a.tmps){ops:Array Oper}{o:Oper}{g:Option (ay×Bool)} (hg:(match o.guard with
 |none=>some none
 |some (j,want)=>match (ops[j]?).bind (·.dst)with
  |some d=>some (some (bo d,want))
  |none=>none)=some g):Region.wanted o (yielded ops a.tmps)=wanted t g:=by
 unfold Region.wanted
 cases ho:o.guard with
 |none=>rw[ho]at hg;obtain rfl:=ae hg;rfl
 |some jw=>
  obtain⟨j,want⟩:=jw;rw[ho]at hg;simp only at hg;cases hd:(ops[j]?).bind (·.dst)with
  |none=>rw[hd]at hg;cases hg
  |some dn=>
   rw[hd]at hg;obtain rfl:=ae hg;simp only[yielded,hd,Option.bind_some];show _=fL want (cd t (bo dn));have hn:=h dn;rw[Array.getD_eq_getD_getElem?]at hn;cases hv:a.tmps[dn]? with
   |none=>
    rw[hv]at hn;have hn':conc E (cd t (bo dn))= .tuple #[]:=hn.symm;cases hx:cd t (bo dn)<;>rw[hx]at hn'<;>first|rfl|(simp[conc]at hn')
   |some val=>
    rw[hv]at hn;have hn':val=conc E (cd t (bo dn)):=hn;cases hx:cd t (bo dn)with
    |b x=>
     rw[hx]at hn';rw[hn'];show(some x==some want)=Bool.rec (motive:=fun _=>Bool) (o9 want) want x;cases x<;>cases want<;>rfl
    |_=>rw[hx]at hn';rw[hn'];rfl
def jO(P:Program)(k:Kn):Prop:=∀(F:RO) (f:Nat) (args:List V) (M:Mem) (ct:Nat) (v:V) (M':Mem) (ct':Nat),jz (o7 k F) f args M ct= .k v M' ct'→
 ∀(E:cG) (c:Nat→Prop) (w:World),jx P E F M c w→(∀g,g<1000→E.ρ g=g∧E.β g=0)→(∀g,g<1000→c g)→eQ c ct→eU c args→
  ∃fn,P.funcs[f]?=some fn∧fn.body.isNone=false∧(fn.name== "runtime.NumGoroutine")=false∧
  Calls P f (aB E args).toArray w fun e w'=>∃E' c',e= .returned (conc E' v)∧jH P F E M c w E' M' c' w'∧bd c' v∧gD c ct c' ct'
def ic(P:Program)(k:Kn):Prop:=∀(F:RO) (l:Nat) (args:List V) (M:Mem) (ct:Nat) (v:V) (M':Mem) (ct':Nat),oR (o7 k F) l args M ct (dI (M.get l))= .k v M' ct'→
 ∀(E:cG) (c:Nat→Prop) (w:World) (rd:Option Nat),jx P E F M c w→(∀g,g<1000→E.ρ g=g∧E.β g=0)→(∀g,g<1000→c g)→eQ c ct→eU c args→
  ∃fn tmps asg body,(Instr.yield (E.ρ l) (aB E args).toArray).run P w= .ok (.round (E.ρ l) fn tmps asg body) w∧
  RoundIn (cC E rd) 0 P (E.ρ l) fn tmps asg body w fun e w'=>∃E' c',e= .returned (conc E' v)∧jH P F E M c w E' M' c' w'∧bd c' v∧gD c ct c' ct'
theorem oS{n:Nat}{f:FuncId}{args:Array Value}{R:Ending→World→Prop}(h:Calls P f args w R):CallsIn (cC E rd) n P f args w R:=callsIn_wide.2 h
theorem dQ{o:Op}{op:OK}(h:ax P o=some op):∀cl,o≠ .defer cl:=by
 intro cl e;subst e;cases h
theorem sB{b:Builtin}{as:List Operand}{ats:List TypeId}{x:EO}(hc:dy P b as ats=some (.e x)):x.plain=true:=by
 unfold dy at hc
 split at hc
 ·split at hc<;>first|cases hc|(split at hc<;>cases hc)
 ·split at hc<;>cases hc
 ·split at hc
  ·split at hc
   ·split at hc
    ·cases hc
    ·split at hc
     ·cases hc
     ·obtain rfl:=OK.e.inj (ae hc);rfl
   ·cases hc
  ·cases hc
 ·split at hc
  ·split at hc
   ·split at hc
    ·cases hc
    ·obtain rfl:=OK.e.inj (ae hc);rfl
   ·cases hc
  ·cases hc
 ·split at hc
  ·split at hc
   ·split at hc
    ·cases hc
    ·obtain rfl:=OK.e.inj (ae hc);rfl
   ·cases hc
  ·cases hc
 ·split at hc<;>cases hc
 ·split at hc<;>cases hc
 ·split at hc
  ·obtain⟨z,_,e⟩:=bf.1 hc;obtain rfl:=OK.e.inj e;rfl
  ·cases hc
 ·split at hc
  ·split at hc
   ·obtain rfl:=OK.e.inj (ae hc);rfl
   ·cases hc
  ·cases hc
 ·obtain⟨z,_,e⟩:=aQ.1 hc;cases e
 ·split at hc
  ·obtain⟨z,_,e⟩:=bf.1 hc;obtain rfl:=OK.e.inj e;rfl
  ·cases hc
 ·cases hc
theorem sH{o:Op}(hn:∀cl,o≠ .call cl){x:EO}(hc:ax P o=some (.e x)):x.plain=true:=by
 cases hx:x.plain with
 |true=>rfl
 |false=>
  exfalso;unfold ax at hc;split at hc
  all_goals first
   |exact absurd rfl (hn _)
   |(cases hc;done)
   |(obtain⟨z,_,e⟩:=aQ.1 hc;cases e;done)
   |(obtain⟨z,_,e⟩:=bf.1 hc;cases e;done)
   |(obtain⟨z,_,e⟩:=bf.1 hc;obtain rfl:=OK.e.inj e;cases hx;done)
   |skip
  all_goals (repeat' (first|(cases hc;done)|(obtain⟨z,_,e⟩:=aQ.1 hc;cases e;done)|(obtain⟨z,_,e⟩:=aQ.1 hc;split at e<;>cases e;done)|(obtain⟨z,_,e⟩:=bf.1 hc;cases e;done)|(obtain⟨z,_,e⟩:=bf.1 hc;obtain rfl:=OK.e.inj e;cases hx;done)|(obtain rfl:=OK.e.inj (ae hc);cases hx;done)|split at hc))
def Dn(P:Program)(F:RO)(rd:Option Nat)(E:cG)(M:Mem)(c:Nat→Prop)(ct:Nat)(w:World)(a:Act)(o:Oper)(v:V)(M':Mem)(ct':Nat):Prop:=
 ∀(next:Act→World→Prop) (Q:Exit→Act→World→Prop),(∀E' c' w',jH P F E M c w E' M' c' w'→gD c ct c' ct'→bd c' v→next (a.put o.dst (conc E' v)) w')→o.wpIn (cC E rd) 0 P a w next Q
theorem yy.op{o:Oper}(hd:∀cl,o.op≠ .defer cl){v:V}(h:yy P F E M c ct w a o v M' ct'):Dn P F rd E M c ct w a o v M' ct':=by
 intro next Q hn
 obtain⟨E',w',nx,c',hr,hnv,hS,hb,hG⟩:=h
 refine⟨fun _ _=>trivial,?_⟩
 rw[Oper.semAt_eq _ _ _ hd,hr]
 rcases hnv with rfl|⟨rfl,hv⟩
 ·exact hn E' c' w' hS hG hb
 ·have:=hn E' c' w' hS hG hb;rw[hv]at this;exact this
theorem Rg(h:Cx P E F M c w t a){o:Oper}{q:QO}(hc:ax P o.op=some (.q q)){x:V}(hx:(cE q F M t).val=some x):Dn P F rd E M c ct w a o x M ct:=by
 intro next Q hn
 obtain⟨hr,hb⟩:=aY8 h hc hx
 refine⟨fun _ _=>trivial,?_⟩
 rw[Oper.semAt_eq _ _ _ (dQ hc),hr]
 exact hn E c w (.refl h.rel) (.refl _ _) hb
theorem bg6(h:Cx P E F M c w t a)(hf:eQ c ct){o:Oper}{ao:AO}(hc:ax P o.op=some (.a ao)){v:V}{blk:bw}(ha:iE ao ct t=some (v,blk)):Dn P F rd E M c ct w a o v (M.set ct blk) (ct+1):=by
 intro next Q hn
 obtain⟨E',w',hr,hS,_,hb⟩:=Sq h hc (hf ct (ah _)) (c':=fun b=>c b∨b=ct) (.inr rfl) (fun _ h=> .inl h) ha
 refine⟨fun _ _=>trivial,?_⟩
 rw[Oper.semAt_eq _ _ _ (dQ hc),hr]
 exact hn E' _ w' hS (ka c ct) hb
theorem Md(k:Kn)(F:RO):(o7 k F).F=F:=by cases k;rfl
theorem aR6{k:Kn}(hcall:jO P k)(hy:ic P k)(h:Cx P E F M c w t a)(hf:eQ c ct){o:Oper}{eo:EO}(hc:ax P o.op=some (.e eo)){v:V}(he:ew eo (o7 k F) M ct t= .k v M' ct'):Dn P F rd E M c ct w a o v M' ct':=by
 cases hp:eo.plain with
 |true=>exact yy.op (dQ hc) (aR5 h hf hc hp (Md k F) he)
 |false=>
  have hnd:=dQ hc
  have fin:∀(f:Nat) (args:List V),(execOp a.eval o).run P w=(callFunc f (aB E args).toArray).run P w→eU c args→jz (o7 k F) f args M ct= .k v M' ct'→Dn P F rd E M c ct w a o v M' ct':=by
   intro f args hrun hba hcf next Q hn
   obtain⟨fn,hfn,hbo,hnm,hC⟩:=hcall F f args M ct v M' ct' hcf E c w h.rel h.glob h.big hf hba;refine⟨fun _ _=>trivial,?_⟩;rw[Oper.semAt_eq _ _ _ hnd,hrun];have hcfn:(callFunc f (aB E args).toArray).run P w= .ok (.enter f (aB E args).toArray) w:=by
    have h1:¬fn.name= "runtime.NumGoroutine" :=by simpa using hnm
    have h2:¬fn.body=none:=fun e=>by rw[e]at hbo;cases hbo
    simp[callFunc,hfn,h1,h2]
   rw[hcfn,Oper.uponIn_enter];refine⟨fun hd=>by simp[cC]at hd,oS (hC.mono ?_)⟩;rintro e w' ⟨E',c',rfl,hS,hb,hG⟩;exact hn E' c' w' hS hG hb
  cases hop:o.op with
  |call cl=>
   rw[hop]at hc;simp only[ax]at hc;split at hc
   ·
    rename_i b' hcal;exfalso;have hq:∀x,dy P b' cl.args.toList cl.argTypes.toList=some (.e x)→x.plain=true:=fun x hx=>sB hx;rw[hq eo hc]at hp;cases hp
   ·rename_i f hcal;split at hc
    ·rename_i fn hf0;split at hc
     ·exfalso;unfold eF at hc;split at hc
      ·cases hc
      ·split at hc
       ·split at hc
        ·split at hc<;>cases hc
        ·split at hc
         ·split at hc<;>cases hc
         ·split at hc
          ·split at hc<;>cases hc
          ·cases hc
       ·split at hc
        ·obtain⟨z,_,e⟩:=aQ.1 hc;cases e
        ·split at hc
         ·split at hc
          ·split at hc
           ·split at hc<;>cases hc
           ·cases hc
          ·cases hc
         ·cases hc
       ·cases hc
     ·obtain⟨xs,hxs,e⟩:=bf.1 hc;obtain rfl:EO.call f xs=eo:=by simpa using e
      have ev:=h.evs hxs;have hm:cl.args.map a.eval=(aB E (evs xs t)).toArray:=by
       rw[←ev.1];apply Array.ext';simp
      refine fin f (evs xs t) ?_ ev.2 he;simp only[execOp,hop,resolve,hcal,hm,Act.eval,Deferred.ofValue,aI,aF,aN,invoke,Array.empty_append,Array.append_empty]
    ·cases hc
   ·rename_i y hny hcal;split at hc
    ·rename_i x xs hx hxs;obtain rfl:EO.cv x xs=eo:=by simpa using hc
     have ev:=h.evs hxs;have e1:=h.ev hx;have hm:cl.args.map a.eval=(aB E (evs xs t)).toArray:=by
      rw[←ev.1];apply Array.ext';simp
     have he':mL (o7 k F) (x.ev t) (evs xs t) M ct= .k v M' ct':=he;cases hv:x.ev t with
     |f f first caps=>
      rw[hv]at he' e1;have he2:jz (o7 k F) f (first++(evs xs t++caps)) M ct= .k v M' ct':=he';refine fin f _ ?_ (ft e1.2.1 (ft ev.2 e1.2.2)) he2;simp only[execOp,hop,resolve,hcal,hm,e1.1,conc,Deferred.ofValue,aI,aF,aN,invoke]
      congr 2
      rw[eW,eW];simp
     |y l=>
      rw[hv]at he' e1;have he2:oR (o7 k F) l (evs xs t) M ct (dI (M.get l))= .k v M' ct':=he';intro next Q hn
      obtain⟨fn,tmps,asg,body,hyr,hR⟩:=hy F l (evs xs t) M ct v M' ct' he2 E c w rd h.rel h.glob h.big hf ev.2;refine⟨fun _ _=>trivial,?_⟩;rw[Oper.semAt_eq _ _ _ hnd];have hrun:(execOp a.eval o).run P w= .ok (.round (E.ρ l) fn tmps asg body) w:=by
       simp only[execOp,hop,resolve,hcal,hm,e1.1,conc,Deferred.ofValue,aI,aF,aN,invoke,Array.empty_append,hyr]
      rw[hrun,Oper.uponIn_round];refine⟨fun hd=>by simp[cC]at hd,hR.mono ?_⟩;rintro e w' ⟨E',c',rfl,hS,hb,hG⟩;exact hn E' c' w' hS hG hb
     |_=>rw[hv]at he';cases(show RC.f= .k v M' ct' from he')
    ·cases hc
   ·cases hc
  |_=>
   exfalso;have:=sH (by rw[hop];intro cl;simp) hc;rw[this]at hp;cases hp
end
section
variable{P:Program}{E E':cG}{F:RO}{M M':Mem}{c c':Nat→Prop}{ct ct' nt:Nat}{w w':World}{t t':T}{d d':List Nat}{a:Act}{rd:Option Nat}
theorem Gm.trans{E₁:cG}{c₁:Nat→Prop}{w₁:World}{M₁:Mem}{ct₁:Nat}(hS:jH P F E M c w E₁ M₁ c₁ w₁)(hG:gD c ct c₁ ct₁){a':Act}(h:Gm P F rd nt E₁ c₁ w₁ M₁ ct₁ t' d' M' ct' a' w'):Gm P F rd nt E c w M ct t' d' M' ct' a' w':=by
 obtain⟨E',c',hS',hG',hR⟩:=h
 exact⟨E',c',hS.trans hS',hG.trans hG',hR⟩
theorem ff(dst:Option ay)(d:List Nat)(M:Mem)(ct:Nat)(t:T)(v:V):ru dst d M ct t v=some (.mk (setT t dst v) d M ct):=by
 unfold ru;rw[Tr.force_eq]
theorem N0(dst:Option ay)(op:OK)(g:Option (ay×Bool))(k:Kn)(t:T)(d:List Nat)(M:Mem)(ct:Nat):
 dC (.mk dst op g) k (.mk t d M ct)=if wanted t g then RE op k dst t d M ct else some (.mk (setT t dst undef) d M ct):=by
 cases g with
 |none=>rfl
 |some g=>
  show(Bool.rec (motive:=fun _=>Option St) (ru dst d M ct t undef) (RE op k dst t d M ct) (wanted t (some g)))=_;rw[bb,ff]
theorem xP(o:CO)(r:List CO)(k:Kn)(s:St):cO (o::r) k s=(dC o k s).bind fun s=>cO r k s:=by
 show Option.rec (motive:=fun _=>Option St) none (fun s=>cO r k s) (dC o k s)=_
 cases dC o k s<;>rfl
theorem aj1{k:Kn}(hcall:jO P k)(hy:ic P k)(h:SR P F rd nt E c w a t d M ct){o:Oper}(hd:oX nt o.dst=true){op:OK}(hc:ax P o.op=some op){s':St}(hs:RE op (o7 k F) (o.dst.map bo) t d M ct=some s'):
 ∃v M' ct',s'= .mk (setT t (o.dst.map bo) v) d M' ct'∧Dn P F rd E M c ct w a o v M' ct':=by
 cases op with
 |q q=>
  have hs':Rv (o.dst.map bo) t d M ct (cE q (o7 k F).F M t)=some s':=hs;rw[Md]at hs';cases hq:cE q F M t with
  |f=>rw[hq]at hs';cases(show(none:Option St)=some s' from hs')
  |v x=>
   rw[hq]at hs';have hs2:ru (o.dst.map bo) d M ct t x=some s':=hs';rw[ff]at hs2;exact⟨x,M,ct,(ae hs2).symm,Rg h.cx hc (by rw[hq];rfl)⟩
  |r x b=>
   rw[hq]at hs';have hs2:ru (o.dst.map bo) d M ct t x=some s':=hs';rw[ff]at hs2;exact⟨x,M,ct,(ae hs2).symm,Rg h.cx hc (by rw[hq];rfl)⟩
 |a ao=>
  have hs':Ru (o.dst.map bo) t d M ct (iE ao ct t)=some s':=hs;cases ha:iE ao ct t with
  |none=>rw[ha]at hs';cases(show(none:Option St)=some s' from hs')
  |some p=>
   obtain⟨v,blk⟩:=p;rw[ha]at hs';have hs2:MZ (o.dst.map bo) t d M ct v blk=some s':=hs';unfold MZ at hs2;rw[Tr.force_eq,bp,ff]at hs2;exact⟨v,M.set ct blk,ct+1,(ae hs2).symm,bg6 h.cx h.fr hc ha⟩
 |e eo=>
  have hs':sI (o.dst.map bo) t d (ew eo (o7 k F) M ct t)=some s':=hs;cases he:ew eo (o7 k F) M ct t with
  |f=>rw[he]at hs';cases(show(none:Option St)=some s' from hs')
  |k v M' ct'=>
   rw[he]at hs';have hs2:ru (o.dst.map bo) d M' ct' t v=some s':=hs';rw[ff]at hs2;exact⟨v,M',ct',(ae hs2).symm,aR6 hcall hy h.cx h.fr hc he⟩
theorem qL{ops:Array Oper}{o:Oper}{co:CO}(h:t7 P nt ops o=some co):oX nt o.dst=true∧ ∃g op,co= .mk (o.dst.map bo) op g∧
 (match o.guard with
 |none=>some none
 |some (j,want)=>match (ops[j]?).bind (·.dst)with
  |some d=>some (some (bo d,want))
  |none=>none)=some g∧(ax P o.op=some op∨op= .q .bad):=by
 unfold t7 at h
 split at h
 ·cases h
 ·rename_i hd;have hd':oX nt o.dst=true:=by simpa using hd
  split at h
  ·cases h
  ·rename_i g hg;split at h
   ·rename_i op hop;obtain rfl:=ae h;exact⟨hd',g,op,rfl,hg,.inl hop⟩
   ·obtain rfl:=ae h;exact⟨hd',g,_,rfl,hg,.inr rfl⟩
theorem AV{k:Kn}(hcall:jO P k)(hy:ic P k){ops:Array Oper}{Q:Exit→Act→World→Prop}:∀(l:List Oper) (cos:List CO) (i:Nat) (E:cG) (c:Nat→Prop) (w:World) (a:Act) (t:T) (M:Mem) (ct:Nat),ops.toList.drop i=l→jW P nt ops l=some cos→
 cO cos (o7 k F) (.mk t d M ct)=some (.mk t' d' M' ct')→SR P F rd nt E c w a t d M ct→(∀a' w',Gm P F rd nt E c w M ct t' d' M' ct' a' w'→Q .normal a' w')→wpOpsIn (cC E rd) 0 P ops Q (List.range' i l.length) a w
 |[],cos,i,E,c,w,a,t,M,ct,hl,hc,hs,h,hQ=>by
  obtain rfl:=ae hc;have hs':some (St.mk t d M ct)=some (.mk t' d' M' ct'):=hs;injection hs' with hs'
  injection hs' with e1 e2 e3 e4
  subst e1 e2 e3 e4;exact hQ a w h.res
 |o::l,cos,i,E,c,w,a,t,M,ct,hl,hc,hs,h,hQ=>by
  rw[jW]at hc;split at hc
  ·rename_i co cr h1 h2;obtain rfl:=ae hc;have hi:ops[i]?=some o:=by
    have:(ops.toList.drop i)[0]?=some o:=by rw[hl];rfl
    simpa using this
   have hl':ops.toList.drop (i+1)=l:=by
    rw[←List.drop_drop,hl];rfl
   obtain⟨hd,g,op,rfl,hg,hop⟩:=qL h1;rw[xP,N0]at hs;rw[aw,List.range'_succ];simp only[wpOpsIn,hi];rw[wR h.cx.tr hg];by_cases hw:wanted t g=true
   ·rw[ac hw]at hs;rw[ac hw];obtain⟨s1,hs1,hs2⟩:=aQ.1 hs;rcases hop with hop|rfl
    ·obtain⟨v,M1,ct1,rfl,hO⟩:=aj1 hcall hy h hd hop hs1;refine hO _ _ fun E1 c1 w1 hS hG hb=>?_;have h1:=(h.stp hS hG).put hd rfl hb;rw[←eJ hS.ext h.rd];exact AV hcall hy l cr (i+1) E1 c1 w1 _ _ M1 ct1 hl' h2 hs2 h1 fun a' w' hr=>hQ a' w' (hr.trans hS hG)
    ·cases(show(none:Option St)=some s1 from hs1)
   ·rw[ab hw]at hs;rw[ab hw];refine⟨fun _ _=>trivial,?_⟩;have h1:=h.put hd (v:=undef) (val:=Go.undef) rfl trivial;exact AV hcall hy l cr (i+1) E c w _ _ M ct hl' h2 hs h1 hQ
  ·cases hc
end
def mP:Ex→Exit
 | .nrm=> .normal
 | .ret=> .ret
 | .ext id=> .exit id
 | .gto l=> .goto l
def wd(P:Program)(ex:se):Prop:=∀(rd:Option Nat) (fn:Nat) (F:RO) (cc:CC) (t:T) (d:List Nat) (M:Mem) (ct:Nat) (e:Ex) (t':T) (d':List Nat) (M':Mem) (ct':Nat),
 ex rd fn F cc (.mk t d M ct)= .k e (.mk t' d' M' ct')→ ∀(nt:Nat) (code:Code),Pj P nt code cc→ ∀(E:cG) (c:Nat→Prop) (w:World) (a:Act),SR P F rd nt E c w a t d M ct→
  ∀Q:Exit→Act→World→Prop,(∀a' w',Gm P F rd nt E c w M ct t' d' M' ct' a' w'→Q (mP e) a' w')→code.wpIn (cC E rd) 0 P Q a w
def aE3(P:Program)(ex:se)(m:Nat):Prop:=∀(rd:Option Nat) (fn:Nat) (F:RO) (b:CC) (t:T) (d:List Nat) (M:Mem) (ct:Nat) (e:Ex) (t':T) (d':List Nat) (M':Mem) (ct':Nat),
 ex rd fn F (.loop b) (.mk t d M ct)= .k e (.mk t' d' M' ct')→ ∀(nt:Nat) (code:Code),Pj P nt code b→ ∀(E:cG) (c:Nat→Prop) (w:World) (a:Act),SR P F rd nt E c w a t d M ct→
  ∀Q:Exit→Act→World→Prop,(∀a' w',Gm P F rd nt E c w M ct t' d' M' ct' a' w'→Q (mP e) a' w')→Code.roundsIn (cC E rd) 0 P code Q m a w
def Sp(P:Program)(nt:Nat)(body:Code)(tbl:CC):Prop:=∀l cl,fU l tbl=some cl→ ∃rest,findLabel body l=some rest∧Pj P nt rest cl
def dK(P:Program)(f:Nat)(g:RO→List V→Mem→Nat→RC):Prop:=∀(F:RO) (args:List V) (M:Mem) (ct:Nat) (v:V) (M':Mem) (ct':Nat),g F args M ct= .k v M' ct'→
 ∀(E:cG) (c:Nat→Prop) (w:World),jx P E F M c w→(∀g,g<1000→E.ρ g=g∧E.β g=0)→(∀g,g<1000→c g)→eQ c ct→eU c args→
  ∃fn,P.funcs[f]?=some fn∧fn.body.isNone=false∧(fn.name== "runtime.NumGoroutine")=false∧
  Calls P f (aB E args).toArray w fun e w'=>∃E' c',e= .returned (conc E' v)∧jH P F E M c w E' M' c' w'∧bd c' v∧gD c ct c' ct'
def aD9(P:Program)(f:Nat)(cf:CF):Prop:=
 match cf with
 | .mk n res body=>∃fn,P.funcs[f]?=some fn∧Q7 P fn=some (.mk n res body)
 | .orc g=>dK P f g
def en(P:Program)(Φ:Nat→Option CF):Prop:=∀f cf,Φ f=some cf→aD9 P f cf
section
variable{P:Program}{E E':cG}{F:RO}{M M':Mem}{c c':Nat→Prop}{ct ct' nt:Nat}{w w':World}{t t':T}{d d':List Nat}{a:Act}{rd:Option Nat}
theorem xV{n:Nat}:∀k,(Fx n).get k=none:=by
 induction n with
 |zero=>intro k;rfl
 |succ n ih=>
  intro k;show(Tr.n (Fx n) none (Fx n)).get k=none;rw[Tr.get_n];split
  ·rfl
  ·split
   ·exact ih _
   ·exact ih _
theorem DZ(E:cG)(args:List V)(m n:Nat):nN E (bA m args) ((aB E args).toArray++Array.replicate n Go.undef):=by
 intro k
 have hg:(bA m args).getP (bo k)=args[k]?:=by
  rw[dp];show(bG args 0 (Fx m)).get k=_;rw[cN];by_cases h:k<args.length
  ·rw[ac (by omega)];rfl
  ·rw[ab (by omega),List.getElem?_eq_none (by omega)];exact xV k
 rw[Array.getD_eq_getD_getElem?]
 by_cases h:k<args.length
 ·have hv:args[k]?=some args[k]:=List.getElem?_eq_getElem h;rw[pP (hg.trans hv)];rw[Array.getElem?_append_left (by simpa [bB]using h)];simp[bB,h]
 ·have hv:args[k]?=none:=List.getElem?_eq_none (by omega);rw[tq (hg.trans hv)];rw[Array.getElem?_append_right (by simp[bB];omega)];by_cases h2:k-(aB E args).toArray.size<n
  ·rw[Array.getElem?_replicate,ac h2];rfl
  ·rw[Array.getElem?_replicate,ab h2];rfl
theorem MG{p q:ay}(h:∀t:Tr Unit,t.getP p=t.getP q):p=q:=by
 by_cases e:q=p
 ·exact e.symm
 ·have:=h (Tr.e.setP p ());rw[Tr.getP_setP_same,Tr.getP_setP_ne p () q _ e,Tr.getP_e]at this;cases this
theorem tM(k:Nat):bo (2*k+1)= .l (bo k):=MG fun t=>by
 rw[dp]
 cases t with
 |e=>rw[Tr.getP_e];rfl
 |n l v r=>rw[Tr.getP_l,dp,Tr.get_n,ab (by omega),ab (by omega),show(2*k+1)/2=k by omega]
theorem rq(k:Nat):bo (2*k+2)= .r (bo k):=MG fun t=>by
 rw[dp]
 cases t with
 |e=>rw[Tr.getP_e];rfl
 |n l v r=>rw[Tr.getP_r,dp,Tr.get_n,ab (by omega),ac (by omega),show(2*k+2)/2-1=k by omega]
theorem jh:∀p:ay,∃k,bo k=p
 | .h=>⟨0,rfl⟩
 | .l p=>let⟨k,hk⟩:=jh p;⟨2*k+1,by rw[tM,hk]⟩
 | .r p=>let⟨k,hk⟩:=jh p;⟨2*k+2,by rw[rq,hk]⟩
theorem GD{m:Nat}{args:List V}(h:eU c args):KM c (bA m args):=by
 intro p
 have key:∀(vs:List V) (k:Nat) (t:T),eU c vs→KM c t→KM c (bG vs k t):=by
  intro vs
  induction vs with
  |nil=>intro k t _ ht;exact ht
  |cons v vs ih=>
   intro k t hv ht;rw[cK];refine ih (k+1) _ hv.2 ?_;intro q;obtain⟨j,rfl⟩:=jh q;have hg:(t.set k v).getP (bo j)=if j=k then some v else t.getP (bo j):=by
    rw[dp,dp,Tr.get_set]
   by_cases e:j=k
   ·rw[ac e]at hg;rw[pP hg];exact hv.1
   ·rw[ab e]at hg;have:=ht (bo j);unfold cd at this⊢;rw[hg];exact this
 refine key args 0 (Fx m) h ?_ p
 intro q
 obtain⟨j,rfl⟩:=jh q
 rw[tq (by rw[dp];exact xV j)];trivial
end
section
variable{P:Program}{E E':cG}{F:RO}{M M':Mem}{c c':Nat→Prop}{ct ct' nt:Nat}{w w':World}{t t':T}{d d':List Nat}{a:Act}{rd:Option Nat}
theorem Fh(r:RV)(l:List RV):dH F M t (r::l)=(tR F M t r).bind fun v=>(dH F M t l).map (v:: ·):=by
 show Option.rec (motive:=fun _=>Option (List V)) none (fun v=>pG v (dH F M t l)) (tR F M t r)=_
 cases tR F M t r with
 |none=>rfl
 |some v=>
  show pG v (dH F M t l)=(dH F M t l).map (v:: ·);unfold pG;cases dH F M t l<;>rfl
def MR(tmps:Array Value):ResultVar→Sem Value
 | .tmp n=>pure (tmps.getD n Go.undef)
 | .cell ad ty=>do loadVar ty (←asAddr (tmps.getD ad Go.undef))
theorem MS(h:Cx P E F M c w t a){x:ResultVar}{r:RV}(hc:XM P x=some r){v:V}(hv:tR F M t r=some v):
 (MR a.tmps x).run P w= .ok (conc E v) w∧bd c v:=by
 unfold MR
 cases x with
 |tmp n=>
  obtain rfl:=ae hc;obtain rfl:cd t (bo n)=v:=ae hv;exact⟨by simp[h.tr n],h.bt _⟩
 |cell ad ty=>
  have hn:=h.tr ad;have hc':(match pB P ty,de P ty with
   |some true,some n=>some (RV.cn (bo ad) n)
   |some false,some _=>some (RV.c1 (bo ad))
   |_,_=>none)=some r:=hc
  replace hc:=hc';clear hc'
  ·split at hc
   ·rename_i n h1 h2;obtain rfl:=ae hc;have hv':(pC (cd t (bo ad)) none fun b o=>Option.rec (motive:=fun _=>Option V) none (fun l=>some (.g l)) (loadN F M b o n))=some v:=hv;cases hg:cd t (bo ad)with
    |p b o=>
     rw[hg]at hv' hn;have hv2:Option.rec (motive:=fun _=>Option V) none (fun l=>some (.g l)) (loadN F M b o n)=some v:=hv';cases hl:loadN F M b o n with
     |none=>rw[hl]at hv2;cases hv2
     |some l=>
      rw[hl]at hv2;obtain rfl:V.g l=v:=ae hv2;have hL:=h.loadN hl;refine⟨?_,hL.2.1⟩;simp only[hn,conc,asAddr,loadVar,aI,aF,aN,iO h1,Sem.run_ite,if_true,d6 h2,hL.1]
    |_=>rw[hg]at hv';cases(show(none:Option V)=some v from hv')
   ·rename_i n h1 h2;obtain rfl:=ae hc;have hv':(pC (cd t (bo ad)) none fun b o=>load1 F M b o)=some v:=hv;cases hg:cd t (bo ad)with
    |p b o=>
     rw[hg]at hv' hn;have hL:=h.load1 (show Ev.load1 F M b o=some v from hv');refine⟨?_,hL.2⟩;simp only[hn,conc,asAddr,loadVar,aI,aF,aN,iO h1,Sem.run_ite,bn,if_false,run_load,hL.1]
    |_=>rw[hg]at hv';cases(show(none:Option V)=some v from hv')
   ·cases hc
theorem CT(h:Cx P E F M c w t a):∀{xs:List ResultVar} {rs:List RV} {vs:List V},nT P xs=some rs→dH F M t rs=some vs→
 (xs.mapM (MR a.tmps)).run P w= .ok (aB E vs) w∧eU c vs
 |[],rs,vs,hc,hv=>by
  obtain rfl:=ae hc;obtain rfl:[]=vs:=ae hv;exact⟨rfl,trivial⟩
 |x::xs,rs,vs,hc,hv=>by
  rw[nT]at hc;split at hc
  ·rename_i r rr h1 h2;obtain rfl:=ae hc;rw[Fh]at hv;obtain⟨v,hv1,hv2⟩:=aQ.1 hv;obtain⟨vs',hv3,rfl⟩:=bf.1 hv2;have e1:=MS h h1 hv1;have e2:=CT h h2 hv3;refine⟨?_,e1.2,e2.2⟩;simp only[List.mapM_cons,aI,e1.1,e2.1,aN,aF,aB]
  ·cases hc
theorem AM(h:Cx P E F M c w t a){fn:Func}{rs:List RV}{vs:List V}(hc:nT P fn.results.toList=some rs)(hv:dH F M t rs=some vs):
 (results fn a.tmps).run P w= .ok (conc E (pD vs)) w∧bd c (pD vs):=by
 have e:=CT h hc hv
 have hm:(fn.results.mapM (MR a.tmps)).run P w= .ok (aB E vs).toArray w:=by
  rw[←Array.toArray_toList (xs:=fn.results),List.mapM_toArray];simp[e.1]
 show(bind (fn.results.mapM (MR a.tmps)) _).run P w=_∧_
 rw[aI,hm]
 match vs,e.2 with
 |[],_=>exact⟨rfl,trivial⟩
 |[v],hb=>exact⟨rfl,hb.1⟩
 |v::v'::l,hb=>
  refine⟨?_,hb⟩;show Result.ok _ w=_
  congr 1
end
section
variable{P:Program}{E E':cG}{F:RO}{M M':Mem}{c c':Nat→Prop}{ct ct' nt:Nat}{w w':World}{t t':T}{d d':List Nat}{a:Act}{rd:Option Nat}
theorem sL(b:Nat)(ds:List Nat)(M:Mem):dw (b::ds) M=match M.get b with
 |some (.defs false)=>dw ds (M.set b (.defs true))
 |_=>none:=by
 show Option.rec (motive:=fun _=>Option Mem) none (fun blk=>NH (dw ds) M b blk) (M.get b)=_
 cases M.get b with
 |none=>rfl
 |some blk=>
  cases blk with
  |defs x=>
   cases x with
   |true=>rfl
   |false=>exact Tr.force_eq _ _
  |_=>rfl
theorem tA{fn:Func}{R:Ending→World→Prop}{t:T}{tmps:Array Value}{M₂:Mem}:∀(ds:List Nat) (M:Mem) (w:World),dw ds M=some M₂→jx P E F M c w→
 (∀w',jH P F E M c w E M₂ c w'→ ∃v,(results fn tmps).run P w'= .ok v w'∧R (.returned v) w')→
 LeavesInM Fence.wide 0 P fn tmps R (ds.map fun b=>{target:= .collected (E.ρ b),args:=#[]}) .returning w
 |[],M,w,hm,h,hR=>by
  obtain rfl:M=M₂:=ae hm;exact hR w (.refl h)
 |b::ds,M,w,hm,h,hR=>by
  rw[sL]at hm;split at hm
  ·rename_i hM;obtain⟨_,_,o,ho,hrel⟩:=h.has _ _ (au hM);have hrel':o= .deferred (some []):=hrel;subst hrel';have hS:=h.write b _ (.defs true) hM (.deferred none) trivial (w.putObj (E.ρ b) (.deferred none)) rfl rfl rfl rfl rfl;refine⟨by simp,.inl ⟨E.ρ b,w.putObj (E.ρ b) (.deferred none),rfl,run_takeDeferred ho,?_⟩⟩;exact tA (t:=t) ds _ _ hm hS.rel fun w' hS'=>hR w' (hS.trans hS')
  ·cases hm
theorem zH{ex:se}{f:Nat}{args:List V}{o:Option CF}{v:V}(h:da ex F f args M ct o= .k v M' ct'):(∃n res body e t1 d1 M1 vs,o=some (.mk n res body)∧ex none f F body (.mk (bA n args) [] M ct)= .k e (.mk t1 d1 M1 ct')∧(e= .nrm∨e= .ret)∧dw d1 M1=some M'∧dH F M' t1 res=some vs∧v=pD vs)∨ ∃g,o=some (.orc g)∧g F args M ct= .k v M' ct':=by
 cases o with
 |none=>cases(show RC.f= .k v M' ct' from h)
 |some cf=>
  cases cf with
  |orc g=>exact .inr ⟨g,rfl,h⟩
  |mk n res body=>
  left;have h':k8 res F (ex none f F body (.mk (bA n args) [] M ct))= .k v M' ct':=h;cases hx:ex none f F body (.mk (bA n args) [] M ct)with
  |f=>rw[hx]at h';cases(show RC.f= .k v M' ct' from h')
  |k e s=>
   obtain⟨t1,d1,M1,c1⟩:=s;rw[hx]at h';have h2:Bool.rec (motive:=fun _=>RC) .f (uP res F t1 c1 (dw d1 M1)) (Ch e)= .k v M' ct':=h';rw[bb]at h2;split at h2
   ·rename_i he;cases hm:dw d1 M1 with
    |none=>rw[hm]at h2;cases(show RC.f= .k v M' ct' from h2)
    |some M2=>
     rw[hm]at h2;have h3:uQ c1 M2 (dH F M2 t1 res)= .k v M' ct':=h2;cases hr:dH F M2 t1 res with
     |none=>rw[hr]at h3;cases(show RC.f= .k v M' ct' from h3)
     |some vs=>
      rw[hr]at h3;have h4:RC.k (pD vs) M2 c1= .k v M' ct':=h3;injection h4 with e1 e2 e3
      subst e1 e2 e3;refine⟨n,res,body,e,t1,d1,M1,vs,rfl,hx,?_,hm,hr,rfl⟩;cases e with
      |nrm=>exact .inl rfl
      |ret=>exact .inr rfl
      |ext id=>cases(show false=true from he)
      |gto l=>cases(show false=true from he)
   ·cases h2
theorem Eg{fn:Func}{n:Nat}{res:List RV}{body:CC}(h:Q7 P fn=some (.mk n res body)):(fn.name== "runtime.NumGoroutine")=false∧ ∃b,fn.body=some b∧Pj P fn.ntmps b body∧nT P fn.results.toList=some res:=by
 unfold Q7 at h
 split at h
 ·cases h
 ·rename_i hn;refine⟨by simpa using hn,?_⟩;split at h
  ·cases h
  ·rename_i b hb;split at h
   ·rename_i body' res' h1 h2;injection h with h
    injection h with e0 e1 e2
    subst e0 e1 e2;exact⟨b,hb,⟨_,h1⟩,h2⟩
   ·cases h
theorem gu{Φ:Nat→Option CF}{ex:se}(hΦ:en P Φ)(hex:wd P ex)(rd:Option Nat)(fn:Nat)(F₀:RO):jO P (.mk Φ ex rd fn F₀):=by
 intro F f args M ct v M' ct' h E c w hrel hglob hbig hfr hargs
 have h':da ex F f args M ct (Φ f)= .k v M' ct':=h
 rcases zH h' with⟨n,res,body,e,t1,d1,M1,vs,ho,hx,he,hm,hr,rfl⟩|⟨g,ho,hg⟩
 case inr=>
  have hok:dK P f g:=hΦ f _ ho;exact hok F args M ct v M' ct' hg E c w hrel hglob hbig hfr hargs
 obtain⟨fn',hfn,hcomp⟩:∃fn,P.funcs[f]?=some fn∧Q7 P fn=some (.mk n res body):=hΦ f _ ho
 obtain⟨hnm,b,hb,hsim,hres⟩:=Eg hcomp
 refine⟨fn',hfn,by rw[hb];rfl,hnm,?_⟩
 refine(callsIn_wide (n:=0)).1 (callsIn_of_wp_marks hfn hb trivial ?_)
 have hSR:SR P F none fn'.ntmps E c w {tmps:=(aB E args).toArray++Array.replicate (fn'.ntmps-(aB E args).toArray.size) Go.undef,defers:=[]} (bA n args) [] M ct:=
  ⟨⟨hrel,hglob,hbig,DZ E args _ _,GD hargs⟩,hfr,rfl,fun b hb=>by simp at hb,by simp;omega,fun l hl=>by cases hl⟩
 refine hex none f F body _ [] M ct e t1 d1 M1 ct' hx fn'.ntmps b hsim E c w _ hSR _ ?_
 rintro a' w' ⟨E',c',hS,hG,hR⟩
 have key:LeavesInM Fence.wide 0 P fn' a'.tmps (fun e w'=>∃E' c',e= .returned (conc E' (pD vs))∧jH P F E M c w E' M' c' w'∧bd c' (pD vs)∧gD c ct c' ct') a'.defers .returning w':=by
  rw[hR.df];refine tA (t:=t1) d1 M1 w' hm hR.cx.rel fun w2 hS2=>?_;have hcx:Cx P E' F M' c' w2 t1 a':=⟨hS2.rel,hR.cx.glob,hR.cx.big,hR.cx.tr,hR.cx.bt⟩
  have hres':=AM hcx hres hr;exact⟨_,hres'.1,E',c',rfl,hS.trans hS2,hres'.2,hG⟩
 rcases he with rfl|rfl
 ·exact key
 ·exact key
end
section
variable{P:Program}{E E':cG}{F:RO}{M M':Mem}{c c':Nat→Prop}{ct ct' nt:Nat}{w w':World}{t t':T}{d d':List Nat}{a:Act}{rd:Option Nat}
theorem dS{o:Option bw}{s:LS}{pe:ud}{fn:Nat}{tm:T}{ps:List ay}{asg body:CC}{dn:Nat}(h:dI o= .k s pe fn tm ps asg body dn):o=some (.loop s pe fn tm ps asg body dn):=by
 unfold dI at h
 split at h
 ·injection h with e1 e2 e3 e4 e5 e6 e7 e8
  subst e1 e2 e3 e4 e5 e6 e7 e8;rfl
 ·cases h
theorem nw{E:cG}:∀(ps:List Nat) (vs:List V) (t t':T) (tmps:Array Value),d8 (ps.map bo) vs t=some t'→nN E t tmps→(∀p∈ps,p<tmps.size)→
 ps.length=vs.length∧nN E t' ((ps.zip (aB E vs)).foldl (fun tm (p:Nat×Value)=>tm.setIfInBounds p.1 p.2) tmps)
 |[],[],t,t',tmps,h,ht,_=>by
  obtain rfl:t=t':=ae h;exact⟨rfl,ht⟩
 |p::ps,v::vs,t,t',tmps,h,ht,hp=>by
  have h':d8 (ps.map bo) vs (t.setP (bo p) v)=some t':=by
   have:(t.setP (bo p) v).force (fun t=>d8 (ps.map bo) vs t)=some t':=h
   rwa [Tr.force_eq]at this
  have h1:nN E (t.setP (bo p) v) (tmps.setIfInBounds p (conc E v)):=
   qo (a:=⟨tmps,[]⟩) (dst:=some p) ht (fun k hk=>by cases hk;exact hp p (by simp)) rfl
  have ih:=nw ps vs _ t' _ h' h1 (fun q hq=>by simpa using hp q (by simp[hq]));exact⟨by simp[ih.1],by simpa [aB]using ih.2⟩
 |[],_::_,t,t',tmps,h,_,_=>by cases h
 |_::_,[],t,t',tmps,h,_,_=>by cases h
theorem nv:∀(ps:List ay) (vs:List V) (t t':T),d8 ps vs t=some t'→eU c vs→KM c t→KM c t'
 |[],[],t,t',h,_,ht=>by obtain rfl:t=t':=ae h;exact ht
 |p::ps,v::vs,t,t',h,hv,ht=>by
  have h':d8 ps vs (t.setP p v)=some t':=by
   have:(t.setP p v).force (fun t=>d8 ps vs t)=some t':=h
   rwa [Tr.force_eq]at this
  exact nv ps vs _ t' h' hv.2 (uD (dst:=some p) ht hv.1)
 |[],_::_,t,t',h,_,_=>by cases h
 |_::_,[],t,t',h,_,_=>by cases h
theorem zZ(ps:List (Nat×Value)):∀tmps:Array Value,(ps.foldl (fun tm (p:Nat×Value)=>tm.setIfInBounds p.1 p.2) tmps).size=tmps.size:=by
 induction ps with
 |nil=>intro tmps;rfl
 |cons p ps ih=>intro tmps;rw[List.foldl_cons,ih];simp
end
section
variable{P:Program}{E E':cG}{F:RO}{M M':Mem}{c c':Nat→Prop}{ct ct' nt:Nat}{w w':World}{t t':T}{d d':List Nat}{a:Act}{rd:Option Nat}
theorem zJ{Φ:Nat→Option CF}{ex:se}{rd₀:Option Nat}{fn₀:Nat}{l:Nat}{args:List V}{o:Option bw}{v:V}(h:oR (.mk Φ ex rd₀ fn₀ F) l args M ct (dI o)= .k v M' ct'):
 ∃pe fn tm ps asg body dn tp t1 M1 ct1 pe1 fn1 tm1 ps1 a1 b1 dn1 e t2 M3 s3 pe3 fn3 tm3 ps3 a3 b3 dn3 s4 pe4 r,o=some (.loop .ready pe fn tm ps asg body dn)∧d8 ps args tm=some tp∧
  ex (some l) fn F asg (.mk tp [] M ct)= .k .nrm (.mk t1 [] M1 ct1)∧M1.get l=some (.loop .ready pe1 fn1 tm1 ps1 a1 b1 dn1)∧
  ex (some l) fn F body (.mk t1 [] (M1.set l (.loop .busy pe1 fn1 tm1 ps1 a1 b1 dn1)) ct1)= .k e (.mk t2 [] M3 ct')∧M3.get l=some (.loop s3 pe3 fn3 tm3 ps3 a3 b3 dn3)∧
  ((e= .nrm∧s4= .ready∧pe4= .none∧r=true)∨(e= .ret∧s4= .done∧pe4= .ret∧r=false)∨(∃id,e= .ext id∧s4= .done∧pe4= .ext id∧r=false))∧
  v= .b r∧M'=M3.set l (.loop s4 pe4 fn3 tm3 ps3 a3 b3 dn3):=by
 cases hl:dI o with
 |f=>rw[hl]at h;cases h
 |k s pe fn tm ps asg body dn=>
  rw[hl]at h;cases s with
  |ready=>
   have ho:=dS hl;cases hp:d8 ps args tm with
   |none=>
    have h1:Bv (.mk Φ ex rd₀ fn₀ F) l fn asg body M ct (d8 ps args tm)= .k v M' ct':=h;rw[hp]at h1;cases h1
   |some tp=>
    have h1:Bv (.mk Φ ex rd₀ fn₀ F) l fn asg body M ct (d8 ps args tm)= .k v M' ct':=h;rw[hp]at h1;have h2:kD (.mk Φ ex rd₀ fn₀ F) l fn body (ex (some l) fn F asg (.mk tp [] M ct))= .k v M' ct':=h1;unfold kD at h2;split at h2
    ·rename_i t1 M1 ct1 hx1;unfold oI at h2;split at h2
     ·rename_i pe1 fn1 tm1 ps1 a1 b1 dn1 hl1;rw[Tr.force_eq]at h2;have h3:kE l (ex (some l) fn F body (.mk t1 [] (M1.set l (.loop .busy pe1 fn1 tm1 ps1 a1 b1 dn1)) ct1))= .k v M' ct':=h2;unfold kE at h3;split at h3
      ·cases h3
      ·rename_i e t2 d2 M3 ct2 hx2;split at h3
       ·have key:∀(s4:LS) (pe4:ud) (r:Bool),yn M3 l ct2 s4 pe4 r (dI (M3.get l))= .k v M' ct'→ ∃s3 pe3 fn3 tm3 ps3 a3 b3 dn3,M3.get l=some (.loop s3 pe3 fn3 tm3 ps3 a3 b3 dn3)∧v= .b r∧M'=M3.set l (.loop s4 pe4 fn3 tm3 ps3 a3 b3 dn3)∧ct'=ct2:=by
         intro s4 pe4 r hy;unfold yn at hy;split at hy
         ·rename_i s3 pe3 fn3 tm3 ps3 a3 b3 dn3 hl3;rw[pV]at hy;injection hy with g1 g2 g3
          exact⟨_,_,_,_,_,_,_,_,dS hl3,g1.symm,g2.symm,g3.symm⟩
         ·cases hy
        split at h3
        ·obtain⟨s3,pe3,fn3,tm3,ps3,a3,b3,dn3,hM3,hv,hM',hct⟩:=key _ _ _ h3;subst hct;exact⟨pe,fn,tm,ps,asg,body,dn,tp,t1,M1,ct1,pe1,fn1,tm1,ps1,a1,b1,dn1,_,t2,M3,s3,pe3,fn3,tm3,ps3,a3,b3,dn3,.ready,.none,true,ho,hp,hx1,dS hl1,hx2,hM3,.inl ⟨rfl,rfl,rfl,rfl⟩,hv,hM'⟩
        ·obtain⟨s3,pe3,fn3,tm3,ps3,a3,b3,dn3,hM3,hv,hM',hct⟩:=key _ _ _ h3;subst hct;exact⟨pe,fn,tm,ps,asg,body,dn,tp,t1,M1,ct1,pe1,fn1,tm1,ps1,a1,b1,dn1,_,t2,M3,s3,pe3,fn3,tm3,ps3,a3,b3,dn3,.done,.ret,false,ho,hp,hx1,dS hl1,hx2,hM3,.inr (.inl ⟨rfl,rfl,rfl,rfl⟩),hv,hM'⟩
        ·rename_i id;obtain⟨s3,pe3,fn3,tm3,ps3,a3,b3,dn3,hM3,hv,hM',hct⟩:=key _ _ _ h3;subst hct;exact⟨pe,fn,tm,ps,asg,body,dn,tp,t1,M1,ct1,pe1,fn1,tm1,ps1,a1,b1,dn1,_,t2,M3,s3,pe3,fn3,tm3,ps3,a3,b3,dn3,.done,.ext id,false,ho,hp,hx1,dS hl1,hx2,hM3,.inr (.inr ⟨id,rfl,rfl,rfl,rfl⟩),hv,hM'⟩
        ·cases h3
       ·cases h3
     ·cases h2
    ·cases h2
  |_=>cases h
end
section
variable{P:Program}{E E':cG}{F:RO}{M M':Mem}{c c':Nat→Prop}{ct ct' nt:Nat}{w w':World}{t t':T}{d d':List Nat}{a:Act}{rd:Option Nat}
theorem rY{Φ:Nat→Option CF}{ex:se}(hex:wd P ex)(rd₀:Option Nat)(fn₀:Nat)(F₀:RO):ic P (.mk Φ ex rd₀ fn₀ F₀):=by
 intro F l args M ct v M' ct' h E c w rd hrel hglob hbig hfr hargs
 obtain⟨pe,fn,tm,ps,asg,body,dn,tp,t1,M1,ct1,pe1,fn1,tm1,ps1,a1,b1,dn1,e,t2,M3,s3,pe3,fn3,tm3,ps3,a3,b3,dn3,s4,pe4,r,ho,hp,hx1,hM1,hx2,hM3,hcase,rfl,rfl⟩:=zJ (rd₀:=rd₀) (fn₀:=fn₀) h
 obtain⟨hcl,hbd,ob,hob,fn',tmps,params,ca,cb,rfl,htr,hps,nt,hnt,hpar,hsa,hsb⟩:=hrel.has _ _ (au ho)
 subst hps
 obtain⟨hlen,htr'⟩:=nw params.toList args tm tp tmps hp htr (fun p hp'=>Nat.lt_of_lt_of_le (hpar p hp') hnt)
 have hy:=run_yield (P:=P) (args:=(aB E args).toArray) hob (by simp[bB];rw[←hlen];simp)
 have hfold:(params.zip (aB E args).toArray).foldl (fun tmps (t,a)=>tmps.setIfInBounds t a) tmps=(params.toList.zip (aB E args)).foldl (fun tm (p:Nat×Value)=>tm.setIfInBounds p.1 p.2) tmps:=by
  rw[←Array.foldl_toList];simp
 simp only[hfold]at hy
 refine⟨fn',_,ca,cb,hy,roundIn_of_wpIn trivial ?_⟩
 have hSR:SR P F (some l) nt E c w {tmps:=(params.toList.zip (aB E args)).foldl (fun tm (p:Nat×Value)=>tm.setIfInBounds p.1 p.2) tmps,defers:=[]} tp [] M ct:=
  ⟨⟨hrel,hglob,hbig,htr',nv _ _ _ _ hp hargs hbd.1⟩,hfr,rfl,fun b hb=>by simp at hb,by rw[zZ];exact hnt,fun l' hl'=>by cases hl';exact hcl⟩
 refine hex (some l) fn F asg tp [] M ct .nrm t1 [] M1 ct1 hx1 nt ca hsa E c w _ hSR _ ?_
 rintro a1' w1 ⟨E1,c1,hS1,hG1,hR1⟩
 obtain⟨hcl1,hbd1,ob1,hob1,fn1',tmps1,params1,ca1,cb1,rfl,htr1,hps1,hnt1⟩:=hR1.cx.rel.has _ _ (au hM1)
 have hρ1:E1.ρ l=E.ρ l:=hS1.ext.ρ l hcl
 have hbr:=run_beginRound (P:=P) (l:=E.ρ l) (by rw[←hρ1];exact hob1) rfl
 refine⟨_,hbr,?_⟩
 have hS2:=hR1.cx.rel.write l _ (.loop .busy pe1 fn1 tm1 ps1 a1 b1 dn1) hM1 (.loop {state:= .busy,pending:=Au pe1,fn:=fn1',tmps:=tmps1,params:=params1,assign:=ca1,body:=cb1,defers:=E1.ρ dn1}) hbd1
  (w1.putObj (E.ρ l) (.loop {state:= .busy,pending:=Au pe1,fn:=fn1',tmps:=tmps1,params:=params1,assign:=ca1,body:=cb1,defers:=E1.ρ dn1})) (by rw[hρ1];rfl) rfl rfl rfl
  ⟨fn1',tmps1,params1,ca1,cb1,rfl,htr1,hps1,hnt1⟩
 have hSR2:=hR1.stp hS2 (.refl _ _)
 have hfe:cC E1 (some l)=(cC E rd).inRound (E.ρ l):=by unfold cC Fence.inRound;simp[hρ1]
 rw[←hfe]
 refine hex (some l) fn F body t1 [] _ ct1 e t2 [] M3 ct' hx2 nt cb hsb E1 c1 _ _ hSR2 _ ?_
 rintro a2 w3 ⟨E3,c3,hS3,hG3,hR3⟩
 obtain⟨hcl3,hbd3,ob3,hob3,fn3',tmps3,params3,ca3,cb3,rfl,htr3,hps3,hnt3⟩:=hR3.cx.rel.has _ _ (au hM3)
 have hρ3:E3.ρ l=E.ρ l:=(hS3.ext.ρ l hcl1).trans hρ1
 have fin:∀(jump:Option Code),aV5 s4=(if jump.isNone then .ready else .done)→Au pe4=jump→r=jump.isNone→
  ∃v' w',(Instr.endRound (E.ρ l) jump).run P w3= .ok v' w'∧ ∃E' c',Ending.returned v'= .returned (conc E' (.b r))∧jH P F E M c w E' (M3.set l (.loop s4 pe4 fn3 tm3 ps3 a3 b3 dn3)) c' w'∧bd c' (.b r)∧gD c ct c' ct':=by
  intro jump h1 h2 h3;have her:=run_endRound (P:=P) (l:=E.ρ l) jump (by rw[←hρ3];exact hob3);refine⟨_,_,her,E3,c3,by rw[h3];rfl,?_,trivial,hG1.trans hG3⟩;refine((hS1.trans hS2).trans hS3).trans (hR3.cx.rel.write l _ (.loop s4 pe4 fn3 tm3 ps3 a3 b3 dn3) hM3 (.loop {state:=if jump.isNone then .ready else .done,pending:=jump,fn:=fn3',tmps:=tmps3,params:=params3,assign:=ca3,body:=cb3,defers:=E3.ρ dn3}) hbd3 _ (by rw[hρ3];rfl) rfl rfl rfl ?_);exact⟨fn3',tmps3,params3,ca3,cb3,by rw[h1,h2],htr3,hps3,hnt3⟩
 rcases hcase with⟨rfl,rfl,rfl,rfl⟩|⟨rfl,rfl,rfl,rfl⟩|⟨id,rfl,rfl,rfl,rfl⟩
 ·exact fin none rfl rfl rfl
 ·exact fin (some .ret) rfl rfl rfl
 ·exact fin (some (.exit id)) rfl rfl rfl
end
section
variable{Fn:Fence}{n:Nat}{P:Program}{b:Frame}{a:Act}{k:List Item}{cs:List Frame}{w:World}{Q:Exit→Act→World→Prop}
theorem xZ{c:Code}:step P (lone (b.atR a (.code (.scope c)::k)) cs w)= .next (lone (b.atR a (.code c:: .inScope c::k)) cs w):=
 step_lone_go (by simp[stepG,stepG.exec,Frame.atR])
theorem sK{c:Code}:step P (lone (b.atR a (.inScope c::k)) cs w)= .next (lone (b.atR a k) cs w):=
 step_lone_go (by simp[stepG,stepG.exec,Frame.atR])
def cD(body:Code)(J:Code→Act→World→Prop)(Q:Exit→Act→World→Prop):Exit→Act→World→Prop
 | .goto l,a,w=>match findLabel body l with
   |some rest=>J rest a w
   |none=>Q (.goto l) a w
 |e,a,w=>Q e a w
def eR(Fn:Fence)(n:Nat)(P:Program)(body:Code)(Q:Exit→Act→World→Prop):Nat→Code→Act→World→Prop
 |0,_,_,_=>False
 |m+1,c,a,w=>c.wpIn Fn n P (cD body (eR Fn n P body Q m) Q) a w
theorem Bs{body:Code}(m:Nat)(h:eR Fn n P body Q m body a w):(Code.scope body).wpIn Fn n P Q a w:=by
 intro b k cs hro hb hr
 have hx:∀id,exitTo id (.inScope body::k)=exitTo id k:=fun id=>by simp[exitTo]
 have key:∀m c a w,eR Fn n P body Q m c a w→
  ∃e a' w',Q e a' w'∧ArrivesIn (Machine.fenced P Fn) P (lone (b.atR a (.code c:: .inScope body::k)) cs w) b k cs e a' w':=by
  intro m
  induction m with
  |zero=>intro c a w h;exact h.elim
  |succ m ih=>
   intro c a w h;obtain⟨e,a₁,w₁,hq,harr⟩:=h b (.inScope body::k) cs hro hb hr;cases e with
   |normal=>exact⟨.normal,a₁,w₁,hq,StepsIn.trans harr (.one (fenced_calm hb hr rfl) sK)⟩
   |exit id=>
    exact⟨.exit id,a₁,w₁,hq,fun k' hk=>harr.1 k' (by rw[hx];exact hk),
     fun hr' hk=>harr.2 hr' (by rw[hx];exact hk)⟩
   |goto l=>
    cases hf:findLabel body l with
    |none=>
     have hq':Q (.goto l) a₁ w₁:=by
      have:cD body (eR Fn n P body Q m) Q (.goto l) a₁ w₁:=hq;unfold cD at this;dsimp only at this;rw[hf]at this;exact this
     have hg:gotoIn l (.inScope body::k)=gotoIn l k:=by simp[gotoIn,hf]
     exact⟨.goto l,a₁,w₁,hq',fun k' hk=>harr.1 k' (by rw[hg];exact hk),fun hr' hk=>harr.2 hr' (by rw[hg];exact hk)⟩
    |some rest=>
     have hq':eR Fn n P body Q m rest a₁ w₁:=by
      have:cD body (eR Fn n P body Q m) Q (.goto l) a₁ w₁:=hq;unfold cD at this;dsimp only at this;rw[hf]at this;exact this
     obtain⟨e₂,a₂,w₂,hq₂,harr₂⟩:=ih rest a₁ w₁ hq';have hg:gotoIn l (.inScope body::k)=some (.code rest:: .inScope body::k):=by simp[gotoIn,hf]
     exact⟨e₂,a₂,w₂,hq₂,.of_steps (harr.1 _ hg) harr₂⟩
   |ret=>exact⟨_,a₁,w₁,hq,harr⟩
   |panic ch=>exact⟨_,a₁,w₁,hq,harr⟩
   |outgrown=>exact⟨_,a₁,w₁,hq,harr⟩
 obtain⟨e,a',w',hq,harr⟩:=key m body a w h
 exact⟨e,a',w',hq,.of_steps (.one (fenced_calm hb hr rfl) xZ) harr⟩
end
section
variable{P:Program}{E E':cG}{F:RO}{M M':Mem}{c c':Nat→Prop}{ct ct' nt:Nat}{w w':World}{t t':T}{d d':List Nat}{a:Act}{rd:Option Nat}
def Zo(P:Program)(k:Kn):Prop:=∀(F:RO) (rd:Option Nat) (nt id:Nat) (ops:Array Oper) (cos:List CO),jW P nt ops ops.toList=some cos→ ∀(n:Nat) (l:List (Nat×Nat×CO)),td ops cos= .dreg n l→
 ∀(t:T) (d:List Nat) (M:Mem) (ct:Nat) (e:Ex) (t':T) (d':List Nat) (M':Mem) (ct':Nat),L6 n l (o7 k F) (.mk t d M ct)= .k e (.mk t' d' M' ct')→
 ∀(E:cG) (c:Nat→Prop) (w:World) (a:Act),SR P F rd nt E c w a t d M ct→ ∀Q:Exit→Act→World→Prop,(∀a' w',Gm P F rd nt E c w M ct t' d' M' ct' a' w'→Q (mP e) a' w')→(Code.region id ops true).wpIn (cC E rd) 0 P Q a w
theorem F2{pe:ud}{n:Nat}{Fn:Fence}{Q:Exit→Act→World→Prop}{e:Ex}{s:St}{s':St}(h:vp s pe= .k e s')(hq:Q (mP e) a w):
 (match Au pe with
  |none=>Q .normal a w
  |some c=>c.wpIn Fn n P Q a w):=by
 cases pe with
 |none=>
  have h':Rs.k .nrm s= .k e s':=h;injection h' with h1 h2
  subst h1;exact hq
 |ret=>
  have h':Rs.k .ret s= .k e s':=h;injection h' with h1 h2
  subst h1;exact wpIn_ret hq
 |ext id=>
  have h':Rs.k (.ext id) s= .k e s':=h;injection h' with h1 h2
  subst h1;exact wpIn_exit hq
theorem Fk{pe:ud}{e:Ex}{s s':St}(h:vp s pe= .k e s'):s'=s:=by
 cases pe with
 |none=>have h':Rs.k .nrm s= .k e s':=h;injection h' with h1 h2;exact h2.symm
 |ret=>have h':Rs.k .ret s= .k e s':=h;injection h' with h1 h2;exact h2.symm
 |ext id=>have h':Rs.k (.ext id) s= .k e s':=h;injection h' with h1 h2;exact h2.symm
theorem xM{l:Nat}{r:RC}{e:Ex}{s':St}(h:kq t d l r= .k e s'):∃v M1 c1 s pe fn tm ps a b dn,r= .k v M1 c1∧M1.get l=some (.loop s pe fn tm ps a b dn)∧s≠ .busy∧
 vp (.mk t d (M1.set l (.loop .exhausted pe fn tm ps a b dn)) c1) pe= .k e s':=by
 cases r with
 |f=>cases(show Rs.f= .k e s' from h)
 |k v M1 c1=>
  have h1:MT t d M1 c1 l (dI (M1.get l))= .k e s':=h;cases hl:dI (M1.get l)with
  |f=>rw[hl]at h1;cases(show Rs.f= .k e s' from h1)
  |k s pe fn tm ps a b dn=>
   rw[hl]at h1;refine⟨v,M1,c1,s,pe,fn,tm,ps,a,b,dn,rfl,dS hl,?_,?_⟩
   ·rintro rfl;cases(show Rs.f= .k e s' from h1)
   ·unfold MT at h1;split at h1
    ·cases h1
    ·rename_i heq;injection heq with e1 e2 e3 e4 e5 e6 e7 e8
     subst e1 e2 e3 e4 e5 e6 e7 e8;split at h1
     ·cases h1
     ·rw[Tr.force_eq]at h1;exact h1
theorem zI{k:Kn}{v:V}{args:List V}{x:V}(h:jV k v args M ct= .k x M' ct'):∃f first caps,v= .f f first caps∧jz k f (first++(args++caps)) M ct= .k x M' ct':=by
 cases v with
 |f f first caps=>exact⟨f,first,caps,rfl,h⟩
 |_=>cases(show RC.f= .k x M' ct' from h)
theorem CV{Φ:Nat→Option CF}{ex:se}(hΦ:en P Φ)(hex:wd P ex){fn₀:Nat}{g:Operand}{ps:Array Tmp}{ca cb:Code}{x:X}{asg body:CC}(hx:aZ g=some x)
 (hsa:Pj P nt ca asg) (hsb:Pj P nt cb body) (hps:∀p∈ps.toList,p<nt) {dn:Nat} {e:Ex} {s':St}
 (h:me x (ps.toList.map bo) asg body (.mk Φ ex rd fn₀ F) t d M ct dn= .k e s') (hdn:c dn)
 (hSR:SR P F rd nt E c w a t d M ct) {Q:Exit→Act→World→Prop} {fn:Nat} {mark:List Deferred} {w₁:World}
 {w₀:World} {a₀:Act} (he:(Instr.enterLoop fn a₀.tmps ps ca cb (rd.map E.ρ)).run P w₀= .ok (w.heap.size,mark) w₁)
 (hw₁:w₁=w.alloc (.loop {state:= .ready,pending:=none,fn,tmps:=a₀.tmps,params:=ps,assign:=ca,body:=cb,defers:=E.ρ dn}))
 (ha:a={a₀ with defers:=mark++a₀.defers})
 (hQ:∀t' d' M' ct',s'= .mk t' d' M' ct'→ ∀a' w',Gm P F rd nt E c w M ct t' d' M' ct' a' w'→Q (mP e) a' w'):
 ∃(l:Nat) (mark:List Deferred) (w₁:World) (d:Deferred) (w₁':World) (f:FuncId) (args:Array Value) (w₂:World),
  (Instr.enterLoop fn a₀.tmps ps ca cb (cC E rd).round).run P w₀= .ok (l,mark) w₁∧
  (resolve a₀.eval (rangeCall g l) 0).run P w₁= .ok d w₁'∧
  (∀f',Target.leads P w₁' d.target d.args=some f'→(cC E rd).fn f')∧
  (invoke d.target d.args).run P w₁'= .ok (.enter f args) w₂∧
  ((cC E rd).depth.isSome=true→1≤0)∧
  CallsIn (cC E rd) (0-1) P f args w₂ (rangePost (cC E rd) 0 P l Q {a₀ with defers:=mark++a₀.defers}):=by
 have h1:kq t d ct (jV (.mk Φ ex rd fn₀ F) (x.ev t) [.y ct] (M.set ct (.loop .ready .none fn₀ t (ps.toList.map bo) asg body dn)) (ct+1))= .k e s':=by
  unfold me at h;dsimp only at h;rw[Tr.force_eq,bp]at h;exact h
 obtain⟨v,M1,c1,s,pe,fn1,tm1,ps1,a1,b1,dn1,hr,hM1,hbusy,hpend⟩:=xM h1
 obtain⟨f,first,caps,hv,hcf⟩:=zI hr
 have htm:a₀.tmps=a.tmps:=by rw[ha]
 obtain⟨E1,hS1,hE1,hρ1,hβ1,_⟩:=hSR.cx.rel.alloc (.loop .ready .none fn₀ t (ps.toList.map bo) asg body dn) (.loop {state:= .ready,pending:=none,fn,tmps:=a₀.tmps,params:=ps,assign:=ca,body:=cb,defers:=E.ρ dn}) ct 0 (fun b=>c b∨b=ct) (hSR.fr ct (ah _)) (.inr rfl) (fun _ h=> .inl h)
  ⟨fun p=>dD (fun _ h=> .inl h) _ (hSR.cx.bt p),.inl hdn⟩ w₁ (by rw[hw₁];rfl) (by rw[hw₁];rfl) (by rw[hw₁];rfl) (by rw[hw₁];rfl)
  (fun E2 hE2 _ _ _=>⟨fn,a₀.tmps,ps,ca,cb,by rw[hE2.ρ dn hdn];rfl,by rw[htm];exact hSR.cx.tr.ext hE2 hSR.cx.bt,rfl,nt,by rw[htm];exact hSR.sz,hps,hsa,hsb⟩)
 have hG1:gD c ct (fun b=>c b∨b=ct) (ct+1):=ka c ct
 have hSR1:=hSR.stp hS1 hG1
 have ev:=hSR1.cx.ev hx
 rw[hv]at ev
 have hcall:=gu hΦ hex rd fn₀ F
 have hcf':jz (o7 (.mk Φ ex rd fn₀ F) F) f (first++([.y ct]++caps)) (M.set ct (.loop .ready .none fn₀ t (ps.toList.map bo) asg body dn)) (ct+1)= .k v M1 c1:=hcf
 obtain⟨fn',hfn,hbo,hnm,hC⟩:=hcall F f _ _ _ _ _ _ hcf' E1 _ w₁ hSR1.cx.rel hSR1.cx.glob hSR1.cx.big hSR1.fr (ft ev.2.1 (ft (⟨.inr rfl,trivial⟩) ev.2.2))
 have hcfn:(callFunc f (aB E1 (first++([.y ct]++caps))).toArray).run P w₁= .ok (.enter f (aB E1 (first++([.y ct]++caps))).toArray) w₁:=by
  have h1:¬fn'.name= "runtime.NumGoroutine" :=by simpa using hnm
  have h2:¬fn'.body=none:=fun e=>by rw[e]at hbo;cases hbo
  simp[callFunc,hfn,h1,h2]
 have hge:a₀.eval g= .func (.func f) (aB E1 first).toArray (aB E1 caps).toArray:=by
  have:a.eval g=a₀.eval g:=by rw[ha];rfl
  rw[←this,ev.1];rfl
 refine⟨w.heap.size,mark,w₁,⟨.fn (.func f) (aB E1 caps).toArray,(aB E1 first).toArray++#[.func (.yield w.heap.size) #[] #[]]⟩,w₁,f,(aB E1 (first++([.y ct]++caps))).toArray,w₁,he,?_,fun _ _=>trivial,?_,fun hd=>by simp[cC]at hd,?_⟩
 ·have hm:(rangeCall g w.heap.size).args.map a₀.eval=#[.func (.yield w.heap.size) #[] #[]]:=by simp[Act.eval]
  show(Deferred.ofValue (a₀.eval g) ((rangeCall g w.heap.size).args.map a₀.eval)).run P w₁=_;rw[hm,hge];rfl
 ·have:(aB E1 first).toArray++#[.func (.yield w.heap.size) #[] #[]]++(aB E1 caps).toArray=(aB E1 (first++([.y ct]++caps))).toArray:=by
   rw[eW,eW];simp[aB,conc,hρ1]
  simp only[invoke,this];exact hcfn
 ·rw[←eJ hS1.ext hSR.rd];refine oS (hC.mono ?_);rintro e2 w2 ⟨E2,c2,rfl,hS2,hb2,hG2⟩;obtain⟨hcl,hbd,ob,hob,fn3,tmps3,params3,ca3,cb3,rfl,htr3,hps3,hnt3⟩:=hS2.rel.has _ _ (au hM1);have hρ2:E2.ρ ct=w.heap.size:=(hS2.ext.ρ ct (.inr rfl)).trans hρ1;have hen:=run_endLoop (P:=P) (l:=w.heap.size) (by rw[←hρ2];exact hob) (by cases s<;>first|exact absurd rfl hbusy|(intro h;cases h));refine⟨_,_,hen,?_⟩
  have hS3:=hS2.rel.write ct _ (.loop .exhausted pe fn1 tm1 ps1 a1 b1 dn1) hM1 (.loop {state:= .exhausted,pending:=Au pe,fn:=fn3,tmps:=tmps3,params:=params3,assign:=ca3,body:=cb3,defers:=E2.ρ dn1}) hbd
   (w2.putObj w.heap.size (.loop {state:= .exhausted,pending:=Au pe,fn:=fn3,tmps:=tmps3,params:=params3,assign:=ca3,body:=cb3,defers:=E2.ρ dn1})) (by rw[hρ2];rfl) rfl rfl rfl
   ⟨fn3,tmps3,params3,ca3,cb3,rfl,htr3,hps3,hnt3⟩
  have hst:=Fk hpend;refine F2 hpend ?_;have hR:=(hSR1.stp hS2 hG2).stp hS3 (.refl _ _);rw[←ha];refine hQ _ _ _ _ hst a _ ⟨E2,c2,(hS1.trans hS2).trans hS3,hG1.trans hG2,hR⟩
end
section
variable{P:Program}{E E':cG}{F:RO}{M M':Mem}{c c':Nat→Prop}{ct ct' nt:Nat}{w w':World}{t t':T}{d d':List Nat}{a:Act}{rd:Option Nat}
theorem AG{f:Kn→St→Rs}{k:Kn}{r:Rs}{e:Ex}{s':St}(h:iU f k r= .k e s'):(∃s1,r= .k .nrm s1∧f k s1= .k e s')∨(e≠ .nrm∧r= .k e s'):=by
 cases r with
 |f=>cases(show Rs.f= .k e s' from h)
 |k e1 s1=>
  cases e1 with
  |nrm=>exact .inl ⟨s1,rfl,h⟩
  |ret=>have h':Rs.k .ret s1= .k e s':=h;injection h' with h1 h2;subst h1 h2;exact .inr ⟨(fun h=>by cases h),rfl⟩
  |ext id=>have h':Rs.k (.ext id) s1= .k e s':=h;injection h' with h1 h2;subst h1 h2;exact .inr ⟨(fun h=>by cases h),rfl⟩
  |gto l=>have h':Rs.k (.gto l) s1= .k e s':=h;injection h' with h1 h2;subst h1 h2;exact .inr ⟨(fun h=>by cases h),rfl⟩
theorem pf{b:CC}{k:Kn}{r:Rs}{e:Ex}{s':St}(h:fg b k r= .k e s'):(∃s1,r= .k .nrm s1∧mG k (.loop b) s1= .k e s')∨(e≠ .nrm∧r= .k e s'):=by
 cases r with
 |f=>cases(show Rs.f= .k e s' from h)
 |k e1 s1=>
  cases e1 with
  |nrm=>exact .inl ⟨s1,rfl,h⟩
  |ret=>have h':Rs.k .ret s1= .k e s':=h;injection h' with h1 h2;subst h1 h2;exact .inr ⟨(fun h=>by cases h),rfl⟩
  |ext id=>have h':Rs.k (.ext id) s1= .k e s':=h;injection h' with h1 h2;subst h1 h2;exact .inr ⟨(fun h=>by cases h),rfl⟩
  |gto l=>have h':Rs.k (.gto l) s1= .k e s':=h;injection h' with h1 h2;subst h1 h2;exact .inr ⟨(fun h=>by cases h),rfl⟩
theorem mj{K:Act→World→Prop}{Q:Exit→Act→World→Prop}{e:Ex}(he:e≠ .nrm)(h:Q (mP e) a w):Exit.then K Q (mP e) a w:=by
 cases e with
 |nrm=>exact absurd rfl he
 |_=>exact h
theorem vm{id:Nat}{r:Rs}{e:Ex}{s':St}(h:dZ id r= .k e s'):∃e1,r= .k e1 s'∧ ∀(Q:Exit→Act→World→Prop) (a:Act) (w:World),Q (mP e) a w→Exit.inBlock id Q (mP e1) a w:=by
 cases r with
 |f=>cases(show Rs.f= .k e s' from h)
 |k e1 s1=>
  cases e1 with
  |nrm=>have h':Rs.k .nrm s1= .k e s':=h;injection h' with h1 h2;subst h1 h2;exact⟨_,rfl,fun _ _ _ h=>h⟩
  |ret=>have h':Rs.k .ret s1= .k e s':=h;injection h' with h1 h2;subst h1 h2;exact⟨_,rfl,fun _ _ _ h=>h⟩
  |gto l=>have h':Rs.k (.gto l) s1= .k e s':=h;injection h' with h1 h2;subst h1 h2;exact⟨_,rfl,fun _ _ _ h=>h⟩
  |ext id'=>
   have h':Bool.rec (motive:=fun _=>Rs) (.k (.ext id') s1) (.k .nrm s1) (Nat.beq id' id)= .k e s':=h;rw[bb,bI]at h';split at h'
   ·rename_i hid;injection h' with h1 h2;subst h1 h2
    exact⟨_,rfl,fun Q a w h=>by simp only[mP,Exit.inBlock];rw[ac (bL hid)];exact h⟩
   ·rename_i hid;injection h' with h1 h2;subst h1 h2
    exact⟨_,rfl,fun Q a w h=>by simp only[mP,Exit.inBlock];rw[ab (by simpa using hid)];exact h⟩
def aE7(P:Program)(ex:se)(m:Nat):Prop:=∀(rd:Option Nat) (fn:Nat) (F:RO) (cc tbl:CC) (t:T) (d:List Nat) (M:Mem) (ct:Nat) (e:Ex) (t':T) (d':List Nat) (M':Mem) (ct':Nat),
 ex rd fn F (.scope cc tbl) (.mk t d M ct)= .k e (.mk t' d' M' ct')→ ∀(nt:Nat) (body code:Code),Pj P nt code cc→Sp P nt body tbl→ ∀(E:cG) (c:Nat→Prop) (w:World) (a:Act),SR P F rd nt E c w a t d M ct→
  ∀Q:Exit→Act→World→Prop,(∀a' w',Gm P F rd nt E c w M ct t' d' M' ct' a' w'→Q (mP e) a' w')→eR (cC E rd) 0 P body Q m code a w
theorem nl{tbl:CC}{k:Kn}{r:Rs}{e:Ex}{s':St}(h:fK tbl k r= .k e s'):(∃l s1 cl,r= .k (.gto l) s1∧fU l tbl=some cl∧mG k (.scope cl tbl) s1= .k e s')∨((∀l,mP e≠ .goto l)∧r= .k e s'):=by
 cases r with
 |f=>cases(show Rs.f= .k e s' from h)
 |k e1 s1=>
  cases e1 with
  |gto l=>
   have h':mf tbl k s1 (fU l tbl)= .k e s':=h;cases hf:fU l tbl with
   |none=>rw[hf]at h';cases(show Rs.f= .k e s' from h')
   |some cl=>rw[hf]at h';exact .inl ⟨l,s1,cl,rfl,hf,h'⟩
  |nrm=>have h':Rs.k .nrm s1= .k e s':=h;injection h' with h1 h2;subst h1 h2;exact .inr ⟨(fun l h=>by cases h),rfl⟩
  |ret=>have h':Rs.k .ret s1= .k e s':=h;injection h' with h1 h2;subst h1 h2;exact .inr ⟨(fun l h=>by cases h),rfl⟩
  |ext id=>have h':Rs.k (.ext id) s1= .k e s':=h;injection h' with h1 h2;subst h1 h2;exact .inr ⟨(fun l h=>by cases h),rfl⟩
theorem qZ{body:Code}{J:Code→Act→World→Prop}{Q:Exit→Act→World→Prop}{e:Exit}(he:∀l,e≠ .goto l)(h:Q e a w):cD body J Q e a w:=by
 cases e with
 |goto l=>exact absurd rfl (he l)
 |_=>exact h
theorem ye{f:Nat→Option CC}:∀{ls:List Nat} {tbl:CC},D8 f ls=some tbl→ ∀l cl,fU l tbl=some cl→f l=some cl
 |[],tbl,h,l,cl,hf=>by
  obtain rfl:=ae h;cases hf
 |l'::ls,tbl,h,l,cl,hf=>by
  rw[D8]at h;split at h
  ·rename_i c t h1 h2;obtain rfl:=ae h;have hf':(bif Nat.beq l' l then some c else fU l t)=some cl:=hf;rw[bI]at hf';by_cases e:l'=l
   ·rw[aj e,cond_true]at hf';obtain rfl:=ae hf';rw[←e];exact h1
   ·rw[ak e,cond_false]at hf';exact ye h2 l cl hf'
  ·cases h
theorem LD{Φ:Nat→Option CF}{ex:se}(hΦ:en P Φ)(hex:wd P ex){m:Nat}(hlp:aE3 P ex m)(hsc:aE7 P ex m)(hdr:∀rd fn F,Zo P (.mk Φ ex rd fn F)):∀(j:Nat) (code:Code) (cc:CC),ii P nt j code=some cc→
 ∀(rd:Option Nat) (fn:Nat) (F:RO) (t:T) (d:List Nat) (M:Mem) (ct:Nat) (e:Ex) (t':T) (d':List Nat) (M':Mem) (ct':Nat),
 bc cc (.mk Φ ex rd fn F) (.mk t d M ct)= .k e (.mk t' d' M' ct')→ ∀(E:cG) (c:Nat→Prop) (w:World) (a:Act),SR P F rd nt E c w a t d M ct→
 ∀Q:Exit→Act→World→Prop,(∀a' w',Gm P F rd nt E c w M ct t' d' M' ct' a' w'→Q (mP e) a' w')→code.wpIn (cC E rd) 0 P Q a w:=by
 intro j
 induction j with
 |zero=>intro code cc hc;cases hc
 |succ j ih=>
  intro code cc hc rd fn F t d M ct e t' d' M' ct' hx E c w a h Q hQ;have hcall:=gu hΦ hex rd fn F;have hy:=rY (Φ:=Φ) hex rd fn F;unfold ii at hc;cases code with
  |skip=>
   obtain rfl:=ae hc;have hx':Rs.k .nrm (.mk t d M ct)= .k e (.mk t' d' M' ct'):=hx;injection hx' with h1 h2;injection h2 with e1 e2 e3 e4;subst h1 e1 e2 e3 e4
   exact wpIn_skip (hQ a w h.res)
  |label l=>
   obtain rfl:=ae hc;have hx':Rs.k .nrm (.mk t d M ct)= .k e (.mk t' d' M' ct'):=hx;injection hx' with h1 h2;injection h2 with e1 e2 e3 e4;subst h1 e1 e2 e3 e4
   exact wpIn_label (hQ a w h.res)
  |region id ops dr=>
   cases dr with
   |false=>
    obtain⟨cos,hcos,rfl⟩:=bf.1 hc;have hx':nk (cO cos (.mk Φ ex rd fn F) (.mk t d M ct))= .k e (.mk t' d' M' ct'):=hx;cases hs:cO cos (.mk Φ ex rd fn F) (.mk t d M ct)with
    |none=>rw[hs]at hx';cases(show Rs.f= .k e (.mk t' d' M' ct')from hx')
    |some s1=>
     rw[hs]at hx';have hx2:Rs.k .nrm s1= .k e (.mk t' d' M' ct'):=hx';injection hx2 with h1 h2;subst h1 h2
     refine wpIn_region ?_;have:=AV (F:=F) (rd:=rd) (nt:=nt) hcall hy (ops:=ops) (Q:=Q) ops.toList cos 0 E c w a t M ct rfl hcos hs h hQ;rw[←List.range_eq_range']at this
     simpa using this
   |true=>
    dsimp only at hc;split at hc
    ·rename_i cos hcos;have hc':=ae hc;cases hd:td ops cos with
     |dreg n l=>
      rw[hd]at hc';subst hc';exact hdr rd fn F F rd nt id ops cos hcos n l hd t d M ct e t' d' M' ct' hx E c w a h Q hQ
     |_=>
      exfalso;have hd':=hd;unfold td Ln at hd';have hb:∀(b:Bool) (x y:CC),(bif b then x else y)=x∨(bif b then x else y)=y:=by intro b;cases b<;>simp
      rcases hb (xL ops.toList (Region.before ops).toList ops.size (lz (Region.before ops).toList cos ops.size 0)) (.dreg ops.size (lz (Region.before ops).toList cos ops.size 0)) .bad with hh|hh
      ·rw[hh]at hd';cases hd'
      ·rw[hh]at hd';rw[hd]at hc';rw[←hd']at hc';subst hc';cases(show Rs.f= .k e (.mk t' d' M' ct')from hx)
    ·cases hc
  |seq x y=>
   dsimp only at hc;split at hc
   ·rename_i cx cy h1 h2;obtain rfl:=ae hc;have hx':iU (bc cy) (.mk Φ ex rd fn F) (bc cx (.mk Φ ex rd fn F) (.mk t d M ct))= .k e (.mk t' d' M' ct'):=hx;refine wpIn_seq ?_;rcases AG hx' with⟨⟨t1,d1,M1,ct1⟩,hx1,hx2⟩|⟨hne,hx1⟩
    ·refine ih x cx h1 rd fn F t d M ct .nrm t1 d1 M1 ct1 hx1 E c w a h _ ?_;rintro a1 w1 ⟨E1,c1,hS,hG,hR⟩;show y.wpIn (cC E rd) 0 P Q a1 w1;rw[←eJ hS.ext h.rd];exact ih y cy h2 rd fn F t1 d1 M1 ct1 e t' d' M' ct' hx2 E1 c1 w1 a1 hR Q fun a' w' hr=>hQ a' w' (hr.trans hS hG)
    ·exact ih x cx h1 rd fn F t d M ct e t' d' M' ct' hx1 E c w a h _ fun a' w' hr=>mj hne (hQ a' w' hr)
   ·cases hc
  |cond o x y=>
   dsimp only at hc;split at hc
   ·rename_i xo cx cy h0 h1 h2;obtain rfl:=ae hc;have hx':Cq (xo.ev t) Rs.f (fun b=>Bool.rec (motive:=fun _=>Rs) (bc cy (.mk Φ ex rd fn F) (.mk t d M ct)) (bc cx (.mk Φ ex rd fn F) (.mk t d M ct)) b)= .k e (.mk t' d' M' ct'):=hx;have ev:=h.cx.ev h0;cases hv:xo.ev t with
    |b v=>
     rw[hv]at hx' ev;have hx2:Bool.rec (motive:=fun _=>Rs) (bc cy (.mk Φ ex rd fn F) (.mk t d M ct)) (bc cx (.mk Φ ex rd fn F) (.mk t d M ct)) v= .k e (.mk t' d' M' ct'):=hx';cases v with
     |true=>exact wpIn_cond_true ev.1 (ih x cx h1 rd fn F t d M ct e t' d' M' ct' hx2 E c w a h Q hQ)
     |false=>exact wpIn_cond_false ev.1 (ih y cy h2 rd fn F t d M ct e t' d' M' ct' hx2 E c w a h Q hQ)
    |_=>rw[hv]at hx';cases(show Rs.f= .k e (.mk t' d' M' ct')from hx')
   ·cases hc
  |block id x=>
   obtain⟨cx,h1,rfl⟩:=bf.1 hc;have hx':dZ id (bc cx (.mk Φ ex rd fn F) (.mk t d M ct))= .k e (.mk t' d' M' ct'):=hx;obtain⟨e1,hx1,hq⟩:=vm hx';exact wpIn_block (ih x cx h1 rd fn F t d M ct e1 t' d' M' ct' hx1 E c w a h _ fun a' w' hr=>hq Q a' w' (hQ a' w' hr))
  |loop x=>
   obtain⟨cx,h1,rfl⟩:=bf.1 hc;have hx':fg cx (.mk Φ ex rd fn F) (bc cx (.mk Φ ex rd fn F) (.mk t d M ct))= .k e (.mk t' d' M' ct'):=hx;refine wpIn_loop_rounds (m+1) ?_;rw[roundsIn_succ];rcases pf hx' with⟨⟨t1,d1,M1,ct1⟩,hx1,hx2⟩|⟨hne,hx1⟩
   ·refine ih x cx h1 rd fn F t d M ct .nrm t1 d1 M1 ct1 hx1 E c w a h _ ?_;rintro a1 w1 ⟨E1,c1,hS,hG,hR⟩;show Code.roundsIn (cC E rd) 0 P x Q m a1 w1;rw[←eJ hS.ext h.rd];have hx3:ex rd fn F (.loop cx) (.mk t1 d1 M1 ct1)= .k e (.mk t' d' M' ct'):=hx2;exact hlp rd fn F cx t1 d1 M1 ct1 e t' d' M' ct' hx3 nt x ⟨j,h1⟩ E1 c1 w1 a1 hR Q fun a' w' hr=>hQ a' w' (hr.trans hS hG)
   ·exact ih x cx h1 rd fn F t d M ct e t' d' M' ct' hx1 E c w a h _ fun a' w' hr=>mj hne (hQ a' w' hr)
  |rangeFunc g ps ca cb=>
   dsimp only at hc;split at hc
   ·cases hc
   ·rename_i hps0;have hps:∀p∈ps.toList,p<nt:=by
     intro p hp;have h1:(ps.toList.all fun p=>decide (p<nt))=true:=by simpa using hps0
     exact bL (List.all_eq_true.1 h1 p hp)
    split at hc
    ·rename_i xg asg body h0 h1 h2;obtain rfl:=ae hc;refine wpIn_rangeFunc fun fn' _=>?_;cases rd with
     |none=>
      have hx':me xg (ps.toList.map bo) asg body (.mk Φ ex none fn F) t (ct::d) (M.set ct (.defs false)) (ct+1) ct= .k e (.mk t' d' M' ct'):=by
       have:(M.set ct (.defs false)).force (fun M=>fN (Nat.succ ct) fun c'=>me xg (ps.toList.map bo) asg body (.mk Φ ex none fn F) t (ct::d) M c' ct)= .k e (.mk t' d' M' ct'):=hx
       rwa [Tr.force_eq,bp]at this
      obtain⟨E1,hS1,hE1,hρ1,hβ1,_⟩:=h.cx.rel.alloc (.defs false) (.deferred (some [])) ct 0 (fun b=>c b∨b=ct) (h.fr ct (ah _)) (.inr rfl) (fun _ h=> .inl h) trivial (w.alloc (.deferred (some []))) rfl rfl rfl rfl (fun _ _ _ _ _=>rfl);have hG1:gD c ct (fun b=>c b∨b=ct) (ct+1):=ka c ct;have hR1:=h.stp hS1 hG1
      have hR2:SR P F none nt E1 (fun b=>c b∨b=ct) (w.alloc (.deferred (some []))) {a with defers:=[{target:= .collected w.heap.size,args:=#[]}]++a.defers} t (ct::d) (M.set ct (.defs false)) (ct+1):=
       ⟨⟨hR1.cx.rel,hR1.cx.glob,hR1.cx.big,hR1.cx.tr,hR1.cx.bt⟩,hR1.fr,by rw[List.map_cons,hρ1,←hR1.df];rfl,fun b hb=>by
         rcases be.1 hb with rfl|hb
         ·exact .inr rfl
         ·exact hR1.dc b hb,hR1.sz,hR1.rd⟩
      have hf:cC E none=cC E1 none:=rfl;rw[hf];have hen:=run_enterLoop_outer (P:=P) (w:=w) fn' a.tmps ps ca cb;have hsz:(w.alloc (.deferred (some []))).heap.size=w.heap.size+1:=World.size_alloc _ _;rw[←hsz]at hen;refine CV hΦ hex h0 ⟨j,h1⟩ ⟨j,h2⟩ hps hx' (.inr rfl) hR2 hen (by rw[hρ1]) rfl ?_;intro t2 d2 M2 ct2 hs a' w' hr;injection hs with e1 e2 e3 e4;subst e1 e2 e3 e4
      exact hQ a' w' (hr.trans hS1 hG1)
     |some l=>
      have hx':Fj xg (ps.toList.map bo) asg body (.mk Φ ex (some l) fn F) t d M ct (dI (M.get l))= .k e (.mk t' d' M' ct'):=hx;cases hl:dI (M.get l)with
      |f=>rw[hl]at hx';cases(show Rs.f= .k e (.mk t' d' M' ct')from hx')
      |k s pe fnl tml psl al bl dnl=>
       rw[hl]at hx';have hx2:me xg (ps.toList.map bo) asg body (.mk Φ ex (some l) fn F) t d M ct dnl= .k e (.mk t' d' M' ct'):=hx';obtain⟨hcl,hbd,ob,hob,fn3,tmps3,params3,ca3,cb3,rfl,_⟩:=h.cx.rel.has _ _ (au (dS hl));have hen:=run_enterLoop_inner (P:=P) hob fn' a.tmps ps ca cb;refine CV hΦ hex h0 ⟨j,h1⟩ ⟨j,h2⟩ hps hx2 hbd.2 h hen rfl ?_ ?_
       ·cases a;rfl
       ·intro t2 d2 M2 ct2 hs a' w' hr;injection hs with e1 e2 e3 e4;subst e1 e2 e3 e4
        exact hQ a' w' hr
    ·cases hc
  |exit id=>
   obtain rfl:=ae hc;have hx':Rs.k (.ext id) (.mk t d M ct)= .k e (.mk t' d' M' ct'):=hx;injection hx' with h1 h2;injection h2 with e1 e2 e3 e4;subst h1 e1 e2 e3 e4
   exact wpIn_exit (hQ a w h.res)
  |scope x=>
   dsimp only at hc;split at hc
   ·rename_i cx tbl h1 h2;obtain rfl:=ae hc;have htbl:Sp P nt x tbl:=by
     intro l cl hl;obtain⟨rest,hr1,hr2⟩:=aQ.1 (ye h2 l cl hl);exact⟨rest,hr1,j,hr2⟩
    have hx':fK tbl (.mk Φ ex rd fn F) (bc cx (.mk Φ ex rd fn F) (.mk t d M ct))= .k e (.mk t' d' M' ct'):=hx;refine Bs (m+1) ?_;show x.wpIn (cC E rd) 0 P (cD x (eR (cC E rd) 0 P x Q m) Q) a w;rcases nl hx' with⟨l,⟨t1,d1,M1,ct1⟩,cl,hx1,hfl,hx2⟩|⟨hne,hx1⟩
    ·refine ih x cx h1 rd fn F t d M ct (.gto l) t1 d1 M1 ct1 hx1 E c w a h _ ?_;rintro a1 w1 ⟨E1,c1,hS,hG,hR⟩;obtain⟨rest,hr1,hr2⟩:=htbl l cl hfl;show cD x (eR (cC E rd) 0 P x Q m) Q (.goto l) a1 w1;unfold cD;dsimp only;rw[hr1];rw[←eJ hS.ext h.rd];have hx3:ex rd fn F (.scope cl tbl) (.mk t1 d1 M1 ct1)= .k e (.mk t' d' M' ct'):=hx2;exact hsc rd fn F cl tbl t1 d1 M1 ct1 e t' d' M' ct' hx3 nt x rest hr2 htbl E1 c1 w1 a1 hR Q fun a' w' hr=>hQ a' w' (hr.trans hS hG)
    ·exact ih x cx h1 rd fn F t d M ct e t' d' M' ct' hx1 E c w a h _ fun a' w' hr=>qZ hne (hQ a' w' hr)
   ·cases hc
  |goto l=>
   obtain rfl:=ae hc;have hx':Rs.k (.gto l) (.mk t d M ct)= .k e (.mk t' d' M' ct'):=hx;injection hx' with h1 h2;injection h2 with e1 e2 e3 e4;subst h1 e1 e2 e3 e4
   exact wpIn_goto (hQ a w h.res)
  |ret=>
   obtain rfl:=ae hc;have hx':Rs.k .ret (.mk t d M ct)= .k e (.mk t' d' M' ct'):=hx;injection hx' with h1 h2;injection h2 with e1 e2 e3 e4;subst h1 e1 e2 e3 e4
   exact wpIn_ret (hQ a w h.res)
  |refuse s=>
   obtain rfl:=ae hc;cases(show Rs.f= .k e (.mk t' d' M' ct')from hx)
theorem Qt{Φ:Nat→Option CF}(hΦ:en P Φ)(hdr:∀ex,wd P ex→ ∀rd fn F,Zo P (.mk Φ ex rd fn F)):∀n,wd P (exec Φ n)∧aE3 P (exec Φ n) n∧aE7 P (exec Φ n) n:=by
 intro n
 induction n with
 |zero=>
  refine⟨?_,?_,?_⟩
  ·intro rd fn F cc t d M ct e t' d' M' ct' hx;cases(show Rs.f= .k e (.mk t' d' M' ct')from hx)
  ·intro rd fn F cc t d M ct e t' d' M' ct' hx;cases(show Rs.f= .k e (.mk t' d' M' ct')from hx)
  ·intro rd fn F cc tbl t d M ct e t' d' M' ct' hx;cases(show Rs.f= .k e (.mk t' d' M' ct')from hx)
 |succ n ih=>
  have key:=fun nt=>LD (nt:=nt) hΦ ih.1 ih.2.1 ih.2.2 (hdr _ ih.1);refine⟨?_,?_,?_⟩
  ·intro rd fn F cc t d M ct e t' d' M' ct' hx nt code hsim;obtain⟨j,hj⟩:=hsim;exact key nt j code cc hj rd fn F t d M ct e t' d' M' ct' hx
  ·intro rd fn F b t d M ct e t' d' M' ct' hx nt code hsim E c w a h Q hQ;obtain⟨j,hj⟩:=hsim;have hx':fg b (.mk Φ (exec Φ n) rd fn F) (bc b (.mk Φ (exec Φ n) rd fn F) (.mk t d M ct))= .k e (.mk t' d' M' ct'):=hx;rw[roundsIn_succ];rcases pf hx' with⟨⟨t1,d1,M1,ct1⟩,hx1,hx2⟩|⟨hne,hx1⟩
   ·refine key nt j code b hj rd fn F t d M ct .nrm t1 d1 M1 ct1 hx1 E c w a h _ ?_;rintro a1 w1 ⟨E1,c1,hS,hG,hR⟩;show Code.roundsIn (cC E rd) 0 P code Q n a1 w1;rw[←eJ hS.ext h.rd];have hx3:exec Φ n rd fn F (.loop b) (.mk t1 d1 M1 ct1)= .k e (.mk t' d' M' ct'):=hx2;exact ih.2.1 rd fn F b t1 d1 M1 ct1 e t' d' M' ct' hx3 nt code ⟨j,hj⟩ E1 c1 w1 a1 hR Q fun a' w' hr=>hQ a' w' (hr.trans hS hG)
   ·exact key nt j code b hj rd fn F t d M ct e t' d' M' ct' hx1 E c w a h _ fun a' w' hr=>mj hne (hQ a' w' hr)
  ·intro rd fn F cc tbl t d M ct e t' d' M' ct' hx nt body code hsim htbl E c w a h Q hQ;obtain⟨j,hj⟩:=hsim;have hx':fK tbl (.mk Φ (exec Φ n) rd fn F) (bc cc (.mk Φ (exec Φ n) rd fn F) (.mk t d M ct))= .k e (.mk t' d' M' ct'):=hx;show code.wpIn (cC E rd) 0 P (cD body (eR (cC E rd) 0 P body Q n) Q) a w;rcases nl hx' with⟨l,⟨t1,d1,M1,ct1⟩,cl,hx1,hfl,hx2⟩|⟨hne,hx1⟩
   ·refine key nt j code cc hj rd fn F t d M ct (.gto l) t1 d1 M1 ct1 hx1 E c w a h _ ?_;rintro a1 w1 ⟨E1,c1,hS,hG,hR⟩;obtain⟨rest,hr1,hr2⟩:=htbl l cl hfl;show cD body (eR (cC E rd) 0 P body Q n) Q (.goto l) a1 w1;unfold cD;dsimp only;rw[hr1];rw[←eJ hS.ext h.rd];have hx3:exec Φ n rd fn F (.scope cl tbl) (.mk t1 d1 M1 ct1)= .k e (.mk t' d' M' ct'):=hx2;exact ih.2.2 rd fn F cl tbl t1 d1 M1 ct1 e t' d' M' ct' hx3 nt body rest hr2 htbl E1 c1 w1 a1 hR Q fun a' w' hr=>hQ a' w' (hr.trans hS hG)
   ·exact key nt j code cc hj rd fn F t d M ct e t' d' M' ct' hx1 E c w a h _ fun a' w' hr=>qZ hne (hQ a' w' hr)
end
def aP(ps:List ay)(t t':T):Prop:=∀p∈ps,cd t' p=cd t p
section
variable{t t':T}
theorem aP.l{a b:List ay}(h:aP (a++b) t t'):aP a t t':=fun p hp=>h p (List.mem_append_left _ hp)
theorem aP.r{a b:List ay}(h:aP (a++b) t t'):aP b t t':=fun p hp=>h p (List.mem_append_right _ hp)
theorem aP.ev{x:X}(h:aP x.ps t t'):x.ev t'=x.ev t:=by
 cases x with
 |t p=>exact h p (by simp[X.ps])
 |c v=>rfl
theorem aP.evs{xs:List X}(h:aP (Ya xs) t t'):Ev.evs xs t'=Ev.evs xs t:=by
 induction xs with
 |nil=>rfl
 |cons x xs ih=>
  show x.ev t'::Ev.evs xs t'=x.ev t::Ev.evs xs t;rw[h.l.ev,ih h.r]
theorem aP.optN{o:Option X}(h:aP (P3 o) t t')(d:Nat):Ev.optN t' d o=Ev.optN t d o:=by
 cases o with
 |none=>rfl
 |some x=>
  show lO (x.ev t')=lO (x.ev t);rw[aP.ev h]
theorem aP.optNN{o:Option X}(h:aP (P3 o) t t'):Ev.optNN t' o=Ev.optNN t o:=by
 cases o with
 |none=>rfl
 |some x=>
  have h':aP x.ps t t':=h;simp only[Ev.optNN];rw[h'.ev]
theorem aP.minAll{xs:List X}(h:aP (Ya xs) t t')(mx:Bool):∀v,Ev.minAll mx t' v xs=Ev.minAll mx t v xs:=by
 induction xs with
 |nil=>intro v;rfl
 |cons x xs ih=>
  intro v;simp only[Ev.minAll];rw[h.l.ev];cases aV7 mx v (x.ev t)with
  |none=>rfl
  |some v'=>exact ih h.r v'
theorem aP.fillParts{ps:List (Nat×Nat×X)}(h:aP (psP ps) t t'):∀cs,Ev.fillParts t' cs ps=Ev.fillParts t cs ps:=by
 induction ps with
 |nil=>intro v;rfl
 |cons x xs ih=>
  obtain⟨o,n,x⟩:=x;intro cs;simp only[Ev.fillParts];have h1:aP x.ps t t':=h.l;have h2:aP (psP xs) t t':=h.r;rw[h1.ev];cases Nat.beq (flatten (x.ev t)).length n with
  |false=>rfl
  |true=>
   simp only[cond_true];cases eA cs o (flatten (x.ev t))with
   |none=>rfl
   |some cs'=>exact ih h2 cs'
theorem aP.fillP{ps:List (Nat×X)}(h:aP (R6 ps) t t')(sz m:Nat):∀tt,Ev.fillP sz m t' ps tt=Ev.fillP sz m t ps tt:=by
 induction ps with
 |nil=>intro v;rfl
 |cons x xs ih=>
  obtain⟨o,x⟩:=x;intro tt;simp only[Ev.fillP];have h1:aP x.ps t t':=h.l;have h2:aP (R6 xs) t t':=h.r;rw[h1.ev];cases Nat.beq (flatten (x.ev t)).length sz&&Nat.ble (Nat.add o sz) m&&aE (flatten (x.ev t))with
  |false=>rfl
  |true=>
   simp only[cond_true,Tr.force_eq];exact ih h2 _
theorem tQ(F:RO)(M:Mem){o:QO}(h:aP o.ps t t'):cE o F M t'=cE o F M t:=by
 cases o with
 |mv x=>have h1:x.ev t'=x.ev t:=aP.ev h;show Rf x F M t'=Rf x F M t;unfold Rf;rw[h1]
 |pk c a b=>
  have h1:=aP.l h|>.ev;have h2:=(aP.r h).l.ev;have h3:=(aP.r h).r.ev;show Fd c a b F M t'=Fd c a b F M t;unfold Fd;rw[h1,h2,h3]
 |ld1 x=>have h1:x.ev t'=x.ev t:=aP.ev h;show CI x F M t'=CI x F M t;unfold CI;rw[h1]
 |ldn n x=>have h1:x.ev t'=x.ev t:=aP.ev h;show CJ n x F M t'=CJ n x F M t;unfold CJ;rw[h1]
 |nck x=>have h1:x.ev t'=x.ev t:=aP.ev h;show km x F M t'=km x F M t;unfold km;rw[h1]
 |bi op x y=>have h1:=aP.l h|>.ev;have h2:=aP.r h|>.ev;show xu op x y F M t'=xu op x y F M t;unfold xu;rw[h1,h2]
 |eq neg sh lit x y=>have h1:=aP.l h|>.ev;have h2:=aP.r h|>.ev;show Ra neg sh lit x y F M t'=Ra neg sh lit x y F M t;unfold Ra;rw[h1,h2]
 |un op x=>have h1:x.ev t'=x.ev t:=aP.ev h;show Ri op x F M t'=Ri op x F M t;unfold Ri;rw[h1]
 |ci k x=>have h1:x.ev t'=x.ev t:=aP.ev h;show R9 k x F M t'=R9 k x F M t;unfold R9;rw[h1]
 |bs x=>have h1:x.ev t'=x.ev t:=aP.ev h;show F7 x F M t'=F7 x F M t;unfold F7;rw[h1]
 |mki k x=>have h1:x.ev t'=x.ev t:=aP.ev h;show CN k x F M t'=CN k x F M t;unfold CN;rw[h1]
 |mkf f a b=>have h1:=(aP.l h).evs;have h2:=(aP.r h).evs;show CM f a b F M t'=CM f a b F M t;unfold CM;rw[h1,h2]
 |fa k x=>have h1:x.ev t'=x.ev t:=aP.ev h;show Rb k x F M t'=Rb k x F M t;unfold Rb;rw[h1]
 |fl1 k x=>have h1:x.ev t'=x.ev t:=aP.ev h;show CB k x F M t'=CB k x F M t;unfold CB;rw[h1]
 |fln k n x=>have h1:x.ev t'=x.ev t:=aP.ev h;show CD k n x F M t'=CD k n x F M t;unfold CD;rw[h1]
 |iaA l s x y=>have h1:=aP.l h|>.ev;have h2:=aP.r h|>.ev;show CE l s x y F M t'=CE l s x y F M t;unfold CE;rw[h1,h2]
 |iaS s x y=>have h1:=aP.l h|>.ev;have h2:=aP.r h|>.ev;show nh s x y F M t'=nh s x y F M t;unfold nh;rw[h1,h2]
 |ixA1 l s x y=>have h1:=aP.l h|>.ev;have h2:=aP.r h|>.ev;show vh l s x y F M t'=vh l s x y F M t;unfold vh;rw[h1,h2]
 |ixAn l s x y=>rfl
 |ixS x y=>have h1:=aP.l h|>.ev;have h2:=aP.r h|>.ev;show CG x y F M t'=CG x y F M t;unfold CG;rw[h1,h2]
 |slS x lo hi=>
  have h1:=aP.l h|>.ev;show rB x lo hi F M t'=rB x lo hi F M t;unfold rB;rw[h1];simp only[(aP.r h).l.optN,(aP.r h).r.optN]
 |slL s x lo hi mx=>
  have h1:=aP.l h|>.ev;show CP s x lo hi mx F M t'=CP s x lo hi mx F M t;unfold CP;rw[h1,(aP.r h).l.optNN,(aP.r h).r.l.optNN,(aP.r h).r.r.optNN]
 |slA n s x lo hi mx=>
  have h1:=aP.l h|>.ev;show tP n s x lo hi mx F M t'=tP n s x lo hi mx F M t;unfold tP;rw[h1];simp only[(aP.r h).l.optN,(aP.r h).r.l.optN,(aP.r h).r.r.optN]
 |lk sh z ok x y=>have h1:=aP.l h|>.ev;have h2:=aP.r h|>.ev;show Fc sh z ok x y F M t'=Fc sh z ok x y F M t;unfold Fc;rw[h1,h2]
 |ex i x=>have h1:x.ev t'=x.ev t:=aP.ev h;show rz i x F M t'=rz i x F M t;unfold rz;rw[h1]
 |ln sh x=>have h1:x.ev t'=x.ev t:=aP.ev h;show Re sh x F M t'=Re sh x F M t;unfold Re;rw[h1]
 |lnc n=>rfl
 |cp x=>have h1:x.ev t'=x.ev t:=aP.ev h;show ry x F M t'=ry x F M t;unfold ry;rw[h1]
 |mn mx x xs=>rfl
 |bld z ps=>show Cw z ps F M t'=Cw z ps F M t;unfold Cw;rw[aP.fillParts h]
 |ta w z ok x=>rfl
 |up x=>have h1:x.ev t'=x.ev t:=aP.ev h;show Fe x F M t'=Fe x F M t;unfold Fe;rw[h1]
 |dn ty s x=>have h1:x.ev t'=x.ev t:=aP.ev h;show Fa ty s x F M t'=Fa ty s x F M t;unfold Fa;rw[h1]
 |sd x=>have h1:x.ev t'=x.ev t:=aP.ev h;show rA x F M t'=rA x F M t;unfold rA;rw[h1]
 |xib x y=>have h1:=aP.l h|>.ev;have h2:=aP.r h|>.ev;show CQ x y F M t'=CQ x y F M t;unfold CQ;rw[h1,h2]
 |xcmp x y=>rfl
 |sap n x=>rfl
 |xcn x y=>rfl
 |bad=>rfl
theorem DY(b:Nat){o:AO}(h:aP o.ps t t'):iE o b t'=iE o b t:=by
 cases o with
 |al ty cs=>rfl
 |bx ty sz x=>have h1:x.ev t'=x.ev t:=aP.ev h;show DR ty sz x b t'=DR ty sz x b t;unfold DR;rw[h1]
 |bsl ty n sz z ps=>show sT ty n sz z ps b t'=sT ty n sz z ps b t;unfold sT;rw[aP.fillP h]
 |mks ty sz by_ z l k=>have h1:=aP.l h|>.ev;have h2:=aP.r h|>.ev;show BS ty sz by_ z l k b t'=BS ty sz by_ z l k b t;unfold BS;rw[h1,h2]
 |mkm=>rfl
 |sb ty x=>rfl
 |nz ty x=>have h1:x.ev t'=x.ev t:=aP.ev h;show DV ty x b t'=DV ty x b t;unfold DV;rw[h1]
 |rgs x=>rfl
theorem Ei(k:Kn)(M:Mem)(c:Nat){o:EO}(h:aP o.ps t t'):ew o k M c t'=ew o k M c t:=by
 cases o with
 |call f as=>have h1:=aP.evs h;show vK f as k M c t'=vK f as k M c t;unfold vK;rw[h1]
 |cv f as=>have h1:=aP.l h|>.ev;have h2:=(aP.r h).evs;show RX f as k M c t'=RX f as k M c t;unfold RX;rw[h1,h2]
 |st n x y=>have h1:=aP.l h|>.ev;have h2:=aP.r h|>.ev;show S0 n x y k M c t'=S0 n x y k M c t;unfold S0 aR7;rw[h1,h2]
 |app ty sz by_ x y=>have h1:=aP.l h|>.ev;have h2:=aP.r h|>.ev;show Dh ty sz by_ x y k M c t'=Dh ty sz by_ x y k M c t;unfold Dh XR;rw[h1,h2]
 |cpy sz x y=>have h1:=aP.l h|>.ev;have h2:=aP.r h|>.ev;show Di sz x y k M c t'=Di sz x y k M c t;unfold Di wE;rw[h1,h2]
 |clr z x=>rfl
 |mu sh m k' v=>have h1:=aP.l h|>.ev;have h2:=(aP.r h).l.ev;have h3:=(aP.r h).r.ev;show RY sh m k' v k M c t'=RY sh m k' v k M c t;unfold RY ad1;rw[h1,h2,h3]
 |del sh m k'=>rfl
 |us ty x n=>have h1:=aP.l h|>.ev;have h2:=aP.r h|>.ev;show S1 ty x n k M c t'=S1 ty x n k M c t;unfold S1 Lt;rw[h1,h2]
 |ms x=>rfl
 |nxs x=>rfl
 |rgm x=>rfl
 |nxm x=>rfl
theorem vE{g:Option (ay×Bool)}(h:aP (gps g) t t'):wanted t' g=wanted t g:=by
 cases g with
 |none=>rfl
 |some pw=>
  obtain⟨p,want⟩:=pw;show fL want (cd t' p)=fL want (cd t p);rw[h p (by simp[gps])]
theorem iS:∀p q:ay,fW p q=true↔p=q
 | .h,.h=>by simp[fW]
 | .l p,.l q=>by simp[fW,iS p q]
 | .r p,.r q=>by simp[fW,iS p q]
 | .h,.l _=>by simp[fW]
 | .h,.r _=>by simp[fW]
 | .l _,.h=>by simp[fW]
 | .l _,.r _=>by simp[fW]
 | .r _,.h=>by simp[fW]
 | .r _,.l _=>by simp[fW]
theorem F5(p:ay)(l:List ay):rn p l=true↔p∈l:=by
 induction l with
 |nil=>simp[rn]
 |cons q r ih=>
  simp only[rn,be];cases h:fW p q with
  |true=>simp[(iS p q).1 h]
  |false=>
   have:p≠q:=fun e=>by rw[(iS p q).2 e]at h;cases h
   simp[this,ih]
theorem aP.setT{ps:List ay}{dst:Option ay}(h:oW ps dst=false)(t:T)(v:V):aP ps t (Ev.setT t dst v):=by
 intro p hp
 cases dst with
 |none=>rfl
 |some q=>
  have hne:p≠q:=by
   rintro rfl;have:rn p ps=true:=(F5 p ps).2 hp;rw[show oW ps (some p)=rn p ps from rfl,this]at h;cases h
  rw[iV];unfold cd;rw[Tr.getP_setP_ne q v p t hne]
theorem Fp{d1 d2:Option ay}(h:mO d1 d2=false)(t:T)(v1 v2:V):Ev.setT (Ev.setT t d1 v1) d2 v2=Ev.setT (Ev.setT t d2 v2) d1 v1:=by
 cases d1 with
 |none=>rfl
 |some p=>
  cases d2 with
  |none=>rfl
  |some q=>
   have hne:p≠q:=fun e=>by
    have:=(iS p q).2 e;rw[show mO (some p) (some q)=fW p q from rfl,this]at h;cases h
   simp only[iV];exact Tr.setP_comm p v1 q v2 t (Ne.symm hne)
end
structure SS where
 t:T
 m:Nat→Option bw
 ct:Nat
inductive LK where
 |skip
 |qv (v:V)
 |qr (v:V) (b:Nat)
 |al (v:V) (blk:bw)
 |ef (v:V) (M1:Mem) (F1:RO) (M':Mem) (ct ct':Nat)
structure fp where
 i:Nat
 mask:Nat
 co:CO
 k:LK
def CO.op:CO→OK
 | .mk _ op _=>op
def CO.guard:CO→Option (ay×Bool)
 | .mk _ _ g=>g
def LK.isEf:LK→Bool
 | .ef .. =>true
 |_=>false
def du(M1 M':Mem)(m:Nat→Option bw)(b:Nat):Option bw:=
 if M1.get b=none∧m b≠none then m b else M'.get b
def gS(m:Nat→Option bw)(b:Nat)(blk:bw):Nat→Option bw:=fun x=>if x=b then some blk else m x
structure aE0(k:Kn)(F:RO)(o:EO)(v:V)(M1:Mem)(F1:RO)(M':Mem)(ct ct':Nat)(t:T)(m:Nat→Option bw):Prop where
 run:ew o (o7 k F1) M1 ct t= .k v M' ct'
 sub:∀b blk,M1.get b=some blk→m b=some blk
 ro:∀b blk,bq F1 b=some blk→(m b=some blk∧M1.get b=none)∨bq F b=some blk
 new:∀b,(bq F b).isSome→M'.get b=none
def Tn(k:Kn)(base:Nat)(F:RO)(l:fp)(s s':SS):Prop:=
 match l.k with
 | .skip=>wanted s.t l.co.guard=false∧s'=⟨setT s.t l.co.dst undef,s.m,s.ct⟩
 | .qv v=>wanted s.t l.co.guard=true∧ ∃o,l.co.op= .q o∧(cE o [] .e s.t).val=some v∧s'=⟨setT s.t l.co.dst v,s.m,s.ct⟩
 | .qr v b=>wanted s.t l.co.guard=true∧ ∃o blk,l.co.op= .q o∧(s.m b=some blk∨(s.m b=none∧bq F b=some blk))∧(cE o [(b,blk)] .e s.t).val=some v∧s'=⟨setT s.t l.co.dst v,s.m,s.ct⟩
 | .al v blk=>wanted s.t l.co.guard=true∧ ∃o,l.co.op= .a o∧iE o (base+l.i) s.t=some (v,blk)∧s'=⟨setT s.t l.co.dst v,gS s.m (base+l.i) blk,s.ct⟩
 | .ef v M1 F1 M' ct ct'=>wanted s.t l.co.guard=true∧s.ct=ct∧ ∃o,l.co.op= .e o∧aE0 k F o v M1 F1 M' ct ct' s.t s.m∧s'=⟨setT s.t l.co.dst v,du M1 M' s.m,ct'⟩
structure BB(base:Nat)(x y:fp):Prop where
 ne:x.i≠y.i
 kx:x.k.isEf=false
 d1:oW y.co.ps x.co.dst=false
 d2:oW x.co.ps y.co.dst=false
 d3:mO x.co.dst y.co.dst=false
 rd:∀vx b v M1 F1 M' ct ct',x.k= .qr vx b→y.k= .ef v M1 F1 M' ct ct'→M1.get b=none
 al:∀vx blk v M1 F1 M' ct ct',x.k= .al vx blk→y.k= .ef v M1 F1 M' ct ct'→M1.get (base+x.i)=none∧bq F1 (base+x.i)=none
 rd2:∀vx blk v b,x.k= .al vx blk→y.k= .qr v b→b≠base+x.i
 rd3:∀vx b v blk,x.k= .qr vx b→y.k= .al v blk→b≠base+y.i
section
variable{k:Kn}{base:Nat}{F:RO}{x y:fp}{s s1 s2:SS}
theorem CO.ps_eq(c:CO):c.ps=gps c.guard++c.op.ps:=by cases c;rfl
def fp.val(l:fp):V:=match l.k with
 | .skip=>undef
 | .qv v| .qr v _| .al v _=>v
 | .ef v .. =>v
def fp.mem(base:Nat)(l:fp)(m:Nat→Option bw):Nat→Option bw:=match l.k with
 | .al _ blk=>gS m (base+l.i) blk
 | .ef _ M1 _ M' _ _=>du M1 M' m
 |_=>m
def fp.ctr(l:fp)(ct:Nat):Nat:=match l.k with
 | .ef _ _ _ _ _ ct'=>ct'
 |_=>ct
def FP(k:Kn)(base:Nat)(F:RO)(l:fp)(s:SS):Prop:=
 match l.k with
 | .skip=>wanted s.t l.co.guard=false
 | .qv v=>wanted s.t l.co.guard=true∧ ∃o,l.co.op= .q o∧(cE o [] .e s.t).val=some v
 | .qr v b=>wanted s.t l.co.guard=true∧ ∃o blk,l.co.op= .q o∧(s.m b=some blk∨(s.m b=none∧bq F b=some blk))∧(cE o [(b,blk)] .e s.t).val=some v
 | .al v blk=>wanted s.t l.co.guard=true∧ ∃o,l.co.op= .a o∧iE o (base+l.i) s.t=some (v,blk)
 | .ef v M1 F1 M' ct ct'=>wanted s.t l.co.guard=true∧s.ct=ct∧ ∃o,l.co.op= .e o∧aE0 k F o v M1 F1 M' ct ct' s.t s.m
theorem lK:Tn k base F x s s1↔FP k base F x s∧s1=⟨setT s.t x.co.dst x.val,x.mem base s.m,x.ctr s.ct⟩:=by
 unfold Tn FP fp.val fp.mem fp.ctr
 cases x.k with
 |skip=>exact Iff.rfl
 |qv v=>
  constructor
  ·rintro⟨h1,o,h2,h3,h4⟩;exact⟨⟨h1,o,h2,h3⟩,h4⟩
  ·rintro⟨⟨h1,o,h2,h3⟩,h4⟩;exact⟨h1,o,h2,h3,h4⟩
 |qr v b=>
  constructor
  ·rintro⟨h1,o,blk,h2,h3,h4,h5⟩;exact⟨⟨h1,o,blk,h2,h3,h4⟩,h5⟩
  ·rintro⟨⟨h1,o,blk,h2,h3,h4⟩,h5⟩;exact⟨h1,o,blk,h2,h3,h4,h5⟩
 |al v blk=>
  constructor
  ·rintro⟨h1,o,h2,h3,h4⟩;exact⟨⟨h1,o,h2,h3⟩,h4⟩
  ·rintro⟨⟨h1,o,h2,h3⟩,h4⟩;exact⟨h1,o,h2,h3,h4⟩
 |ef v M1 F1 M' ct ct'=>
  constructor
  ·rintro⟨h1,h0,o,h2,h3,h4⟩;exact⟨⟨h1,h0,o,h2,h3⟩,h4⟩
  ·rintro⟨⟨h1,h0,o,h2,h3⟩,h4⟩;exact⟨h1,h0,o,h2,h3,h4⟩
def BC(base:Nat)(F:RO)(l:fp)(m m':Nat→Option bw):Prop:=match l.k with
 | .qr _ b=>m' b=m b
 | .ef _ M1 F1 _ _ _=>(∀b,(M1.get b).isSome→m' b=m b)∧(∀b,(bq F1 b).isSome→m' b=m b)
 |_=>True
theorem FP.move{t t':T}{m m':Nat→Option bw}{ct ct':Nat}(h:FP k base F x ⟨t,m,ct⟩)(ha:aP x.co.ps t t')(hm:BC base F x m m')(hc:x.k.isEf=true→ct'=ct):FP k base F x ⟨t',m',ct'⟩:=by
 rw[CO.ps_eq]at ha
 have hw:=vE ha.l
 have ho:=ha.r
 unfold FP at h⊢
 unfold BC at hm
 cases hk:x.k with
 |skip=>rw[hk]at h;exact hw.trans h
 |qv v=>
  rw[hk]at h;obtain⟨h1,o,h2,h3⟩:=h;rw[h2]at ho;exact⟨hw.trans h1,o,h2,by show(cE o [] .e t').val=_;rw[tQ _ _ ho];exact h3⟩
 |qr v b=>
  rw[hk]at h hm;obtain⟨h1,o,blk,h2,h3,h4⟩:=h;rw[h2]at ho;have hm':m' b=m b:=hm;exact⟨hw.trans h1,o,blk,h2,by show m' b=_∨(m' b=_∧_);rw[hm'];exact h3,by show(cE o _ .e t').val=_;rw[tQ _ _ ho];exact h4⟩
 |al v blk=>
  rw[hk]at h;obtain⟨h1,o,h2,h3⟩:=h;rw[h2]at ho;exact⟨hw.trans h1,o,h2,by show iE o _ t'=_;rw[DY _ ho];exact h3⟩
 |ef v M1 F1 M' c1 c2=>
  rw[hk]at h hm hc;obtain⟨h1,h0,o,h2,h3⟩:=h;rw[h2]at ho;have hm':(∀b,(M1.get b).isSome→m' b=m b)∧(∀b,(bq F1 b).isSome→m' b=m b):=hm;refine⟨hw.trans h1,(hc rfl).trans h0,o,h2,⟨?_,?_,?_,h3.new⟩⟩
  ·show ew o (o7 k F1) M1 c1 t'=_;rw[Ei _ _ _ ho];exact h3.run
  ·intro b blk hb;show m' b=_;rw[hm'.1 b (by rw[hb];rfl)];exact h3.sub b blk hb
  ·intro b blk hb;show(m' b=_∧_)∨_;rw[hm'.2 b (by rw[hb];rfl)];exact h3.ro b blk hb
theorem bp7(ha:BB base x y)(h1:Tn k base F x s s1)(h2:Tn k base F y s1 s2):∃s1',Tn k base F y s s1'∧Tn k base F x s1' s2:=by
 obtain⟨t,m,ct⟩:=s
 rw[lK]at h1 h2
 obtain⟨c1,rfl⟩:=h1
 obtain⟨c2,rfl⟩:=h2
 have hctx:x.ctr ct=ct:=by
  have:=ha.kx;unfold fp.ctr;cases hx:x.k<;>first|rfl|(rw[hx]at this;cases this)
 refine⟨_,lK.2 ⟨?_,rfl⟩,lK.2 ⟨?_,?_⟩⟩
 ·
  refine FP.move (t':=t) (m':=m) (ct':=ct) c2 ?_ ?_ ?_
  ·intro p hp;exact(aP.setT ha.d1 t x.val p hp).symm
  ·unfold BC;cases hy:y.k with
   |qr v b=>
    show m b=x.mem base m b;unfold fp.mem;cases hx:x.k with
    |al vx blk=>
     show m b=gS m (base+x.i) blk b;unfold gS;rw[ab (ha.rd2 vx blk v b hx hy)]
    |ef=>have:=ha.kx;rw[hx]at this;cases this
    |_=>rfl
   |ef v M1 F1 M' c3 c4=>
    unfold fp.mem;cases hx:x.k with
    |al vx blk=>
     have hal:=ha.al vx blk v M1 F1 M' c3 c4 hx hy;constructor
     ·intro b hb;show m b=gS m (base+x.i) blk b;unfold gS;rw[ab];rintro rfl;rw[hal.1]at hb;cases hb
     ·intro b hb;show m b=gS m (base+x.i) blk b;unfold gS;rw[ab];rintro rfl;rw[hal.2]at hb;cases hb
    |ef=>have:=ha.kx;rw[hx]at this;cases this
    |_=>exact⟨fun _ _=>rfl,fun _ _=>rfl⟩
   |_=>trivial
  ·intro _;exact hctx.symm
 ·
  refine FP.move (t:=t) (m:=m) (ct:=ct) c1 (aP.setT ha.d2 t y.val) ?_ (fun h=>by rw[ha.kx]at h;cases h);unfold BC;cases hx:x.k with
  |qr v b=>
   show y.mem base m b=m b;unfold fp.mem;cases hy:y.k with
   |al vy blk=>
    show gS m (base+y.i) blk b=m b;unfold gS;rw[ab (ha.rd3 v b vy blk hx hy)]
   |ef vy M1 F1 M' c3 c4=>
    have hrd:=ha.rd v b vy M1 F1 M' c3 c4 hx hy;show du M1 M' m b=m b;unfold du;split
    ·rfl
    ·rename_i hn;have hmb:m b=none:=by
      cases hb:m b with
      |none=>rfl
      |some _=>exact absurd ⟨hrd,by rw[hb];exact(fun h=>by cases h)⟩ hn
     have hF:(bq F b).isSome:=by
      unfold FP at c1;rw[hx]at c1;obtain⟨_,o,blk,_,h3,_⟩:=c1;rcases h3 with h3|h3
      ·have h3':m b=some blk:=h3;rw[hmb]at h3';cases h3'
      ·rw[h3.2];rfl
     have hE:M'.get b=none:=by
      unfold FP at c2;rw[hy]at c2;obtain⟨_,_,o,_,h3⟩:=c2;exact h3.new b hF
     rw[hmb,hE]
   |_=>rfl
  |ef=>have:=ha.kx;rw[hx]at this;cases this
  |_=>trivial
 ·have e1:setT (setT t x.co.dst x.val) y.co.dst y.val=setT (setT t y.co.dst y.val) x.co.dst x.val:=Fp ha.d3 t x.val y.val;have e2:y.mem base (x.mem base m)=x.mem base (y.mem base m):=by
   unfold fp.mem;cases hx:x.k with
   |al vx blk=>
    cases hy:y.k with
    |al vy blk'=>
     have hne:base+x.i≠base+y.i:=fun e=>ha.ne (by omega)
     funext b
     show gS (gS m (base+x.i) blk) (base+y.i) blk' b=gS (gS m (base+y.i) blk') (base+x.i) blk b;unfold gS;by_cases e:b=base+x.i
     ·rw[ac e,ab (by rw[e];exact hne),ac e]
     ·rw[ab e,ab e]
    |ef vy M1 F1 M' c3 c4=>
     have hal:=(ha.al vx blk vy M1 F1 M' c3 c4 hx hy).1
     funext b
     show du M1 M' (gS m (base+x.i) blk) b=gS (du M1 M' m) (base+x.i) blk b;unfold du gS;by_cases e:b=base+x.i
     ·rw[ac e,ac e,ac ⟨by rw[e];exact hal,fun h=>by cases h⟩]
     ·rw[ab e,ab e]
    |_=>rfl
   |ef=>have:=ha.kx;rw[hx]at this;cases this
   |_=>rfl
  have e3:y.ctr (x.ctr ct)=x.ctr (y.ctr ct):=by
   have hc:∀n,x.ctr n=n:=by
    intro n;have:=ha.kx;unfold fp.ctr;cases hx:x.k<;>first|rfl|(rw[hx]at this;cases this)
   rw[hc,hc]
  show SS.mk _ _ _=SS.mk _ _ _;rw[e1,e2,e3]
def oL(k:Kn)(base:Nat)(F:RO):List fp→SS→SS→Prop
 |[],s,s'=>s=s'
 |l::r,s,s'=>∃s1,Tn k base F l s s1∧oL k base F r s1 s'
theorem oL.move{l2:List fp}{y:fp}{s':SS}:∀(l1:List fp) (s:SS),(∀x∈l1,BB base x y)→oL k base F (l1++y::l2) s s'→ ∃s1,Tn k base F y s s1∧oL k base F (l1++l2) s1 s'
 |[],s,_,h=>h
 |x::l1,s,ha,h=>by
  obtain⟨s1,h1,h2⟩:=h;obtain⟨s2,h3,h4⟩:=oL.move l1 s1 (fun z hz=>ha z (br _ hz)) h2;obtain⟨s3,h5,h6⟩:=bp7 (ha x (bJ ..)) h1 h3;exact⟨s3,h5,s2,h6,h4⟩
end
def fc:List (Nat×Nat×bw)→Nat→Option bw
 |[],_=>none
 |(_,b,blk)::r,x=>if x=b then some blk else fc r x
theorem iQ{p:List (Nat×Nat×bw)}{b:Nat}{blk:bw}(h:fc p b=some blk):∃i,(i,b,blk)∈p:=by
 induction p with
 |nil=>cases h
 |cons q r ih=>
  obtain⟨i,b',blk'⟩:=q;unfold fc at h;split at h
  ·rename_i e;subst e;obtain rfl:=ae h;exact⟨i,by simp⟩
  ·obtain⟨j,hj⟩:=ih h;exact⟨j,br _ hj⟩
theorem F4{p:List (Nat×Nat×bw)}{b:Nat}(h:fc p b=none):∀i blk,(i,b,blk)∉p:=by
 induction p with
 |nil=>intro i blk hm;cases hm
 |cons q r ih=>
  obtain⟨i',b',blk'⟩:=q;unfold fc at h;split at h
  ·cases h
  ·rename_i e;intro i blk hm;rcases be.1 hm with hm|hm
   ·injection hm with h1 h2;injection h2 with h2 h3;exact e h2
   ·exact ih h i blk hm
def ND(p:List (Nat×Nat×bw)):Prop:=p.Pairwise fun x y=>x.2.1≠y.2.1
theorem lZ(mask:Nat):∀(p:List (Nat×Nat×bw)) (M:Mem),ND p→ ∃Mm,dN mask p M=(Mm,p.filter fun x=> !testBit mask x.1)∧
 ∀b,(fc (p.filter fun x=> !testBit mask x.1) b).or (Mm.get b)=(fc p b).or (M.get b)
 |[],M,_=>⟨M,rfl,fun _=>rfl⟩
 |(i,b,blk)::r,M,h=>by
  obtain⟨h1,h2⟩:=List.pairwise_cons.1 h;cases ht:testBit mask i with
  |true=>
   obtain⟨Mm,hm,hg⟩:=lZ mask r (M.set b blk) h2;refine⟨Mm,?_,?_⟩
   ·rw[dN,ht,cond_true,Tr.force_eq,hm];simp[ht]
   ·intro x;have e:((i,b,blk)::r).filter (fun x=> !testBit mask x.1)=r.filter fun x=> !testBit mask x.1:=by simp[ht]
    rw[e,hg x];simp only[fc];by_cases ex:x=b
    ·subst ex;rw[ac rfl];have hn:fc r x=none:=by
      cases hp:fc r x with
      |none=>rfl
      |some blk'=>obtain⟨j,hj⟩:=iQ hp;exact absurd rfl (h1 (j,x,blk') hj)
     rw[hn,Tr.get_set,ac rfl];rfl
    ·rw[ab ex,Tr.get_set,ab ex]
  |false=>
   obtain⟨Mm,hm,hg⟩:=lZ mask r M h2;refine⟨Mm,?_,?_⟩
   ·rw[dN,ht,cond_false,hm];simp[ht]
   ·intro x;have e:((i,b,blk)::r).filter (fun x=> !testBit mask x.1)=(i,b,blk)::r.filter fun x=> !testBit mask x.1:=by simp[ht]
    rw[e];simp only[fc];by_cases ex:x=b
    ·rw[ac ex,ac ex];rfl
    ·rw[ab ex,ab ex];exact hg x
def qG(l:List (Nat×bw))(b:Nat):Prop:=∃blk,(b,blk)∈l
structure Zs(mask:Nat)(reads:List (Nat×Nat))(F:RO)(M:Mem)(F1:RO)(M1:Mem)(news:List (Nat×bw)):Prop where
 ro:F1=news++F
 get:∀b,M1.get b=none∧qG news b∨M1.get b=M.get b∧ ¬qG news b
 was:∀b blk,(b,blk)∈news→M.get b=some blk
 rd:∀i b,(i,b)∈reads→testBit mask i=false→M1.get b=none
theorem gi(mask:Nat):∀(reads:List (Nat×Nat)) (F:RO) (M:Mem) (s:List (Nat×bw)),∃F1 M1 news,bC mask reads F M s= .mk F1 M1 (news++s)∧Zs mask reads F M F1 M1 news
 |[],F,M,s=>⟨F,M,[],rfl,⟨rfl,fun b=> .inr ⟨rfl,fun⟨_,h⟩=>(by cases h)⟩,fun _ _ h=>(by cases h),fun _ _ h=>(by cases h)⟩⟩
 |(i,b)::r,F,M,s=>by
  cases ht:testBit mask i with
  |true=>
   obtain⟨F1,M1,news,hp,hk⟩:=gi mask r F M s;refine⟨F1,M1,news,by rw[bC,ht,cond_true];exact hp,hk.ro,hk.get,hk.was,?_⟩;intro i' b' hm hf;rcases be.1 hm with hm|hm
   ·injection hm with h1 h2;rw[h1,ht]at hf;cases hf
   ·exact hk.rd i' b' hm hf
  |false=>
   cases hb:M.get b with
   |none=>
    obtain⟨F1,M1,news,hp,hk⟩:=gi mask r F M s;refine⟨F1,M1,news,by rw[bC,ht,cond_false];simp only[hb];exact hp,hk.ro,hk.get,hk.was,?_⟩;intro i' b' hm hf;rcases be.1 hm with hm|hm
    ·injection hm with h1 h2
     rw[h2];rcases hk.get b with h|h
     ·exact h.1
     ·rw[h.1,hb]
    ·exact hk.rd i' b' hm hf
   |some blk=>
    obtain⟨F1,M1,news,hp,hk⟩:=gi mask r ((b,blk)::F) (M.del b) ((b,blk)::s);refine⟨F1,M1,news++[(b,blk)],?_,by rw[hk.ro];simp,?_,?_,?_⟩
    ·rw[bC,ht,cond_false];simp only[hb,Tr.force_eq];rw[hp];simp
    ·intro x;by_cases ex:x=b
     ·left;refine⟨?_,blk,by rw[ex];simp⟩;rcases hk.get x with h|h
      ·exact h.1
      ·rw[h.1,Tr.get_del,ac ex]
     ·rcases hk.get x with h|h
      ·exact .inl ⟨h.1,let⟨y,hy⟩:=h.2;⟨y,List.mem_append_left _ hy⟩⟩
      ·right;refine⟨by rw[h.1,Tr.get_del,ab ex],?_⟩;rintro⟨y,hy⟩;rcases List.mem_append.1 hy with hy|hy
       ·exact h.2 ⟨y,hy⟩
       ·simp at hy;exact ex hy.1
    ·intro x y hxy;rcases List.mem_append.1 hxy with hxy|hxy
     ·have:=hk.was x y hxy;rw[Tr.get_del]at this;split at this
      ·cases this
      ·exact this
     ·simp at hxy;rw[hxy.1,hxy.2];exact hb
    ·intro i' b' hm hf;rcases be.1 hm with hm|hm
     ·injection hm with h1 h2
      rw[h2];rcases hk.get b with h|h
      ·exact h.1
      ·rw[h.1,Tr.get_del,ac rfl]
     ·exact hk.rd i' b' hm hf
theorem kA(f:Nat→Option bw):∀(l:List (Nat×bw)) (M:Mem),(∀b blk,(b,blk)∈l→f b=some blk)→ ∀b,(qG l b∧(aU l M).get b=f b)∨(¬qG l b∧(aU l M).get b=M.get b)
 |[],M,_,b=> .inr ⟨fun⟨_,h⟩=>(by cases h),rfl⟩
 |(x,blk)::r,M,h,b=>by
  rw[aU,Tr.force_eq];rcases kA f r (M.set x blk) (fun b' blk' hm=>h b' blk' (br _ hm)) b with hh|hh
  ·exact .inl ⟨let⟨y,hy⟩:=hh.1;⟨y,br _ hy⟩,hh.2⟩
  ·by_cases e:b=x
   ·left;refine⟨⟨blk,by rw[e];simp⟩,?_⟩;rw[hh.2,Tr.get_set,ac e,e,h x blk (by simp)]
   ·right;refine⟨?_,by rw[hh.2,Tr.get_set,ab e]⟩;rintro⟨y,hy⟩;rcases be.1 hy with hy|hy
    ·injection hy with h1 h2;exact e h1
    ·exact hh.1 ⟨y,hy⟩
theorem jf{F:RO}{M:Mem}:∀(p:List (Nat×Nat×bw)),bX F M p=true→ ∀i b blk,(i,b,blk)∈p→look F M b=none
 |[],_,_,_,_,h=>by cases h
 |(j,b',blk')::r,hp,i,b,blk,hm=>by
  rw[bX]at hp;cases hl:look F M b' with
  |none=>
   rw[hl]at hp;simp only[Option.isNone_none,cond_true]at hp;rcases be.1 hm with hm|hm
   ·injection hm with h1 h2;injection h2 with h2 h3;rw[h2];exact hl
   ·exact jf r hp i b blk hm
  |some y=>rw[hl]at hp;simp at hp
theorem fE{M:Mem}:∀(F:RO),bH M F=true→ ∀b blk,(b,blk)∈F→M.get b=none
 |[],_,_,_,h=>by cases h
 |(b',blk')::r,hp,b,blk,hm=>by
  rw[bH]at hp;cases hl:M.get b' with
  |none=>
   rw[hl]at hp;simp only[Option.isNone_none,cond_true]at hp;rcases be.1 hm with hm|hm
   ·injection hm with h1 h2;rw[h1];exact hl
   ·exact fE r hp b blk hm
  |some y=>rw[hl]at hp;simp at hp
theorem nq{b:Nat}:∀(l:List (Nat×Nat)),bQ b l=true→ ∀i b',(i,b')∈l→b'≠b
 |[],_,_,_,h=>by cases h
 |(j,x)::r,hp,i,b',hm=>by
  rw[bQ,bI]at hp;by_cases e:x=b
  ·simp[e]at hp
  ·simp[e]at hp;rcases be.1 hm with hm|hm
   ·injection hm with h1 h2;rw[h2];exact e
   ·exact nq r hp i b' hm
theorem cj(h:Nat×bw)(F:RO)(k:Nat):bq (h::F) k=if h.1=k then some h.2 else bq F k:=by
 show Bool.rec (motive:=fun _=>Option bw) (bq F k) (some h.2) (Nat.beq h.1 k)=_
 rw[bb,bI]
 by_cases e:h.1=k<;>simp[e]
theorem Fl{F:RO}{b:Nat}{blk:bw}(h:bq F b=some blk):(b,blk)∈F:=by
 induction F with
 |nil=>cases h
 |cons p r ih=>
  rw[cj]at h;split at h
  ·rename_i e;obtain rfl:=ae h;rw[←e];simp
  ·exact br _ (ih h)
theorem vq{F G:RO}{b:Nat}{blk:bw}(h:bq (F++G) b=some blk):(b,blk)∈F∨bq G b=some blk:=by
 induction F with
 |nil=>exact .inr h
 |cons p r ih=>
  rw[List.cons_append,cj]at h;split at h
  ·rename_i e;obtain rfl:=ae h;left;rw[←e];simp
  ·rcases ih h with h'|h'
   ·exact .inl (br _ h')
   ·exact .inr h'
theorem nr{F G:RO}{b:Nat}(h:bq (F++G) b=none):bq G b=none∧ ¬qG F b:=by
 induction F with
 |nil=>exact⟨h,fun⟨_,h⟩=>(by cases h)⟩
 |cons p r ih=>
  rw[List.cons_append,cj]at h;split at h
  ·cases h
  ·rename_i e;refine⟨(ih h).1,?_⟩;rintro⟨y,hy⟩;rcases be.1 hy with hy|hy
   ·rw[←hy]at e;exact e rfl
   ·exact(ih h).2 ⟨y,hy⟩
theorem fy{F:RO}{M:Mem}{b:Nat}(h:look F M b=none):M.get b=none∧bq F b=none:=by
 cases hm:M.get b with
 |none=>rw[aT hm]at h;exact⟨rfl,h⟩
 |some x=>rw[au hm]at h;cases h
theorem gg{F:RO}{M:Mem}{b:Nat}(h1:M.get b=none)(h2:bq F b=none):look F M b=none:=by
 rw[aT h1,h2]
theorem iz:∀(p:List (Nat×Nat×bw)) (M:Mem),ND p→ ∀b,(cR p M).get b=(fc p b).or (M.get b)
 |[],M,_,b=>rfl
 |(i,x,blk)::r,M,h,b=>by
  obtain⟨h1,h2⟩:=List.pairwise_cons.1 h;rw[cR,Tr.force_eq,iz r _ h2,fc];by_cases e:b=x
  ·rw[ac e];have hn:fc r b=none:=by
    cases hp:fc r b with
    |none=>rfl
    |some blk'=>obtain⟨j,hj⟩:=iQ hp;exact absurd e.symm (h1 (j,b,blk') hj)
   rw[hn,Tr.get_set,ac e];rfl
  ·rw[ab e,Tr.get_set,ab e]
theorem pl{a b x:Nat}(h:Nat.lor a b=b)(hx:testBit a x=true):testBit b x=true:=by
 have key:∀m i,testBit m i=Nat.testBit m i:=by
  intro m i;show Nat.beq (m/2^i%2) 1=Nat.testBit m i;rw[bI,Nat.testBit_eq_decide_div_mod_eq]
 rw[key]at hx⊢
 have:(a|||b)=b:=h
 rw[←this,Nat.testBit_or,hx];rfl
def oC(t:T)(M:Mem)(c:Nat)(p:List (Nat×Nat×bw)):SS:=⟨t,fun b=>(fc p b).or (M.get b),c⟩
structure yK(base:Nat)(F:RO)(M:Mem)(p:List (Nat×Nat×bw)):Prop where
 nm:∀i b blk,(i,b,blk)∈p→b=base+i
 nd:ND p
 fr:∀i b blk,(i,b,blk)∈p→look F M b=none
def ql(base:Nat)(x y:fp):Prop:=testBit x.mask y.i=false∧x.i≠y.i∧(testBit y.mask x.i=true∨BB base x y)
structure uc(base:Nat)(p:List (Nat×Nat×bw))(reads:List (Nat×Nat))(y:fp):Prop where
 r1:∀x b,(x,b)∈reads→testBit y.mask x=false→ ∀v M1 F1 M' ct ct',y.k= .ef v M1 F1 M' ct ct'→M1.get b=none
 r2:∀x b,(x,b)∈reads→ ∀v blk,y.k= .al v blk→b≠base+y.i
 p1:∀x b blk,(x,b,blk)∈p→testBit y.mask x=false→ ∀v M1 F1 M' ct ct',y.k= .ef v M1 F1 M' ct ct'→M1.get b=none∧bq F1 b=none
 p2:∀x b blk,(x,b,blk)∈p→testBit y.mask x=false→ ∀v b',y.k= .qr v b'→b'≠b
def fp.trip(l:fp):Nat×Nat×CO:=(l.i,l.mask,l.co)
theorem m8{x y:Nat×Nat×CO}(h:od x y=true):testBit x.2.1 y.1=false∧x.1≠y.1∧
 ((testBit y.2.1 x.1=true∧Nat.lor x.2.1 y.2.1=y.2.1)∨(testBit y.2.1 x.1=false∧Cg x.2.2 y.2.2=true)):=by
 unfold od at h
 rw[bI,bI]at h
 simp only[aX,Bool.not_eq_true']at h
 obtain⟨h1,h2,h3⟩:=h
 refine⟨h1,by simpa using h2,?_⟩
 cases ht:testBit y.2.1 x.1 with
 |true=>rw[ht]at h3;exact .inl ⟨rfl,by simpa using h3⟩
 |false=>rw[ht]at h3;exact .inr ⟨rfl,by simpa using h3⟩
theorem n9{x:Nat×Nat×CO}:∀{l:List (Nat×Nat×CO)},n8 x l=true→ ∀y∈l,od x y=true
 |[],_,_,h=>by cases h
 |z::r,h,y,hy=>by
  simp only[n8,aX]at h;rcases be.1 hy with rfl|hy
  ·exact h.1
  ·exact n9 h.2 y hy
theorem p9{x y:CO}(h:Cg x y=true):isE x=false∧oW y.ps x.dst=false∧oW x.ps y.dst=false∧mO x.dst y.dst=false:=by
 unfold Cg at h
 simpa using h
theorem ql.mk'{base:Nat}{x y:fp}(h:od x.trip y.trip=true)(hk:x.k.isEf=false)
 (rd:testBit y.mask x.i=false→ ∀vx b v M1 F1 M' ct ct',x.k= .qr vx b→y.k= .ef v M1 F1 M' ct ct'→M1.get b=none)
 (al:testBit y.mask x.i=false→ ∀vx blk v M1 F1 M' ct ct',x.k= .al vx blk→y.k= .ef v M1 F1 M' ct ct'→M1.get (base+x.i)=none∧bq F1 (base+x.i)=none)
 (rd2:testBit y.mask x.i=false→ ∀vx blk v b,x.k= .al vx blk→y.k= .qr v b→b≠base+x.i)
 (rd3:∀vx b v blk,x.k= .qr vx b→y.k= .al v blk→b≠base+y.i):ql base x y:=by
 obtain⟨h1,h2,h3⟩:=m8 h
 refine⟨h1,h2,?_⟩
 rcases h3 with⟨h3,_⟩|⟨h3,h4⟩
 ·exact .inl h3
 ·obtain⟨_,a2,a3,a4⟩:=p9 h4;exact .inr ⟨h2,hk,a2,a3,a4,rd h3,al h3,rd2 h3,rd3⟩
section
variable{k:Kn}{base:Nat}{t t1:T}{M M1:Mem}{c c1:Nat}{p p1:List (Nat×Nat×bw)}{reads reads1:List (Nat×Nat)}{i mask:Nat}{co:CO}
def yM(k:Kn)(base:Nat)(h:Nat×Nat×CO)(t:T)(M:Mem)(c:Nat)(p:List (Nat×Nat×bw))(reads:List (Nat×Nat))(t1:T)(M1:Mem)(c1:Nat)(p1:List (Nat×Nat×bw))(reads1:List (Nat×Nat)):Prop:=
 ∃l:fp,l.trip=h∧Tn k base k.F l (oC t M c p) (oC t1 M1 c1 p1)∧yK base k.F M1 p1∧(∀q∈p1,q.1=h.1∨ ∃q'∈p,q'.1=q.1)∧uc base p reads l∧
  ∀y:fp,od h y.trip=true→uc base p1 reads1 y→uc base p reads y∧ql base l y
theorem F3{F:RO}(hI:yK base F M p){b:Nat}{blk:bw}(h:look F M b=some blk):fc p b=none:=by
 cases hp:fc p b with
 |none=>rfl
 |some x=>
  obtain⟨j,hj⟩:=iQ hp;rw[hI.fr _ _ _ hj]at h;cases h
theorem jj(hI:yK base k.F M p){lk:LK}{v:V}(hv:fp.val ⟨i,mask,co,lk⟩=v)(hm:∀m,fp.mem base ⟨i,mask,co,lk⟩ m=m)(hc:fp.ctr ⟨i,mask,co,lk⟩ c=c)
 (hcan:FP k base k.F ⟨i,mask,co,lk⟩ (oC t M c p)) (hne:lk.isEf=false) (hna:∀v blk,lk≠ .al v blk)
 (hrd:∀v b,lk= .qr v b→(i,b)∈reads1∧ ∀blk x,(x,b,blk)∉p) (hsub:∀q∈reads,q∈reads1):
 yM k base (i,mask,co) t M c p reads (setT t co.dst v) M c p reads1:=by
 refine⟨⟨i,mask,co,lk⟩,rfl,lK.2 ⟨hcan,?_⟩,hI,fun q hq=> .inr ⟨q,hq,rfl⟩,⟨?_,?_,?_,?_⟩,?_⟩
 ·show oC _ _ _ _=SS.mk _ _ _;rw[hv,hm];show SS.mk _ _ _=SS.mk _ _ (fp.ctr _ c);rw[hc];rfl
 ·intro x b _ _ v M1 F1 M' ct ct' e;have e':lk=_:=e;rw[e']at hne;cases hne
 ·intro x b _ v blk e;exact absurd e (hna v blk)
 ·intro x b blk _ _ v M1 F1 M' ct ct' e;have e':lk=_:=e;rw[e']at hne;cases hne
 ·intro x b blk hx _ v b' e;rintro rfl;exact(hrd v b' e).2 blk x hx
 ·intro y hp hy;refine⟨⟨fun x b hx=>hy.r1 x b (hsub _ hx),fun x b hx=>hy.r2 x b (hsub _ hx),hy.p1,hy.p2⟩,?_⟩;refine .mk' hp hne ?_ ?_ ?_ ?_
  ·intro ht vx b v M1 F1 M' ct ct' e1 e2;exact hy.r1 i b (hrd vx b e1).1 ht v M1 F1 M' ct ct' e2
  ·intro ht vx blk v M1 F1 M' ct ct' e1;exact absurd e1 (hna _ _)
  ·intro ht vx blk v b e1;exact absurd e1 (hna _ _)
  ·intro vx b v blk e1 e2;exact hy.r2 i b (hrd vx b e1).1 v blk e2
theorem Aa{α:Type}{o:Option α}(h:o.isNone=true):o=none:=by cases o<;>simp_all
theorem Ld(hI:yK base k.F M p)(hi:∀q∈p,q.1≠i)(h:px k base (i,mask,co) (.mk t M c p reads)=some (.mk t1 M1 c1 p1 reads1)):
 yM k base (i,mask,co) t M c p reads t1 M1 c1 p1 reads1:=by
 obtain⟨dst,op,g⟩:=co
 unfold px at h
 dsimp only at h
 cases hw:wanted t g with
 |false=>
  rw[hw,cond_false,Tr.force_eq]at h;injection h with h;injection h with e1 e2 e3 e4 e5
  subst e1 e2 e3 e4 e5;exact jj (lk:= .skip) hI rfl (fun _=>rfl) rfl hw rfl (fun _ _ h=>by cases h) (fun _ _ h=>by cases h) (fun _ h=>h)
 |true=>
  rw[hw,cond_true]at h;cases op with
  |q o=>
   have h':py i dst t M c p reads (Eh o k.F M t (cE o k.F M t))=some (.mk t1 M1 c1 p1 reads1):=h;cases hq:cE o k.F M t with
   |f=>rw[hq]at h';cases(show(none:Option DS)=some _ from h')
   |v x0=>
    rw[hq]at h';have h2:py i dst t M c p reads (cE o [] .e t)=some (.mk t1 M1 c1 p1 reads1):=h';cases hq2:cE o [] .e t with
    |f=>rw[hq2]at h2;cases(show(none:Option DS)=some _ from h2)
    |v x=>
     rw[hq2,py,Tr.force_eq]at h2;injection h2 with h2;injection h2 with e1 e2 e3 e4 e5
     subst e1 e2 e3 e4 e5;exact jj (lk:= .qv x) hI rfl (fun _=>rfl) rfl ⟨hw,o,rfl,by show(cE o [] .e t).val=_;rw[hq2];rfl⟩ rfl (fun _ _ h=>by cases h) (fun _ _ h=>by cases h) (fun _ h=>h)
    |r x b=>
     rw[hq2,py,Tr.force_eq]at h2;injection h2 with h2;injection h2 with e1 e2 e3 e4 e5
     subst e1 e2 e3 e4 e5;exact jj (lk:= .qv x) hI rfl (fun _=>rfl) rfl ⟨hw,o,rfl,by show(cE o [] .e t).val=_;rw[hq2];rfl⟩ rfl (fun _ _ h=>by cases h) (fun _ _ h=>by cases h) (fun _ h=>br _ h)
   |r x0 b=>
    rw[hq]at h';have h2:py i dst t M c p reads (Lg o t b (look k.F M b))=some (.mk t1 M1 c1 p1 reads1):=h';cases hl:look k.F M b with
    |none=>rw[hl]at h2;cases(show(none:Option DS)=some _ from h2)
    |some blk=>
     rw[hl]at h2;have h3:py i dst t M c p reads (xH b (cE o [(b,blk)] .e t))=some (.mk t1 M1 c1 p1 reads1):=h2;have hpg:=F3 hI hl;have hmem:((fc p b).or (M.get b)=some blk∨((fc p b).or (M.get b)=none∧bq k.F b=some blk)):=by
      rw[hpg];cases hm:M.get b with
      |none=>rw[aT hm]at hl;exact .inr ⟨rfl,hl⟩
      |some y=>rw[au hm]at hl;exact .inl hl
     have fin:∀x,(cE o [(b,blk)] .e t).val=some x→py i dst t M c p reads (.r x b)=some (.mk t1 M1 c1 p1 reads1)→yM k base (i,mask,.mk dst (.q o) g) t M c p reads t1 M1 c1 p1 reads1:=by
      intro x hx h4;rw[py,Tr.force_eq]at h4;injection h4 with h4;injection h4 with e1 e2 e3 e4 e5
      subst e1 e2 e3 e4 e5;refine jj (lk:= .qr x b) hI rfl (fun _=>rfl) rfl ⟨hw,o,blk,rfl,hmem,hx⟩ rfl (fun _ _ h=>by cases h) ?_ (fun _ h=>br _ h);intro v b' e;injection e with e1 e2
      subst e1 e2;exact⟨by simp,fun blk x=>F4 hpg x blk⟩
     cases hq2:cE o [(b,blk)] .e t with
     |f=>rw[hq2]at h3;cases(show(none:Option DS)=some _ from h3)
     |v x=>rw[hq2]at h3;exact fin x (by rw[hq2];rfl) h3
     |r x b2=>rw[hq2]at h3;exact fin x (by rw[hq2];rfl) h3
  |a o=>
   have h':fN (Nat.add base i) (fun b=>bif (look k.F M b).isNone&&bQ b reads then zP i b dst t M c p reads (iE o b t)else none)=some (.mk t1 M1 c1 p1 reads1):=h;rw[bp]at h';cases hb:((look k.F M (Nat.add base i)).isNone&&bQ (Nat.add base i) reads)with
   |false=>rw[hb]at h';cases h'
   |true=>
    rw[hb,cond_true]at h';rw[aX]at hb;have hlk:=Aa hb.1;have hrf:=nq _ hb.2;cases ha:iE o (Nat.add base i) t with
    |none=>rw[ha]at h';cases h'
    |some pr=>
     obtain⟨v,blk⟩:=pr;rw[ha,zP,Tr.force_eq]at h';injection h' with h';injection h' with e1 e2 e3 e4 e5
     subst e1 e2 e3 e4 e5;refine⟨⟨i,mask,.mk dst (.a o) g,.al v blk⟩,rfl,lK.2 ⟨⟨hw,o,rfl,ha⟩,?_⟩,⟨?_,?_,?_⟩,?_,⟨?_,?_,?_,?_⟩,?_⟩
     ·show SS.mk _ _ _=SS.mk _ _ _
      congr 1
      funext b
      show(fc ((i,base+i,blk)::p) b).or (M.get b)=gS (fun b=>(fc p b).or (M.get b)) (base+i) blk b;unfold gS;rw[fc];by_cases e:b=base+i
      ·rw[ac e,ac e];rfl
      ·rw[ab e,ab e]
     ·intro j b blk' hm;rcases be.1 hm with hm|hm
      ·injection hm with h1 h2;injection h2 with h2 h3;rw[h1,h2];rfl
      ·exact hI.nm j b blk' hm
     ·refine List.pairwise_cons.2 ⟨?_,hI.nd⟩;rintro⟨j,b,blk'⟩ hm e;have e1:=hI.nm j b blk' hm;have e2:=hi _ hm;have e3:base+i=b:=e;exact e2 (by show j=i;omega)
     ·intro j b blk' hm;rcases be.1 hm with hm|hm
      ·injection hm with h1 h2;injection h2 with h2 h3;rw[h2];exact hlk
      ·exact hI.fr j b blk' hm
     ·intro q hq;rcases be.1 hq with hq|hq
      ·left;rw[hq]
      ·exact .inr ⟨q,hq,rfl⟩
     ·intro x b _ _ v M1 F1 M' ct ct' e;cases e
     ·intro x b hx v blk e;exact hrf x b hx
     ·intro x b blk _ _ v M1 F1 M' ct ct' e;cases e
     ·intro x b blk _ _ v b' e;cases e
     ·intro y hp hy;refine⟨⟨hy.r1,hy.r2,fun x b blk hx=>hy.p1 x b blk (br _ hx),fun x b blk hx=>hy.p2 x b blk (br _ hx)⟩,?_⟩;refine .mk' hp rfl (by intro _ vx b v M1 F1 M' ct ct' e1;cases e1) ?_ ?_ (by intro vx b v blk e1;cases e1)
      ·intro ht vx blk' v M1 F1 M' ct ct' e1 e2;exact hy.p1 i (base+i) blk (bJ ..) ht v M1 F1 M' ct ct' e2
      ·intro ht vx blk' v b e1 e2;exact hy.p2 i (base+i) blk (bJ ..) ht v b e2
  |e o=>
   have h':sC o k mask dst t c reads (dN mask p M)=some (.mk t1 M1 c1 p1 reads1):=h;obtain⟨Mm,hmg,hmget⟩:=lZ mask p M hI.nd;rw[hmg]at h';obtain⟨F1,Ma,news,hpr,hP⟩:=gi mask reads k.F Mm [];rw[sC,hpr,nU]at h';rw[bP]at h';cases hpf:bX F1 Ma (p.filter fun x=> !testBit mask x.1)with
   |false=>rw[hpf]at h';cases h'
   |true=>
    rw[hpf,cond_true]at h';cases hE:ew o (o7 k F1) Ma c t with
    |f=>rw[hE]at h';cases(show(none:Option DS)=some _ from h')
    |k v Mr cr=>
     rw[hE,lu]at h';cases hck:(bH Mr F1&&bX F1 Mr (p.filter fun x=> !testBit mask x.1))with
     |false=>rw[hck]at h';cases h'
     |true=>
      rw[hck,cond_true,Tr.force_eq,Tr.force_eq]at h';injection h' with h';injection h' with e1 e2 e3 e4 e5
      subst e1 e2 e3 e4 e5;rw[aX]at hck;have hro:=fE _ hck.1;have hpa:=jf _ hck.2;have hpb:=jf _ hpf
      have hmem:∀q:Nat×Nat×bw,q∈p.filter (fun x=> !testBit mask x.1)↔q∈p∧testBit mask q.1=false:=by
       intro q;rw[List.mem_filter];simp
      have hun:=kA (fun b=>Mm.get b) news Mr hP.was
      have hnoF:∀b,(∀blk x,(x,b,blk)∉p.filter fun x=> !testBit mask x.1)→fc (p.filter fun x=> !testBit mask x.1) b=none:=by
       intro b hb;cases hp:fc (p.filter fun x=> !testBit mask x.1) b with
       |none=>rfl
       |some blk=>obtain⟨j,hj⟩:=iQ hp;exact absurd hj (hb blk j)
      have hnone:∀b,(Ma.get b≠none∨bq F1 b≠none)→fc (p.filter fun x=> !testBit mask x.1) b=none:=by
       intro b hb;refine hnoF b fun blk x hx=>?_;obtain⟨g1,g2⟩:=fy (hpb x b blk hx);rcases hb with hb|hb
       ·exact hb g1
       ·exact hb g2
      have hm:∀b,(oC t M c p).m b=(fc (p.filter fun x=> !testBit mask x.1) b).or (Mm.get b):=fun b=>(hmget b).symm;refine⟨⟨i,mask,.mk dst (.e o) g,.ef v Ma F1 Mr c cr⟩,rfl,lK.2 ⟨⟨hw,rfl,o,rfl,⟨hE,?_,?_,?_⟩⟩,?_⟩,⟨?_,?_,?_⟩,?_,⟨?_,?_,?_,?_⟩,?_⟩
      ·intro b blk hb;rw[hm b,hnone b (.inl (by rw[hb];exact(fun h=>by cases h)))];rcases hP.get b with hg|hg
       ·rw[hg.1]at hb;cases hb
       ·show Mm.get b=some blk;rw[←hg.1];exact hb
      ·intro b blk hb;have hb':=hb;rw[hP.ro]at hb';rcases vq hb' with hn|hF
       ·left;refine⟨?_,?_⟩
        ·rw[hm b,hnone b (.inr (by rw[hb];exact(fun h=>by cases h)))];exact hP.was b blk hn
        ·rcases hP.get b with hg|hg
         ·exact hg.1
         ·exact absurd ⟨blk,hn⟩ hg.2
       ·exact .inr hF
      ·intro b hb;obtain⟨blk,hblk⟩:=bz.1 hb;refine hro b blk ?_;rw[hP.ro];exact List.mem_append_right _ (Fl hblk)
      ·show SS.mk _ _ _=SS.mk _ _ _
       congr 1
       funext b
       show(fc (p.filter fun x=> !testBit mask x.1) b).or ((aU news Mr).get b)=du Ma Mr (oC t M c p).m b;unfold du;rw[hm b];cases hpg:fc (p.filter fun x=> !testBit mask x.1) b with
       |some blk=>
        obtain⟨j,hj⟩:=iQ hpg;rw[ac ⟨(fy (hpb j b blk hj)).1,by simp⟩];rfl
       |none=>
        show(aU news Mr).get b=if Ma.get b=none∧Mm.get b≠none then Mm.get b else Mr.get b
        rcases hun b with hu|hu
        ·rw[hu.2];obtain⟨blk,hn⟩:=hu.1;have h1:=hP.was b blk hn;rcases hP.get b with hg|hg
         ·rw[ac ⟨hg.1,by rw[h1];exact(fun h=>by cases h)⟩]
         ·exact absurd ⟨blk,hn⟩ hg.2
        ·rw[hu.2,ab];rintro⟨g1,g2⟩;rcases hP.get b with hg|hg
         ·exact hu.1 hg.2
         ·rw[hg.1]at g1;exact g2 g1
      ·intro j b blk hj;exact hI.nm j b blk ((hmem _).1 hj).1
      ·exact hI.nd.sublist List.filter_sublist
      ·intro j b blk hj;obtain⟨g1,g2⟩:=fy (hpa j b blk hj);rw[hP.ro]at g2;obtain⟨g3,g4⟩:=nr g2;refine gg ?_ g3;rcases hun b with hu|hu
       ·exact absurd hu.1 g4
       ·rw[hu.2];exact g1
      ·intro q hq;exact .inr ⟨q,((hmem _).1 hq).1,rfl⟩
      ·intro x b hx ht v M1 F1' M' ct ct' e;injection e with e1 e2 e3 e4 e5 e6
       subst e2;exact hP.rd x b hx ht
      ·intro x b hx v blk e;cases e
      ·intro x b blk hx ht v M1 F1' M' ct ct' e;injection e with e1 e2 e3 e4 e5 e6
       subst e2 e3;exact fy (hpb x b blk ((hmem _).2 ⟨hx,ht⟩))
      ·intro x b blk hx ht v b' e;cases e
      ·intro y hp hy;obtain⟨f1,f2,f3⟩:=m8 hp;have f4:testBit y.mask i=true∧Nat.lor mask y.mask=y.mask:=by
        rcases f3 with f3|f3
        ·exact f3
        ·have:=(p9 f3.2).1;cases(show true=false from this)
       refine⟨⟨hy.r1,hy.r2,?_,?_⟩,⟨f1,f2,.inl f4.1⟩⟩
       ·intro x b blk hx ht;refine hy.p1 x b blk ((hmem _).2 ⟨hx,?_⟩) ht;cases htm:testBit mask x with
        |false=>rfl
        |true=>rw[pl f4.2 htm]at ht;cases ht
       ·intro x b blk hx ht;refine hy.p2 x b blk ((hmem _).2 ⟨hx,?_⟩) ht;cases htm:testBit mask x with
        |false=>rfl
        |true=>rw[pl f4.2 htm]at ht;cases ht
theorem qP:∀(C:List (Nat×Nat×CO)) (t:T) (M:Mem) (c:Nat) (p:List (Nat×Nat×bw)) (reads:List (Nat×Nat)) (t':T) (M':Mem) (c':Nat) (p':List (Nat×Nat×bw)) (reads':List (Nat×Nat)),
 gf k base C (.mk t M c p reads)=some (.mk t' M' c' p' reads')→pR C=true→yK base k.F M p→(∀q∈p,∀h∈C,q.1≠h.1)→
 ∃L:List fp,L.map fp.trip=C∧oL k base k.F L (oC t M c p) (oC t' M' c' p')∧L.Pairwise (ql base)∧yK base k.F M' p'∧ ∀y∈L,uc base p reads y
 |[],t,M,c,p,reads,t',M',c',p',reads',h,_,hI,_=>by
  have h':some (DS.mk t M c p reads)=some (.mk t' M' c' p' reads'):=h;injection h' with h';injection h' with e1 e2 e3 e4 e5
  subst e1 e2 e3 e4 e5;exact⟨[],rfl,rfl,.nil,hI,fun y hy=>by cases hy⟩
 |(i,mask,co)::C,t,M,c,p,reads,t',M',c',p',reads',h,hp,hI,hn=>by
  rw[gf]at h;cases hs:px k base (i,mask,co) (.mk t M c p reads)with
  |none=>rw[hs]at h;cases h
  |some s1=>
   obtain⟨t1,M1,c1,p1,reads1⟩:=s1;rw[hs]at h;simp only[pR,aX]at hp;obtain⟨l,hl,hT,hI1,hsub,hpast,hrest⟩:=Ld hI (fun q hq=>hn q hq _ (bJ ..)) hs;have hpair:=fun y hy=>n9 hp.1 y hy
   obtain⟨L,hL,hC,hPW,hI',hPO⟩:=qP C t1 M1 c1 p1 reads1 t' M' c' p' reads' h hp.2 hI1 (by
    intro q hq y hy;rcases hsub q hq with e|⟨q',hq',e⟩
    ·rw[e];exact(m8 (hpair y hy)).2.1
    ·rw[←e];exact hn q' hq' y (br _ hy))
   have hyC:∀y∈L,y.trip∈C:=fun y hy=>by rw[←hL];exact List.mem_map_of_mem hy
   refine⟨l::L,by rw[List.map_cons,hl,hL],⟨_,hT,hC⟩,List.pairwise_cons.2 ⟨fun y hy=>(hrest y (hpair _ (hyC y hy)) (hPO y hy)).2,hPW⟩,hI',?_⟩;intro y hy;rcases be.1 hy with rfl|hy
   ·exact hpast
   ·exact(hrest y (hpair _ (hyC y hy)) (hPO y hy)).1
end
structure qm(P:Program)(E:cG)(F:RO)(m:Nat→Option bw)(c:Nat→Prop)(w:World):Prop where
 has:∀b blk,(m b=some blk∨(m b=none∧bq F b=some blk))→c b∧ep c blk∧ ∃o,w.heap[E.ρ b]?=some o∧dP P E b blk o
 inj:∀b b',(m b≠none∨bq F b≠none)→(m b'≠none∨bq F b'≠none)→E.ρ b=E.ρ b'→b=b'
 apart:∀b,(bq F b).isSome→m b=none
structure uf(P:Program)(F:RO)(E:cG)(m:Nat→Option bw)(c:Nat→Prop)(w:World)(E':cG)(m':Nat→Option bw)(c':Nat→Prop)(w':World):Prop where
 ext:mD c E E'
 le:∀b,c b→c' b
 rel:qm P E' F m' c' w'
 own:∀b,m' b≠none→(∃b0,m b0≠none∧E.ρ b0=E'.ρ b)∨w.heap.size≤E'.ρ b
 frame:∀r,r<w.heap.size→(∀b,m b≠none→E.ρ b≠r)→w'.heap[r]?=w.heap[r]?
 size:w.heap.size≤w'.heap.size
 os:w'.os=w.os
 output:w'.output=w.output
 tape:w'.tape=w.tape
section
variable{P:Program}{E E' E₁ E₂:cG}{F F1:RO}{M M' M1:Mem}{m m' m₁ m₂:Nat→Option bw}{c c' c₁ c₂:Nat→Prop}{w w' w₁ w₂:World}
theorem uf.trans(h:uf P F E m c w E₁ m₁ c₁ w₁)(h':uf P F E₁ m₁ c₁ w₁ E₂ m₂ c₂ w₂):uf P F E m c w E₂ m₂ c₂ w₂ where
 ext:=h.ext.trans h'.ext h.le
 le:=fun b hb=>h'.le b (h.le b hb)
 rel:=h'.rel
 own:=by
  intro b hb;rcases h'.own b hb with⟨b1,h1,e1⟩|h1
  ·rcases h.own b1 h1 with⟨b0,h0,e0⟩|h0
   ·exact .inl ⟨b0,h0,e0.trans e1⟩
   ·exact .inr (e1▸h0)
  ·exact .inr (aY h.size h1)
 frame:=by
  intro r hr hn;rw[h'.frame r (Nat.lt_of_lt_of_le hr h.size),h.frame r hr hn];intro b1 h1 e;rcases h.own b1 h1 with⟨b0,h0,e0⟩|h0
  ·exact hn b0 h0 (e0.trans e)
  ·omega
 size:=aY h.size h'.size
 os:=h'.os.trans h.os
 output:=h'.output.trans h.output
 tape:=h'.tape.trans h.tape
theorem lY{b:Nat}{blk:bw}(h:look F M b=some blk):M.get b=some blk∨(M.get b=none∧bq F b=some blk):=by
 cases hm:M.get b with
 |none=>rw[aT hm]at h;exact .inr ⟨rfl,h⟩
 |some x=>rw[au hm]at h;exact .inl h
theorem sG{b:Nat}{blk:bw}(h:M.get b=some blk∨(M.get b=none∧bq F b=some blk)):look F M b=some blk:=by
 rcases h with h|h
 ·exact au h
 ·rw[aT h.1];exact h.2
theorem qm.of(h:jx P E F M c w)(hm:∀b,m b=M.get b):qm P E F m c w where
 has:=fun b blk hb=>h.has b blk (sG (by rw[←hm b];exact hb))
 inj:=fun b b' hb hb'=>by
  have key:∀x,(m x≠none∨bq F x≠none)→(look F M x).isSome:=by
   intro x hx;rw[hm x]at hx;cases hM:M.get x with
   |some y=>rw[au hM];rfl
   |none=>
    rw[aT hM];rcases hx with hx|hx
    ·exact absurd hM hx
    ·cases hr:bq F x with
     |none=>exact absurd hr hx
     |some _=>rfl
  exact h.inj b b' (key b hb) (key b' hb')
 apart:=fun b hb=>by rw[hm b];exact h.apart b hb
theorem jx.ofM(h:qm P E F m c w)(hm:∀b,m b=M.get b):jx P E F M c w where
 has:=fun b blk hb=>h.has b blk (by rw[hm b];exact lY hb)
 inj:=fun b b' hb hb'=>by
  have key:∀x,(look F M x).isSome→(m x≠none∨bq F x≠none):=by
   intro x hx;obtain⟨y,hy⟩:=bz.1 hx;rw[hm x];rcases lY hy with h1|h1
   ·exact .inl (by rw[h1];exact(fun h=>by cases h))
   ·exact .inr (by rw[h1.2];exact(fun h=>by cases h))
  exact h.inj b b' (key b hb) (key b' hb')
 apart:=fun b hb=>by rw[←hm b];exact h.apart b hb
theorem qm.part(h:qm P E F m c w)(sub:∀b blk,M1.get b=some blk→m b=some blk)
 (ro:∀b blk,bq F1 b=some blk→(m b=some blk∧M1.get b=none)∨bq F b=some blk):jx P E F1 M1 c w:=by
 have key:∀b blk,look F1 M1 b=some blk→m b=some blk∨(m b=none∧bq F b=some blk):=by
  intro b blk hb;rcases lY hb with h1|h1
  ·exact .inl (sub b blk h1)
  ·rcases ro b blk h1.2 with h2|h2
   ·exact .inl h2.1
   ·exact .inr ⟨h.apart b (by rw[h2];rfl),h2⟩
 have key2:∀b,(look F1 M1 b).isSome→m b≠none∨bq F b≠none:=by
  intro b hb;obtain⟨y,hy⟩:=bz.1 hb;rcases key b y hy with h1|h1
  ·exact .inl (by rw[h1];exact(fun h=>by cases h))
  ·exact .inr (by rw[h1.2];exact(fun h=>by cases h))
 refine⟨fun b blk hb=>h.has b blk (key b blk hb),fun b b' hb hb'=>h.inj b b' (key2 b hb) (key2 b' hb'),fun b hb=>?_⟩
 obtain⟨y,hy⟩:=bz.1 hb
 rcases ro b y hy with h2|h2
 ·exact h2.2
 ·cases hM:M1.get b with
  |none=>rfl
  |some z=>
   have:=h.apart b (by rw[h2];rfl);rw[sub b z hM]at this;cases this
theorem qm.step(h:qm P E F m c w)(sub:∀b blk,M1.get b=some blk→m b=some blk)
 (new:∀b,(bq F b).isSome→M'.get b=none) (hS:jH P F1 E M1 c w E' M' c' w'):uf P F E m c w E' (du M1 M' m) c' w':=by
 have kept:∀b blk,M1.get b=none→(m b=some blk∨(m b=none∧bq F b=some blk))→c b∧ep c blk∧ ∃o,w'.heap[E.ρ b]?=some o∧dP P E b blk o:=by
  intro b blk hn hb;obtain⟨h1,h2,o,h3,h4⟩:=h.has b blk hb;refine⟨h1,h2,o,?_,h4⟩;rw[hS.frame (E.ρ b) (Array.getElem?_eq_some_iff.1 h3).1,h3];intro b1 hb1 e;obtain⟨y,hy⟩:=bz.1 hb1;have hb':m b≠none∨bq F b≠none:=by
   rcases hb with hb|hb
   ·exact .inl (by rw[hb];exact(fun h=>by cases h))
   ·exact .inr (by rw[hb.2];exact(fun h=>by cases h))
  have:=h.inj b1 b (.inl (by rw[sub b1 y hy];exact(fun h=>by cases h))) hb' e;rw[this,hn]at hy;cases hy
 have hlt:∀b,(m b≠none∨bq F b≠none)→E.ρ b<w.heap.size∧c b:=by
  intro b hb;have:∃blk,m b=some blk∨(m b=none∧bq F b=some blk):=by
   cases hm:m b with
   |some y=>exact⟨y,.inl rfl⟩
   |none=>
    rcases hb with hb|hb
    ·exact absurd hm hb
    ·cases hr:bq F b with
     |none=>exact absurd hr hb
     |some y=>exact⟨y,.inr ⟨rfl,rfl⟩⟩
  obtain⟨blk,hblk⟩:=this;obtain⟨h1,_,o,h3,_⟩:=h.has b blk hblk;exact⟨(Array.getElem?_eq_some_iff.1 h3).1,h1⟩
 have split:∀b,(du M1 M' m b≠none∨bq F b≠none)→(M1.get b=none∧(m b≠none∨bq F b≠none))∨M'.get b≠none:=by
  intro b hb;rcases hb with hb|hb
  ·unfold du at hb;split at hb
   ·rename_i hc;exact .inl ⟨hc.1,.inl hc.2⟩
   ·exact .inr hb
  ·left;refine⟨?_,.inr hb⟩;have:=h.apart b (by cases hr:bq F b with|none=>exact absurd hr hb|some _=>rfl);cases hM:M1.get b with
   |none=>rfl
   |some y=>rw[sub b y hM]at this;cases this
 refine⟨hS.ext,hS.le,⟨?_,?_,?_⟩,?_,?_,hS.size,hS.os,hS.output,hS.tape⟩
 ·intro b blk hb;have fin:M1.get b=none→(m b=some blk∨(m b=none∧bq F b=some blk))→c' b∧ep c' blk∧ ∃o,w'.heap[E'.ρ b]?=some o∧dP P E' b blk o:=by
   intro hn hk;obtain⟨h1,h2,o,h3,h4⟩:=kept b blk hn hk;exact⟨hS.le b h1,fq hS.le blk h2,o,by rw[hS.ext.ρ b h1];exact h3,h4.ext hS.ext h1 h2⟩
  rcases hb with hb|hb
  ·unfold du at hb;split at hb
   ·rename_i hc;exact fin hc.1 (.inl hb)
   ·exact hS.rel.has b blk (au hb)
  ·have hap:=h.apart b (by rw[hb.2];rfl);refine fin ?_ (.inr ⟨hap,hb.2⟩);cases hM:M1.get b with
   |none=>rfl
   |some y=>rw[sub b y hM]at hap;cases hap
 ·intro b b' hb hb' e;rcases split b hb with⟨h1,h2⟩|h1
  ·obtain⟨l1,l2⟩:=hlt b h2;rcases split b' hb' with⟨h1',h2'⟩|h1'
   ·obtain⟨l1',l2'⟩:=hlt b' h2';rw[hS.ext.ρ b l2,hS.ext.ρ b' l2']at e;exact h.inj b b' h2 h2' e
   ·exfalso;rw[hS.ext.ρ b l2]at e;rcases hS.own b' (by cases hM:M'.get b' with|none=>exact absurd hM h1'|some _=>rfl)with⟨b0,h0,e0⟩|h0
    ·obtain⟨y,hy⟩:=bz.1 h0;have:=h.inj b0 b (.inl (by rw[sub b0 y hy];exact(fun h=>by cases h))) h2 (e0.trans e.symm);rw[this,h1]at hy;cases hy
    ·omega
  ·rcases split b' hb' with⟨h1',h2'⟩|h1'
   ·exfalso;obtain⟨l1',l2'⟩:=hlt b' h2';rw[hS.ext.ρ b' l2']at e;rcases hS.own b (by cases hM:M'.get b with|none=>exact absurd hM h1|some _=>rfl)with⟨b0,h0,e0⟩|h0
    ·obtain⟨y,hy⟩:=bz.1 h0;have:=h.inj b0 b' (.inl (by rw[sub b0 y hy];exact(fun h=>by cases h))) h2' (e0.trans e);rw[this,h1']at hy;cases hy
    ·omega
   ·have hs:∀x,M'.get x≠none→(look F1 M' x).isSome:=by
     intro x hx;cases hM:M'.get x with
     |none=>exact absurd hM hx
     |some y=>rw[au hM];rfl
    exact hS.rel.inj b b' (hs b h1) (hs b' h1') e
 ·intro b hb;unfold du;rw[ab (fun hc=>hc.2 (h.apart b hb))];exact new b hb
 ·intro b hb;rcases split b (.inl hb)with⟨h1,h2⟩|h1
  ·obtain⟨l1,l2⟩:=hlt b h2;left;refine⟨b,?_,(hS.ext.ρ b l2).symm⟩;unfold du at hb;split at hb
   ·exact hb
   ·rcases h2 with h2|h2
    ·exact h2
    ·exact absurd (new b (by cases hr:bq F b with|none=>exact absurd hr h2|some _=>rfl)) hb
  ·rcases hS.own b (by cases hM:M'.get b with|none=>exact absurd hM h1|some _=>rfl)with⟨b0,h0,e0⟩|h0
   ·obtain⟨y,hy⟩:=bz.1 h0;exact .inl ⟨b0,by rw[sub b0 y hy];exact(fun h=>by cases h),e0⟩
   ·exact .inr h0
 ·intro r hr hn;refine hS.frame r hr fun b hb=>hn b ?_;obtain⟨y,hy⟩:=bz.1 hb;rw[sub b y hy];exact(fun h=>by cases h)
theorem GA(m:Nat→Option bw):du .e .e m=m:=by
 funext b
 unfold du
 split
 ·rfl
 ·rename_i h;cases hm:m b with
  |none=>rfl
  |some y=>exact absurd ⟨rfl,by rw[hm];exact(fun h=>by cases h)⟩ h
theorem yZ(m:Nat→Option bw)(b:Nat)(blk:bw)(h:m b=none):du .e (Tr.set .e b blk) m=gS m b blk:=by
 funext x
 unfold du gS
 by_cases e:x=b
 ·rw[ac e,ab (fun hc=>hc.2 (by rw[e];exact h)),Tr.get_set,ac e]
 ·rw[ab e];split
  ·rfl
  ·rename_i hc;rw[Tr.get_set,ab e];cases hm:m x with
   |none=>rfl
   |some y=>exact absurd ⟨rfl,by rw[hm];exact(fun h=>by cases h)⟩ hc
end
structure SM(P:Program)(F:RO)(rd:Option Nat)(nt base:Nat)(d:List Nat)(E:cG)(c:Nat→Prop)(w:World)(a:Act)(s:SS)(rem:Nat→Prop):Prop where
 rel:qm P E F s.m c w
 glob:∀g,g<1000→E.ρ g=g∧E.β g=0
 big:∀g,g<1000→c g
 tr:nN E s.t a.tmps
 bt:KM c s.t
 fr:eQ c s.ct
 le:base≤s.ct
 res:∀i,rem i→ ¬c (base+i)∧base+i<s.ct
 df:a.defers=d.map fun b=>{target:= .collected (E.ρ b),args:=#[]}
 dc:∀b∈d,c b
 sz:nt≤a.tmps.size
 rd:∀l,rd=some l→c l
section
variable{P:Program}{E E':cG}{F:RO}{c c':Nat→Prop}{nt base:Nat}{w w':World}{a:Act}{rd:Option Nat}{d:List Nat}{s s':SS}{rem rem':Nat→Prop}{k:Kn}
theorem SM.next(h:SM P F rd nt base d E c w a s rem){m':Nat→Option bw}(hS:uf P F E s.m c w E' m' c' w'){ct':Nat}(hfr:eQ c' ct')(hle:s.ct≤ct')(hres:∀i,rem' i→ ¬c' (base+i)∧base+i<ct')
 {dst:Option Nat} (hd:oX nt dst=true) {v:V} (hb:bd c' v):SM P F rd nt base d E' c' w' (a.put dst (conc E' v)) ⟨setT s.t (dst.map bo) v,m',ct'⟩ rem':=by
 refine⟨hS.rel,fun g hg=>?_,fun g hg=>hS.le g (h.big g hg),qo (h.tr.ext hS.ext h.bt) (fun j hj=>?_) rfl,uD (fun p=>dD hS.le _ (h.bt p)) hb,hfr,aY h.le hle,hres,?_,fun b hb=>hS.le b (h.dc b hb),by rw[Act.put_size];exact h.sz,fun l hl=>hS.le l (h.rd l hl)⟩
 ·rw[hS.ext.ρ g (h.big g hg),hS.ext.β g (h.big g hg)];exact h.glob g hg
 ·subst hj;have:j<nt:=by simpa [oX]using hd
  exact Nat.lt_of_lt_of_le this h.sz
 ·rw[Act.put_defers,h.df];apply List.map_congr_left;intro b hb;rw[hS.ext.ρ b (h.dc b hb)]
theorem SM.cx(h:SM P F rd nt base d E c w a s rem){F1:RO}{M1:Mem}(hr:jx P E F1 M1 c w):Cx P E F1 M1 c w s.t a:=⟨hr,h.glob,h.big,h.tr,h.bt⟩
theorem b15(hcall:jO P k)(hy:ic P k)(h:SM P k.F rd nt base d E c w a s rem){l:fp}(hrem:rem l.i)(hT:Tn k base k.F l s s'){ops:Array Oper}{o:Oper}(ho:ops[l.i]?=some o)(hco:t7 P nt ops o=some l.co)
 {K:Act→World→Prop} {Q:Exit→Act→World→Prop}
 (hK:∀E' c' a' w',uf P k.F E s.m c w E' s'.m c' w'→(∀b,c' b→c b∨(base≤b∧b<s'.ct))→s.ct≤s'.ct→SM P k.F rd nt base d E' c' w' a' s' (fun j=>rem j∧j≠l.i)→K a' w'):
 wpOpIn (cC E rd) 0 P ops Q l.i K a w:=by
 obtain⟨hd,g,op,hcoe,hg,hop⟩:=qL hco
 have hgu:=wR h.tr hg
 unfold wpOpIn
 simp only[ho]
 rw[hgu]
 rw[lK]at hT
 obtain⟨hcan,rfl⟩:=hT
 have hdst:l.co.dst=o.dst.map bo:=by rw[hcoe];rfl
 have hguard:l.co.guard=g:=by rw[hcoe];rfl
 have hopc:l.co.op=op:=by rw[hcoe];rfl
 have hrelE:jx P E [] .e c w:=h.rel.part (fun b blk hb=>by cases hb) (fun b blk hb=>by cases hb)
 have quiet:∀(F1:RO) (E':cG) (c':Nat→Prop) (w':World) (v:V),jH P F1 E .e c w E' .e c' w'→gD c s.ct c' s.ct→bd c' v→l.val=v→l.mem base s.m=s.m→l.ctr s.ct=s.ct→K (a.put o.dst (conc E' v)) w':=by
  intro F1 E' c' w' v hS hG hb hv hm hc;have hS':=h.rel.step (F1:=F1) (M1:= .e) (M':= .e) (fun b blk hb=>by cases hb) (fun _ _=>rfl) hS;rw[GA]at hS'
  have hcc:∀b,c' b→c b:=fun b hb=>by
   rcases hG.new b hb with h1|h1
   ·exact h1
   ·omega
  refine hK E' c' _ w' (by rw[hm];exact hS') (fun b hb=> .inl (hcc b hb)) (by rw[hc];exact ah _) ?_;rw[hdst,hv,hm,hc];exact h.next hS' (h.fr.grow hG) (ah _) (fun i hi=>⟨fun hx=>(h.res i hi.1).1 (hcc _ hx),(h.res i hi.1).2⟩) hd hb
 unfold FP at hcan
 cases hk:l.k with
 |skip=>
  rw[hk]at hcan;rw[hguard]at hcan;rw[ab (by rw[hcan];exact(fun h=>by cases h))];refine⟨fun _ _=>trivial,?_⟩;exact quiet [] E c w undef (.refl hrelE) (.refl _ _) trivial (by unfold fp.val;rw[hk]) (by unfold fp.mem;rw[hk]) (by unfold fp.ctr;rw[hk])
 |qv v=>
  rw[hk]at hcan;rw[hguard,hopc]at hcan;obtain⟨h1,q,rfl,h3⟩:=hcan;rw[ac h1];rcases hop with hop|hop
  ·refine Rg (rd:=rd) (ct:=s.ct) (h.cx hrelE) hop h3 K Q fun E' c' w' hS hG hb=>?_;exact quiet [] E' c' w' v hS hG hb (by unfold fp.val;rw[hk]) (by unfold fp.mem;rw[hk]) (by unfold fp.ctr;rw[hk])
  ·injection hop with hop;subst hop;cases h3
 |qr v b=>
  rw[hk]at hcan;rw[hguard,hopc]at hcan;obtain⟨h1,q,blk,rfl,h3,h4⟩:=hcan;rw[ac h1];have hrelb:jx P E [(b,blk)] .e c w:=by
   refine h.rel.part (fun b blk hb=>by cases hb) (fun b' blk' hb=>?_);rw[cj]at hb;split at hb
   ·rename_i e;have e':b=b':=e;obtain rfl:=ae hb;subst e';rcases h3 with h3|h3
    ·exact .inl ⟨h3,rfl⟩
    ·exact .inr h3.2
   ·cases hb
  rcases hop with hop|hop
  ·refine Rg (rd:=rd) (ct:=s.ct) (h.cx hrelb) hop h4 K Q fun E' c' w' hS hG hb=>?_;exact quiet _ E' c' w' v hS hG hb (by unfold fp.val;rw[hk]) (by unfold fp.mem;rw[hk]) (by unfold fp.ctr;rw[hk])
  ·injection hop with hop;subst hop;cases h4
 |al v blk=>
  rw[hk]at hcan;rw[hguard,hopc]at hcan;obtain⟨h1,ao,rfl,h3⟩:=hcan;rw[ac h1];rcases hop with hop|hop
  ·have hfree:=h.res l.i hrem;obtain⟨E',w',hr,hS,_,hb⟩:=Sq (h.cx hrelE) hop hfree.1 (c':=fun b=>c b∨b=base+l.i) (.inr rfl) (fun _ h=> .inl h) h3;have hmn:s.m (base+l.i)=none:=by
    cases hm:s.m (base+l.i)with
    |none=>rfl
    |some y=>exact absurd (h.rel.has _ y (.inl hm)).1 hfree.1
   have hnF:bq k.F (base+l.i)=none:=by
    cases hm:bq k.F (base+l.i)with
    |none=>rfl
    |some y=>exact absurd (h.rel.has _ y (.inr ⟨hmn,hm⟩)).1 hfree.1
   have hS':=h.rel.step (F1:=[]) (M1:= .e) (M':=Tr.set .e (base+l.i) blk) (fun b blk hb=>by cases hb) (fun b hb=>by
    rw[Tr.get_set];by_cases e:b=base+l.i
    ·rw[e,hnF]at hb;cases hb
    ·rw[ab e];rfl) hS
   rw[yZ s.m _ blk hmn]at hS';have hm:l.mem base s.m=gS s.m (base+l.i) blk:=by unfold fp.mem;rw[hk]
   have hc:l.ctr s.ct=s.ct:=by unfold fp.ctr;rw[hk]
   have hv:l.val=v:=by unfold fp.val;rw[hk]
   refine⟨fun _ _=>trivial,?_⟩;rw[Oper.semAt_eq _ _ _ (dQ hop),hr];refine hK E' _ _ w' (by rw[hm];exact hS') (fun b hb=>?_) (by rw[hc];exact ah _) ?_
   ·rcases hb with hb|hb
    ·exact .inl hb
    ·exact .inr (by rw[hb];exact⟨by omega,by rw[hc];exact hfree.2⟩)
   ·rw[hdst,hv,hm,hc];refine h.next hS' (fun b hb hc=>?_) (ah _) (fun i hi=>⟨fun hx=>?_,(h.res i hi.1).2⟩) hd hb
    ·rcases hc with hc|hc
     ·exact h.fr b hb hc
     ·have:=hfree.2;omega
    ·rcases hx with hx|hx
     ·exact(h.res i hi.1).1 hx
     ·exact hi.2 (by omega)
  ·cases hop
 |ef v M1 F1 M' ct ct'=>
  rw[hk]at hcan;rw[hguard,hopc]at hcan;obtain⟨h1,h0,eo,rfl,hef⟩:=hcan;rw[ac h1];rcases hop with hop|hop
  ·have hrel1:jx P E F1 M1 c w:=h.rel.part hef.sub hef.ro;have hfr:eQ c ct:=by rw[←h0];exact h.fr
   refine aR6 (rd:=rd) hcall hy (h.cx hrel1) hfr hop hef.run K Q fun E' c' w' hS hG hb=>?_;have hS':=h.rel.step hef.sub hef.new hS;have hm:l.mem base s.m=du M1 M' s.m:=by unfold fp.mem;rw[hk]
   have hc:l.ctr s.ct=ct':=by unfold fp.ctr;rw[hk]
   have hv:l.val=v:=by unfold fp.val;rw[hk]
   have hle:=h.le;have hGle:=hG.le;refine hK E' c' _ w' (by rw[hm];exact hS') (fun b hb=>?_) (by rw[hc,h0];exact hGle) ?_
   ·rcases hG.new b hb with h2|h2
    ·exact .inl h2
    ·exact .inr (by rw[hc];exact⟨by omega,h2.2⟩)
   ·rw[hdst,hv,hm,hc];refine h.next hS' (hfr.grow hG) (by rw[h0];exact hGle) (fun i hi=>?_) hd hb
    have:=h.res i hi.1;refine⟨fun hx=>?_,by omega⟩;rcases hG.new _ hx with h2|h2
    ·exact this.1 h2
    ·omega
  ·cases hop
theorem tE(ms:List Nat):∀(es:List Edge) (x:Nat),testBit (mask1 ms es) x=true↔ ∃e∈es,Region.binds .any e=true∧(e.on=x∨testBit ((ms[e.on]?).getD 0) x=true):=by
 have key:∀m i,testBit m i=Nat.testBit m i:=by
  intro m i;show Nat.beq (m/2^i%2) 1=Nat.testBit m i;rw[bI,Nat.testBit_eq_decide_div_mod_eq]
 intro es
 induction es with
 |nil=>intro x;rw[key];simp[mask1]
 |cons e r ih=>
  intro x;rw[mask1];cases hb:Region.binds .any e with
  |true=>
   rw[cond_true,key];show Nat.testBit ((2^e.on|||(ms[e.on]?).getD 0)|||mask1 ms r) x=true↔_;rw[Nat.testBit_or,Nat.testBit_or,Bool.or_eq_true,Bool.or_eq_true,←key (mask1 ms r),ih,Nat.testBit_two_pow,←key];constructor
   ·rintro((h|h)|⟨e',h1,h2⟩)
    ·exact⟨e,by simp,hb,.inl (by simpa using h)⟩
    ·exact⟨e,by simp,hb,.inr h⟩
    ·exact⟨e',br _ h1,h2⟩
   ·rintro⟨e',h1,h2,h3⟩;rcases be.1 h1 with rfl|h1
    ·rcases h3 with h3|h3
     ·exact .inl (.inl (by simpa using h3))
     ·exact .inl (.inr h3)
    ·exact .inr ⟨e',h1,h2,h3⟩
  |false=>
   rw[cond_false,ih];constructor
   ·rintro⟨e',h1,h2⟩;exact⟨e',br _ h1,h2⟩
   ·rintro⟨e',h1,h2,h3⟩;rcases be.1 h1 with rfl|h1
    ·rw[hb]at h2;cases h2
    ·exact⟨e',h1,h2,h3⟩
theorem Bd{m n x:Nat}(h:m<2^n)(hx:testBit m x=true):x<n:=by
 have key:testBit m x=Nat.testBit m x:=by
  show Nat.beq (m/2^x%2) 1=Nat.testBit m x;rw[bI,Nat.testBit_eq_decide_div_mod_eq]
 rw[key]at hx
 rcases Nat.lt_or_ge x n with h1|h1
 ·exact h1
 ·have:m<2^x:=Nat.lt_of_lt_of_le h (Nat.pow_le_pow_right (by omega) h1);rw[Nat.testBit_lt_two_pow this]at hx;cases hx
structure Sm(P:Program)(nt:Nat)(ops:Array Oper)(ms:List Nat)(l:fp)(o:Oper):Prop where
 op:ops[l.i]?=some o
 co:t7 P nt ops o=some l.co
 mask:l.mask=mask1 ms o.after.toList
 self:testBit l.mask l.i=false
 lt:l.mask<2^ops.size
theorem ZZ(hcall:jO P k)(hy:ic P k){ops:Array Oper}{ms:List Nat}(hms:∀(j:Nat) (o:Oper),ops[j]?=some o→ms[j]?=some (mask1 ms o.after.toList)){Q:Exit→Act→World→Prop}{s':SS}:
 ∀(fuel:Nat) (L:List fp) (listed:Array Bool) (E:cG) (c:Nat→Prop) (w:World) (a:Act) (s:SS),L.length≤fuel→oL k base k.F L s s'→L.Pairwise (ql base)→
 SM P k.F rd nt base d E c w a s (fun j=>∃l∈L,l.i=j)→listed.size=ops.size→(∀j,j<ops.size→(listed.getD j true=false↔ ∃l∈L,l.i=j))→
 (∀(j:Nat) (o:Oper),ops[j]?=some o→listed.getD j false=true→ ∀x,testBit (mask1 ms o.after.toList) x=true→listed.getD x false=true)→
 (∀l∈L,∃o,Sm P nt ops ms l o)→
 (∀E' c' a' w',uf P k.F E s.m c w E' s'.m c' w'→(∀b,c' b→c b∨(base≤b∧b<s'.ct))→s.ct≤s'.ct→SM P k.F rd nt base d E' c' w' a' s' (fun _=>False)→Q .normal a' w')→
 uf P k.F E s.m c w E s.m c w→wpAnyIn (cC E rd) 0 P .any ops Q fuel listed a w:=by
 intro fuel
 induction fuel with
 |zero=>
  intro L listed E c w a s hlen hC hPW hSM hsz hun hdown hlab hQ hrefl;have hL:L=[]:=by cases L<;>simp_all
  subst hL;have hs:s=s':=hC;subst hs;refine⟨?_,?_⟩
  ·rw[List.eq_nil_iff_forall_not_mem];intro j hj;obtain⟨h0,o,ho,_⟩:=mem_ready.1 hj;have hjlt:j<ops.size:=(Array.getElem?_eq_some_iff.1 ho).1;obtain⟨l,hl,_⟩:=(hun j hjlt).1 h0;cases hl
  ·refine hQ E c a w hrefl (fun b hb=> .inl hb) (ah _) ?_;exact{hSM with res:=fun i hi=>hi.elim}
 |succ fuel ih=>
  intro L listed E c w a s hlen hC hPW hSM hsz hun hdown hlab hQ hrefl;refine⟨?_,?_⟩
  ·intro hr;cases L with
   |nil=>
    have hs:s=s':=hC;subst hs;refine hQ E c a w hrefl (fun b hb=> .inl hb) (ah _) ?_;exact{hSM with res:=fun i hi=>hi.elim}
   |cons h r=>
    exfalso;obtain⟨o,hlo⟩:=hlab h (bJ ..);have hlt:h.i<ops.size:=(Array.getElem?_eq_some_iff.1 hlo.op).1;have:h.i∈Region.ready .any ops listed:=by
     refine mem_ready.2 ⟨(hun h.i hlt).2 ⟨h,bJ ..,rfl⟩,o,hlo.op,fun e he hb=>?_⟩;have htb:testBit h.mask e.on=true:=by
      rw[hlo.mask];exact(tE ms _ _).2 ⟨e,by simpa using he,hb,.inl rfl⟩
     have helt:=Bd hlo.lt htb;cases hg:listed.getD e.on false with
     |true=>rfl
     |false=>
      exfalso;have hg':listed.getD e.on true=false:=by
       have h1:e.on<listed.size:=by omega
       simp[Array.getD,h1]at hg⊢;exact hg
      obtain⟨l,hl,hli⟩:=(hun e.on helt).1 hg';rcases be.1 hl with rfl|hl
      ·rw[←hli,hlo.self]at htb;cases htb
      ·have:=((List.pairwise_cons.1 hPW).1 l hl).1;rw[hli,htb]at this;cases this
    rw[hr]at this;cases this
  ·intro i hi;obtain⟨h0,oi,hoi,hall⟩:=mem_ready.1 hi;have hilt:i<ops.size:=(Array.getElem?_eq_some_iff.1 hoi).1;obtain⟨y,hyL,rfl⟩:=(hun i hilt).1 h0;obtain⟨L1,L2,rfl⟩:=List.append_of_mem hyL;obtain⟨o,hlo⟩:=hlab y hyL;have hoo:o=oi:=by have:=hlo.op;rw[hoi]at this;exact(ae this).symm
   subst hoo
   have hmy:∀x,testBit y.mask x=true→listed.getD x false=true:=by
    intro x hx;rw[hlo.mask]at hx;obtain⟨e,he,hb,hx⟩:=(tE ms _ _).1 hx;have hle:=hall e (by simpa using he) hb;rcases hx with hx|hx
    ·rw[←hx];exact hle
    ·have helt:e.on<ops.size:=by
      rcases Nat.lt_or_ge e.on listed.size with h1|h1
      ·omega
      ·have h2:¬e.on<listed.size:=by omega
       simp[Array.getD,h2]at hle
     have hoe:ops[e.on]?=some ops[e.on]:=Array.getElem?_eq_some_iff.2 ⟨helt,rfl⟩;rw[hms e.on _ hoe]at hx;exact hdown e.on _ hoe hle x hx
   have hpw1:∀x∈L1,ql base x y:=by
    intro x hx;exact(List.pairwise_append.1 hPW).2.2 x hx y (bJ ..)
   have hunl:∀x∈L1++y::L2,listed.getD x.i true=false:=by
    intro x hx;obtain⟨ox,hox⟩:=hlab x hx;exact(hun x.i (Array.getElem?_eq_some_iff.1 hox.op).1).2 ⟨x,hx,rfl⟩
   have hap:∀x∈L1,BB base x y:=by
    intro x hx;rcases(hpw1 x hx).2.2 with hb|hb
    ·exfalso;have h1:=hmy _ hb;have h2:=hunl x (List.mem_append_left _ hx);rcases Nat.lt_or_ge x.i listed.size with h3|h3
     ·simp[Array.getD,h3]at h1 h2;rw[h1]at h2;cases h2
     ·have h4:¬x.i<listed.size:=by omega
      simp[Array.getD,h4]at h1
    ·exact hb
   obtain⟨s1,hT,hC'⟩:=oL.move L1 s hap hC;refine b15 hcall hy hSM ⟨y,hyL,rfl⟩ hT hlo.op hlo.co fun E' c' a' w' hS hnew hct hSM'=>?_;have hPW':(L1++L2).Pairwise (ql base):=hPW.sublist (List.Sublist.append_left (List.sublist_cons_self ..) _);have hmem:∀x,x∈L1++L2→x∈L1++y::L2:=by
    intro x hx;rcases List.mem_append.1 hx with hx|hx
    ·exact List.mem_append_left _ hx
    ·exact List.mem_append_right _ (br _ hx)
   have hne:∀x,x∈L1++L2→x.i≠y.i:=by
    intro x hx;rcases List.mem_append.1 hx with hx|hx
    ·exact(hpw1 x hx).2.1
    ·have:=(List.pairwise_cons.1 (List.pairwise_append.1 hPW).2.1).1 x hx;exact fun e=>this.2.1 e.symm
   have hback:∀x,x∈L1++y::L2→x.i≠y.i→x∈L1++L2:=by
    intro x hx hxi;rcases List.mem_append.1 hx with hx|hx
    ·exact List.mem_append_left _ hx
    ·rcases be.1 hx with rfl|hx
     ·exact absurd rfl hxi
     ·exact List.mem_append_right _ hx
   have hfe:cC E rd=cC E' rd:=(eJ hS.ext hSM.rd).symm;rw[hfe];refine ih (L1++L2) (listed.setIfInBounds y.i true) E' c' w' a' s1 ?_ hC' hPW' ?_ (by simpa using hsz) ?_ ?_ (fun l hl=>hlab l (hmem l hl)) ?_ ?_
   ·simp only[aO,aw]at hlen⊢;omega
   ·refine{hSM' with res:=fun j hj=>?_};obtain⟨x,hx,hxj⟩:=hj;exact hSM'.res j ⟨⟨x,hmem x hx,hxj⟩,by rw[←hxj];exact hne x hx⟩
   ·intro j hj;by_cases e:j=y.i
    ·subst e;constructor
     ·intro h;simp[Array.getD,hsz,hilt]at h
     ·rintro⟨x,hx,hxj⟩;exact absurd hxj (hne x hx)
    ·rw[getD_set_ne true (Ne.symm e),hun j hj];constructor
     ·rintro⟨x,hx,hxj⟩;exact⟨x,hback x hx (by rw[hxj];exact e),hxj⟩
     ·rintro⟨x,hx,hxj⟩;exact⟨x,hmem x hx,hxj⟩
   ·intro j oj hoj hl x hx;by_cases e:j=y.i
    ·subst e;have:oj=o:=by rw[hlo.op]at hoj;exact(ae hoj).symm
     subst this;rw[←hlo.mask]at hx;exact getD_set_true (hmy x hx)
    ·rw[getD_set_ne false (Ne.symm e)]at hl;exact getD_set_true (hdown j oj hoj hl x hx)
   ·intro E2 c2 a2 w2 hS2 hnew2 hct2 hSM2;refine hQ E2 c2 a2 w2 (hS.trans hS2) (fun b hb=>?_) (aY hct hct2) hSM2;rcases hnew2 b hb with h1|h1
    ·rcases hnew b h1 with h2|h2
     ·exact .inl h2
     ·exact .inr ⟨h2.1,by omega⟩
    ·exact .inr h1
   ·exact⟨.refl _ _,fun _ h=>h,hS.rel,fun b hb=> .inl ⟨b,hb,rfl⟩,fun _ _ _=>rfl,ah _,rfl,rfl,rfl⟩
end
theorem zR{ops:Array Oper}{cos:List CO}{n:Nat}{l:List (Nat×Nat×CO)}(h:td ops cos= .dreg n l):
 n=ops.size∧l=lz (Region.before ops).toList cos ops.size 0∧xL ops.toList (Region.before ops).toList ops.size l=true:=by
 unfold td Ln at h
 cases hr:xL ops.toList (Region.before ops).toList ops.size (lz (Region.before ops).toList cos ops.size 0)with
 |false=>rw[hr]at h;cases h
 |true=>
  rw[hr,cond_true]at h;injection h with h1 h2
  subst h1 h2;exact⟨rfl,rfl,hr⟩
theorem t6(ms:List Nat)(cos:List CO):∀(fuel done:Nat),(lz ms cos fuel done).length≤fuel
 |0,_=>ah _
 |fuel+1,done=>by
  rw[lz];split
  ·rw[aw];have:=t6 ms cos fuel;exact Nat.succ_le_succ (this _)
  ·simp
theorem nS(ms:List Nat)(cos:List CO):∀(fuel done:Nat) (i m:Nat) (o:CO),(i,m,o)∈lz ms cos fuel done→cos[i]?=some o∧ms[i]?=some m
 |0,_,_,_,_,h=>by cases h
 |fuel+1,done,i,m,o,h=>by
  rw[lz]at h;split at h
  ·rename_i o' m' i' hpick;rcases be.1 h with h|h
   ·injection h with h1 h2;injection h2 with h2 h3
    subst h1 h2 h3;have hmem:((o,m),i)∈(cos.zip ms).zipIdx:=by
     split at hpick
     ·rename_i r hr;obtain rfl:=ae hpick;exact(List.mem_filter.1 (List.mem_of_find?_eq_some hr)).1
     ·exact(List.mem_filter.1 (List.mem_of_mem_head? hpick)).1
    have h1:=List.mem_zipIdx_iff_getElem?.1 hmem;have h2:(cos.zip ms)[i]?=some (o,m):=h1;rw[List.getElem?_zip_eq_some]at h2;exact h2
   ·exact nS ms cos fuel _ i m o h
  ·cases h
theorem qM{P:Program}{nt:Nat}{ops:Array Oper}:∀(l:List Oper) (cos:List CO),jW P nt ops l=some cos→ ∀(i:Nat) (co:CO),cos[i]?=some co→ ∃o,l[i]?=some o∧t7 P nt ops o=some co
 |[],cos,h,i,co,hi=>by
  obtain rfl:=ae h;cases hi
 |o::l,cos,h,i,co,hi=>by
  rw[jW]at h;split at h
  ·rename_i c r h1 h2;obtain rfl:=ae h;cases i with
   |zero=>exact⟨o,rfl,by simp at hi;rw[←hi];exact h1⟩
   |succ i=>exact qM l r h2 i co (by simpa using hi)
  ·cases h
theorem jX{ms:List Nat}{n:Nat}{ops:List Oper}:∀{l:List (Nat×Nat×CO)},pO ms n ops l=true→ ∀x∈l,uK ms n ops x=true
 |[],_,_,h=>by cases h
 |z::r,h,y,hy=>by
  simp only[pO,aX]at h;rcases be.1 hy with rfl|hy
  ·exact h.1
  ·exact jX h.2 y hy
theorem oZ{ms:List Nat}{n:Nat}{ops:List Oper}{x:Nat×Nat×CO}(h:uK ms n ops x=true):∃o,ops[x.1]?=some o∧x.2.1=mask1 ms o.after.toList∧testBit x.2.1 x.1=false∧x.2.1<2^n:=by
 unfold uK at h
 split at h
 ·cases h
 ·rename_i o ho;rw[bI,fu]at h;simp only[aX,Bool.not_eq_true',decide_eq_true_eq]at h;exact⟨o,ho,h.1,h.2.1,h.2.2⟩
theorem lV{i:Nat}:∀{l:List (Nat×Nat×CO)},qY i l=true→ ∃m o,(i,m,o)∈l
 |[],h=>by cases h
 |(j,m,o)::r,h=>by
  rw[qY,bI]at h;by_cases e:j=i
  ·exact⟨m,o,by rw[e];simp⟩
  ·simp[e]at h;obtain⟨m',o',h'⟩:=lV h;exact⟨m',o',br _ h'⟩
theorem jc{l:List (Nat×Nat×CO)}:∀{n:Nat},mN l n=true→ ∀i,i<n→qY i l=true
 |0,_,_,h=>by omega
 |n+1,h,i,hi=>by
  simp only[mN,aX]at h;by_cases e:i=n
  ·rw[e];exact h.1
  ·exact jc h.2 i (by omega)
theorem Qe{P:Program}(hm:P.follows .mixedOrders=true){k:Kn}(hcall:jO P k)(hy:ic P k):Zo P k:=by
 intro F rd nt id ops cos hcos n l hd t d M ct e t' d' M' ct' hx E c w a h Q hQ
 obtain⟨rfl,hl,hreg⟩:=zR hd
 unfold xL at hreg
 rw[aX,aX]at hreg
 obtain⟨hel,hcov,hpairs⟩:=hreg
 have hx':qO d (gf (o7 k F) ct l (.mk t M (ct+ops.size) [] []))= .k e (.mk t' d' M' ct'):=by
  have:fN (Nat.add ct ops.size) (fun c'=>qO d (gf (o7 k F) ct l (.mk t M c' [] [])))= .k e (.mk t' d' M' ct'):=hx
  rwa [bp]at this
 cases hdo:gf (o7 k F) ct l (.mk t M (ct+ops.size) [] [])with
 |none=>rw[hdo]at hx';cases hx'
 |some ds=>
  obtain⟨t2,M2,c2,p2,r2⟩:=ds;rw[hdo,qO,Tr.force_eq]at hx';injection hx' with g1 g2;injection g2 with g2 g3 g4 g5
  subst g1 g2 g3 g4 g5;have hkF:(o7 k F).F=F:=Md k F;have hI0:yK ct (o7 k F).F M []:=⟨fun _ _ _ h=>(by cases h),.nil,fun _ _ _ h=>(by cases h)⟩
  obtain⟨L,hL,hC,hPW,hI,_⟩:=qP l t M (ct+ops.size) [] [] t2 M2 c2 p2 r2 hdo hpairs hI0 (fun q hq=>by cases hq);have hLl:∀x∈L,x.trip∈l:=fun x hx=>by rw[←hL];exact List.mem_map_of_mem hx
  have hlab:∀x∈L,∃o,Sm P nt ops (Region.before ops).toList x o:=by
   intro x hx;have hm1:=hLl x hx;obtain⟨o,ho,hmask,hself,hlt⟩:=oZ (jX hel _ hm1);have hcm:=nS _ _ _ _ _ _ _ (by rw[←hl];exact hm1);obtain⟨o2,ho2,hco⟩:=qM _ _ hcos x.i x.co hcm.1;have:o2=o:=by rw[show ops.toList[x.i]?=some o from ho]at ho2;exact(ae ho2).symm
   subst this;have ho3:ops.toList[x.i]?=some o2:=ho;exact⟨o2,by simpa using ho3,hco,hmask,hself,hlt⟩
  have hms:∀(j:Nat) (o:Oper),ops[j]?=some o→(Region.before ops).toList[j]?=some (mask1 (Region.before ops).toList o.after.toList):=by
   intro j o hj;obtain⟨m,co,hmem⟩:=lV (jc hcov j (Array.getElem?_eq_some_iff.1 hj).1);obtain⟨o2,ho2,hmask,_,_⟩:=oZ (jX hel _ hmem);have hcm:=nS _ _ _ _ _ _ _ (by rw[←hl];exact hmem);have:o2=o:=by
    have h1:ops.toList[j]?=some o2:=ho2;have h2:ops.toList[j]?=some o:=by simpa using hj
    rw[h1]at h2;exact ae h2
   subst this;rw[hcm.2];exact congrArg some hmask
  have hidx:∀j,(∃x∈L,x.i=j)↔j<ops.size:=by
   intro j;constructor
   ·rintro⟨x,hx,rfl⟩;obtain⟨o,ho⟩:=hlab x hx;exact(Array.getElem?_eq_some_iff.1 ho.op).1
   ·intro hj;obtain⟨m,co,hmem⟩:=lV (jc hcov j hj);rw[←hL]at hmem;obtain⟨x,hx,hxe⟩:=List.mem_map.1 hmem;exact⟨x,hx,by injection hxe⟩
  have hlen:L.length≤ops.size:=by
   have:L.length=l.length:=by rw[←hL];simp
   rw[this,hl];exact t6 _ _ _ _
  refine wpIn_region_any hm ?_;have hmem0:∀b,(oC t M (ct+ops.size) []).m b=M.get b:=fun b=>rfl;have hrel0:qm P E F (oC t M (ct+ops.size) []).m c {w with drawn:=w.drawn+1}:=qm.of (h.cx.rel.world (w':={w with drawn:=w.drawn+1}) rfl) hmem0
  have hSM:SM P (o7 k F).F rd nt ct d E c {w with drawn:=w.drawn+1} a (oC t M (ct+ops.size) []) (fun j=>∃x∈L,x.i=j):=by
   rw[hkF];refine⟨hrel0,h.cx.glob,h.cx.big,h.cx.tr,h.cx.bt,fun b hb=>h.fr b ?_,Nat.le_add_right _ _,fun i hi=>?_,h.df,h.dc,h.sz,h.rd⟩
   ·have:ct+ops.size≤b:=hb;omega
   ·have h1:=(hidx i).1 hi;exact⟨h.fr _ (Nat.le_add_right _ _),by show ct+i<ct+ops.size;omega⟩
  have hcall':jO P (o7 k F):=by
   intro F' f args M ct v M' ct' hc;exact hcall F' f args M ct v M' ct' (by cases k;exact hc)
  have hy':ic P (o7 k F):=by
   intro F' l args M ct v M' ct' hc;exact hy F' l args M ct v M' ct' (by cases k;exact hc)
  refine ZZ hcall' hy' hms ops.size L (Array.replicate ops.size false) E c _ a _ hlen hC hPW hSM (by simp) ?_ ?_ hlab ?_ ?_
  ·intro j hj;rw[hidx j];simp[Array.getD,hj]
  ·intro j o hj hl';exfalso;have hjs:=(Array.getElem?_eq_some_iff.1 hj).1;simp[Array.getD,hjs]at hl'
  ·intro E' c' a' w' hS hnew hct hSM';rw[hkF]at hS hSM';refine hQ a' w' ⟨E',c',?_,?_,?_⟩
   ·have hfin:∀b,(oC t2 M2 c2 p2).m b=(cR p2 M2).get b:=fun b=>(iz p2 M2 hI.nd b).symm;refine⟨hS.ext,hS.le,jx.ofM hS.rel hfin,?_,?_,hS.size,hS.os,hS.output,hS.tape⟩
    ·intro b hb;rcases hS.own b (by rw[hfin b];intro e;rw[e]at hb;cases hb)with⟨b0,h0,e0⟩|h0
     ·refine .inl ⟨b0,?_,e0⟩;have h1:M.get b0≠none:=h0;cases hM:M.get b0 with
      |none=>exact absurd hM h1
      |some _=>rfl
     ·exact .inr h0
    ·intro r hr hn;refine hS.frame r hr fun b hb=>hn b ?_;have h1:M.get b≠none:=hb;cases hM:M.get b with
     |none=>exact absurd hM h1
     |some _=>rfl
   ·refine⟨?_,hnew⟩;have:ct+ops.size≤c2:=hct;omega
   ·have hfin:∀b,(oC t2 M2 c2 p2).m b=(cR p2 M2).get b:=fun b=>(iz p2 M2 hI.nd b).symm;exact⟨⟨jx.ofM hS.rel hfin,hSM'.glob,hSM'.big,hSM'.tr,hSM'.bt⟩,hSM'.fr,hSM'.df,hSM'.dc,hSM'.sz,hSM'.rd⟩
  ·rw[hkF];exact⟨.refl _ _,fun _ h=>h,hrel0,fun b hb=> .inl ⟨b,hb,rfl⟩,fun _ _ _=>rfl,ah _,rfl,rfl,rfl⟩
theorem qT{P:Program}(hm:P.follows .mixedOrders=true){Φ:Nat→Option CF}(hΦ:en P Φ)(n:Nat):wd P (exec Φ n):=
 (Qt hΦ (fun ex hex rd fn F=>Qe hm (gu hΦ hex rd fn F) (rY hex rd fn F)) n).1
def E0:cG:=⟨fun b=>b,fun _=>0,fun _=>0⟩
def c0(b:Nat):Prop:=b<1000
def isT:RC→Bool
 | .k (.b true) _ _=>true
 |_=>false
def aZ9(Φ:Nat→Option CF)(fuel:Nat)(F:RO)(f:Nat)(args:List V):RC:=da (exec Φ fuel) F f args .e 1000 (Φ f)
theorem LY{r:RC}(h:isT r=true):∃M c,r= .k (.b true) M c:=by
 unfold isT at h
 split at h
 ·exact⟨_,_,rfl⟩
 ·cases h
theorem QI{P:Program}{F:RO}{E E':cG}{c c':Nat→Prop}{w w':World}{M':Mem}(h:jH P F E .e c w E' M' c' w')(may:MemPlace→Prop):w.keptBut w' may:=by
 refine⟨h.os,h.output,fun i hi=>?_⟩
 have e:w'.heap[i]?=w.heap[i]?:=h.frame i hi (fun b hb=>by cases hb)
 rw[e]
 cases w.heap[i]? with
 |none=>rfl
 |some o=>
  cases o with
  |cells a t fr=>exact⟨rfl,rfl,rfl,fun _ _=>rfl⟩
  |map es cl=>exact .inr ⟨rfl,rfl⟩
  |_=>rfl
def mE(p:Nat→CF→Prop):Tr CF→Prop
 | .e=>True
 | .n l v r=>(match v with|none=>True|some c=>p 0 c)∧mE (fun j=>p (2*j+1)) l∧mE (fun j=>p (2*j+2)) r
theorem mE.get:∀(t:Tr CF) (p:Nat→CF→Prop),mE p t→ ∀k c,t.get k=some c→p k c
 | .e,p,_,k,c,h=>by cases h
 | .n l v r,p,ht,k,c,h=>by
   rw[Tr.get_n]at h;obtain⟨h0,h1,h2⟩:=ht;by_cases e:k=0
   ·rw[ac e]at h;subst e;rw[h]at h0;exact h0
   ·rw[ab e]at h;by_cases e2:k%2=0
    ·rw[ac e2]at h;have:=mE.get r _ h2 _ _ h;rw[show 2*(k/2-1)+2=k by omega]at this;exact this
    ·rw[ab e2]at h;have:=mE.get l _ h1 _ _ h;rw[show 2*(k/2)+1=k by omega]at this;exact this
abbrev eb(P:Program)(k:Nat)(cf:CF):Prop:=aD9 P k cf
theorem MD{P:Program}{t:Tr CF}(h:mE (eb P) t):en P (fun k=>t.get k):=fun k c hk=>mE.get t _ h k c hk
end
end Go.Proofs.YtmbpllipombieaaDoor.Ev
