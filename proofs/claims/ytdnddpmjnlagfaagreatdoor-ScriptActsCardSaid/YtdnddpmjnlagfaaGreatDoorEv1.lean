/- What is proved here: pieces of the evaluator's soundness: if the evaluator comes to a value, the model's run comes to it, for every world and tape; no conditions beyond the hypotheses of each theorem. -/
import Derived.Test.YtdnddpmjnlagfaaGreatDoorEv0
import Derived.Laws.Externs
import Derived.KernelRfl
import Derived.Laws.StructEq
import Derived.Lib.Bytealg
import GoSem.Extern.BytealgCompare
set_option linter.unusedSimpArgs false
set_option linter.unusedVariables false
set_option linter.defProp false
namespace Go.Proofs.YtdnddpmjnlagfaaGreatDoor.Ev
open Go
noncomputable section
section
variable{P:Program}{E:cE}{F:RO}{M:Mem}{c:Nat→Prop}{w:World}{t:T}{a:Act}
def PU(o:Option Value)(r:Option Nat):Prop:=∃k,o=r.map fun n=>Value.int k (n:Int)
theorem Cx.optNN(h:Cx P E F M c w t a){o:Option Operand}{x:Option X}(hx:OO o=some x){r:Option Nat}(hr:Ev.optNN t x=some r):PU (o.map a.eval) r:=by
 cases o with
 |none=>
  obtain rfl:=af hx;obtain rfl:=af hr;exact⟨.i64,rfl⟩
 |some y=>
  obtain⟨z,hz,rfl⟩:=b9.1 hx;have hr':(match oA (z.ev t)with|some n=>some (some n)|none=>none)=some r:=hr;split at hr'
  ·rename_i n hn;obtain rfl:=af hr';obtain⟨k,hk⟩:=iQ hn;refine⟨k,?_⟩;rw[Option.map_some,(h.ev hz).1,hk];rfl
  ·cases hr'
theorem Cx.optN(h:Cx P E F M c w t a){o:Option Operand}{x:Option X}(hx:OO o=some x){d n:Nat}(hr:Ev.optN t d x=some n):
 ∃r,PU (o.map a.eval) r∧r.getD d=n∧(r.isSome↔x.isSome):=by
 cases o with
 |none=>
  obtain rfl:=af hx;obtain rfl:d=n:=af hr;exact⟨none,⟨.i64,rfl⟩,rfl,by simp⟩
 |some y=>
  obtain⟨z,hz,rfl⟩:=b9.1 hx;have hn:oA (z.ev t)=some n:=hr;obtain⟨k,hk⟩:=iQ hn;refine⟨some n,⟨k,?_⟩,rfl,by simp⟩;rw[Option.map_some,(h.ev hz).1,hk];rfl
theorem pl{isS:Bool}{len cap:Nat}{lo hi mx:Option Value}{l h m:Option Nat}(hl:PU lo l)(hh:PU hi h)(hm:PU mx m)
 (h1:m.getD cap≤cap) (h2:h.getD len≤m.getD cap) (h3:l.getD 0≤h.getD len) (h4:m=none∨h.isSome):
 (Instr.sliceBounds isS len cap lo hi mx).run P w= .ok (l.getD 0,h.getD len,m.getD cap) w:=by
 obtain⟨k1,rfl⟩:=hl
 obtain⟨k2,rfl⟩:=hh
 obtain⟨k3,rfl⟩:=hm
 cases l<;>cases h<;>cases m<;>
  simp_all [Instr.sliceBounds,Instr.sliceBound,asIntOf]
theorem LL{b o n k:Nat}{x:V}(h:(mkL b o n k).val=some x):x= .l b o n k:=by
 unfold mkL at h;rw[aN,aN,aN]at h;exact(af h).symm
theorem LN{b o n el kn:Nat}{x:V}(h:(mkU b o n el kn).val=some x):x= .u b o n el kn:=by
 unfold mkU at h;rw[aN,aN,aN]at h;exact(af h).symm
theorem ae0{p q r:Bool}{x y:QR}{v:V}(h:(bif p&&q&&r then x else .f).val=some v):p=true∧q=true∧r=true∧x.val=some v:=by
 cases p<;>cases q<;>cases r<;>first|exact⟨rfl,rfl,rfl,h⟩|cases(show(none:Option V)=some v from h)
theorem cw4{p q:Bool}{x:QR}{v:V}(h:(bif p&&q then x else .f).val=some v):p=true∧q=true∧x.val=some v:=by
 cases p<;>cases q<;>first|exact⟨rfl,rfl,h⟩|cases(show(none:Option V)=some v from h)
theorem zp{sz b o cap l h m:Nat}{x:V}(hx:(tn sz b o cap l h m).val=some x):m≤cap∧h≤m∧l≤h∧x= .l b (if m=l then o else o+l*sz) (h-l) (m-l):=by
 unfold tn at hx
 rw[bL,bL,bL,bp]at hx
 obtain⟨h1,h2,h3,h4⟩:=ae0 (y:= .f) hx
 refine⟨bc h1,bc h2,bc h3,?_⟩
 rw[LL h4]
 by_cases e:m=l<;>simp[e]
theorem ad9{r o k:Nat}{p:Prop}[Decidable p]:(if p then(⟨r,o,none⟩:Addr)else⟨r,o+k,none⟩)=⟨r,if p then o else o+k,none⟩:=by split<;>rfl
theorem ao1(h:Cx P E F M c w t a){o:Oper}{ty:TypeId}{y:Operand}{lo hi mx:Option Operand}(hop:o.op= .slice ty y lo hi mx){q:QO}(hc:aB P o.op=some (.q q)){x:V}(hx:(cS q F M t).val=some x):sJ P E c w a o x:=by
 rw[hop]at hc
 simp only[aB]at hc
 split at hc
 ·rename_i xa xl xh xm h1 h2 h3 h4;have e:=h.ev h1
  have arr:∀n s el,dR P el=some s→(∀ad:Addr,∀lo' hi' mx':Option Value,∀l k m:Nat,(Instr.sliceBounds false n n lo' hi' mx').run P w= .ok (l,k,m) w→
   (Instr.sliceAt ty (.pointer (some ad)) lo' hi' mx').run P w= .ok (.slice (some (if m=l then ad else ad.add (l*s))) (k-l) (m-l)) w)→
   QO.slA n s xa xl xh xm=q→sJ P E c w a o x:=by
   intro n s el hs hrun hq;subst hq;have hx':(zi n s xa xl xh xm F M t).val=some x:=hx;unfold zi at hx';by_cases hg:(xm.isNone||xh.isSome)=true
   ·rw[hg,cond_true]at hx';obtain⟨b,off,hv,hg2⟩:=qH hx';unfold wq at hg2;split at hg2
    ·rename_i l k m hl hk hm;obtain⟨d1,d2,d3,rfl⟩:=zp hg2;obtain⟨rl,ol,el',_⟩:=h.optN h2 hl;obtain⟨rh,oh,eh,ih⟩:=h.optN h3 hk;obtain⟨rm,om,em,im⟩:=h.optN h4 hm;subst el' eh em;rw[hv]at e;refine⟨?_,e.2⟩;simp only[execOp,hop];refine aG ?_;rw[e.1];simp only[conc]
     rw[hrun _ _ _ _ _ _ _ (pl ol oh om d1 d2 d3 (by
      cases hxm:xm with
      |none=>left;rw[hxm]at im;simpa using im
      |some z=>right;rw[hxm]at hg;rw[ih];simpa using hg))]
     simp only[Addr.add_eq,ad9]
     congr 5
     split<;>omega
    ·cases hg2
   ·rw[Bool.not_eq_true]at hg;rw[hg]at hx';cases(show(none:Option V)=some x from hx')
  split at hc
  ·
   rename_i hu;split at hc
   ·cases hc
   ·rename_i hmx;obtain rfl:QO.slS xa xl xh=q:=by simpa [Ev.q]using hc
    obtain⟨n,s,hv,hg⟩:=jq (show(oT (xa.ev t) .f fun n s=>jU n s (optN t 0 xl) (optN t n xh)).val=some x from hx);obtain⟨l,k,hl,hk,d1,d2,rfl⟩:=MI hg;obtain⟨rl,ol,el',_⟩:=h.optN h2 hl;obtain⟨rh,oh,eh,ih⟩:=h.optN h3 hk;subst el' eh
    have hmn:xm=none:=by cases xm with
     |none=>rfl
     |some z=>simp at hmx
    have hmx0:mx=none:=by
     rw[hmn]at h4;cases mx with
     |none=>rfl
     |some z=>rw[OO]at h4;cases hz:aY z<;>rw[hz]at h4<;>simp at h4
    rw[hv]at e;refine⟨?_,trivial⟩;simp only[execOp,hop];refine aG ?_;rw[e.1,hmx0];have hb:=pl (P:=P) (w:=w) (isS:=false) (len:=n) (cap:=n) (mx:=none) (m:=none) ol oh ⟨.i64,rfl⟩ (by simp) (by simpa using d2) (by simpa using d1) (.inl rfl);simp only[Instr.sliceAt,Instr.slice,aE,ay hu,aI,conc,Option.map_none,Option.isSome_none,aS,if_false,Sem.run_ite,aA,d8,hb]
    congr 2
    exact Ek _ _ _ _ d1 d2
  ·
   rename_i el hu;obtain⟨s,hs,hc'⟩:=aR.1 hc;split at hc'
   ·cases hc'
   ·obtain rfl:QO.slL s xa xl xh xm=q:=by simpa [Ev.q]using hc'
    have hx':(se s (xa.ev t) (optNN t xl) (optNN t xh) (optNN t xm)).val=some x:=hx;unfold se at hx';split at hx'
    ·rename_i rl rh rm hl hk hm;have ol:=h.optNN h2 hl;have oh:=h.optNN h3 hk;have om:=h.optNN h4 hm;unfold D6 at hx';by_cases hg:(rm.isNone||rh.isSome)=true
     ·rw[hg,cond_true]at hx';have h4':rm=none∨rh.isSome:=by
       cases rm with
       |none=>exact .inl rfl
       |some z=>right;simpa using hg
      have fin:∀(ad:Option Addr) (len cap:Nat),conc E (xa.ev t)= .slice ad len cap→rm.getD cap≤cap→rh.getD len≤rm.getD cap→rl.getD 0≤rh.getD len→
       (Instr.sliceAt ty (conc E (xa.ev t)) (lo.map a.eval) (hi.map a.eval) (mx.map a.eval)).run P w=
        .ok (.slice (if rm.getD cap=rl.getD 0 then ad else ad.map (·.add (rl.getD 0*s))) (rh.getD len-rl.getD 0) (rm.getD cap-rl.getD 0)) w:=by
       intro ad len cap hcv d1 d2 d3;rw[hcv];have hb:=pl (P:=P) (w:=w) (isS:=true) ol oh om d1 d2 d3 h4';simp only[Instr.sliceAt,Instr.slice,aE,ay hu,aI,hb,dF hs,aA]
      split at hx'
      ·rename_i b off len cap hv;obtain⟨d1,d2,d3,rfl⟩:=zp hx';rw[hv]at e;refine⟨?_,e.2⟩;simp only[execOp,hop];refine aG ?_;rw[(h.ev h1).1,fin _ len cap (by rw[hv];rfl) d1 d2 d3];simp only[conc,Option.map_some,Addr.add_eq]
       congr 2
       split
       ·rename_i e0;simp[e0]
       ·rename_i e0;simp[e0,Nat.add_assoc]
      ·rename_i hv;rw[bp,bp,bp]at hx';obtain⟨g1,g2,g3,g4⟩:=ae0 (y:= .f) hx';obtain rfl:=af g4;have g1:=bc g1;have g2:=bc g2;have g3:=bc g3;refine⟨?_,trivial⟩;simp only[execOp,hop];refine aG ?_;rw[e.1,fin none 0 0 (by rw[hv];rfl) (by omega) (by omega) (by omega),g1,g2,g3];rfl
      ·rename_i b off len el' kn hv;rw[hv]at e;split at hx'
       ·unfold oW at hx';rw[bL,bL,bp,dY]at hx';obtain⟨g1,g2,g3⟩:=cw4 hx';have g1:el'+rh.getD len≤kn:=bc g1;have g2:rl.getD 0≤rh.getD len:=bc g2;have hr:=fin _ len _ (by rw[hv];rfl) (by simp) (show rh.getD len≤kn-el'+E.κ b by omega) g2;simp only[Option.getD_none]at hr;by_cases hl0:rl.getD 0=0
        ·rw[ae (p:=rl.getD 0=0) hl0,cond_true]at g3;obtain rfl:=LN g3;refine⟨?_,e.2⟩;simp only[execOp,hop];refine aG ?_;rw[(h.ev h1).1,hr,hl0];simp[conc,Addr.add_eq]
        ·rw[ag (p:=rl.getD 0=0) hl0,cond_false]at g3;by_cases hlt:el'+rl.getD 0<kn
         ·rw[show Nat.add el' (rl.getD 0)=el'+rl.getD 0 from rfl,ae hlt,cond_true]at g3;obtain rfl:=LN g3;refine⟨?_,e.2⟩;simp only[execOp,hop];refine aG ?_;rw[(h.ev h1).1,hr];have hne:¬(kn-el'+E.κ b=rl.getD 0):=by omega
          simp only[conc,hne,if_false,Option.map_some,Addr.add_eq]
          congr 2
          ·rw[Nat.add_assoc];rfl
          ·show _=kn-(el'+rl.getD 0)+E.κ b;omega
         ·rw[show Nat.add el' (rl.getD 0)=el'+rl.getD 0 from rfl,ag hlt,cond_false,aN]at g3;obtain rfl:=af g3;refine⟨?_,e.2⟩;simp only[execOp,hop];refine aG ?_;rw[(h.ev h1).1,hr];have e1:rh.getD len-rl.getD 0=0:=by omega
          have e2:kn-el'+E.κ b-rl.getD 0=E.κ b:=by omega
          rw[e1,e2];simp only[conc,Option.map_some,Addr.add_eq]
          congr 2
          by_cases hk0:E.κ b=0
          ·rw[ac (by omega),ac hk0,ab (show¬(Nat.add off (Nat.mul (rl.getD 0) s)<off)from Nat.not_lt.2 (Nat.le_add_right _ _))]
          ·rw[ab (by omega),ab hk0,Nat.add_assoc];rfl
       ·rename_i m;unfold Zk at hx';rw[bL,bL,bL,bp]at hx';obtain⟨g1,g2,g3,g4⟩:=ae0 (y:= .f) hx';have g1:el'+m≤kn:=bc g1;have g2:rh.getD len≤m:=bc g2;have g3:rl.getD 0≤rh.getD len:=bc g3;obtain rfl:=LL g4;refine⟨?_,e.2⟩;simp only[execOp,hop];refine aG ?_;rw[(h.ev h1).1,fin _ len _ (by rw[hv];rfl) (by simp;omega) (by simpa using g2) g3];simp only[conc,Option.getD_some,Option.map_some,Addr.add_eq]
        congr 2
        by_cases e0:m=rl.getD 0
        ·simp[e0]
        ·simp[e0,Nat.add_assoc]
      ·rename_i b o0 off hv;rw[hv]at e;rw[bp,bp]at hx';obtain⟨g1,g2,g3,g4⟩:=ae0 (y:= .f) hx';obtain rfl:=af g4;have g2:=bc g2;have g3:=bc g3;have hrm:rm=none:=by simpa using g1
       subst hrm;refine⟨?_,e.2⟩;simp only[execOp,hop];refine aG ?_;rw[(h.ev h1).1,fin _ 0 _ (by rw[hv];rfl) (by simp) (by rw[g2];omega) (by rw[g3];omega),g2,g3];simp[conc,Addr.add,hv]
      ·cases hx'
     ·rw[Bool.not_eq_true]at hg;rw[hg]at hx';cases(show(none:Option V)=some x from hx')
    ·cases hx'
  ·
   rename_i n el hu;obtain⟨s,hs,hc'⟩:=aR.1 hc;split at hc'
   ·cases hc'
   ·refine arr n s el hs ?_ (by simpa [Ev.q]using hc');intro ad lo' hi' mx' l k m hb;simp only[Instr.sliceAt,aE,ay hu,aI,Instr.sureAddr,aA,hb,dF hs]
  ·
   rename_i ar hu;split at hc
   ·rename_i n el hua;obtain⟨s,hs,hc'⟩:=aR.1 hc;split at hc'
    ·cases hc'
    ·refine arr n s el hs ?_ (by simpa [Ev.q]using hc');intro ad lo' hi' mx' l k m hb;simp only[Instr.sliceAt,Instr.slice,aE,ay hu,ay hua,aI,asAddr,aA,hb,dF hs]
   ·cases hc
  ·cases hc
 ·cases hc
end
theorem yn{o:Option bq}{g:List (V×V×Nat)→Nat→QR}{x:V}(h:(oH o .f g).val=some x):∃es k,o=some (.map es k)∧(g es k).val=some x:=by
 cases o with
 |none=>cases(show(none:Option V)=some x from h)
 |some b=>cases b with
  |map es k=>exact⟨es,k,rfl,h⟩
  |_=>cases(show(none:Option V)=some x from h)
theorem Ej(n x m y:Nat):(ba n x==ba m y)=decide (bl n x=bl m y):=by
 show((ba n x).data==(ba m y).data)=_
 rw[Bool.eq_iff_iff,beq_iff_eq,decide_eq_true_iff]
 constructor
 ·intro e;have:=congrArg Array.toList e
  simpa [eV]using this
 ·intro e;simp only[ba,e]
inductive ki:Sh→TypeDesc→Prop
 |bool:ki .bool .bool
 |int (k:IntKind):ki .int (.int k)
 |str:ki .str .string
section
variable{P:Program}{E:cE}{F:RO}{M:Mem}{c:Nat→Prop}{w:World}{t:T}{a:Act}
theorem pE{ty:TypeId}{sh:Sh}(h:tf P ty=some sh):∃d,P.underlying ty=some d∧ki sh d:=by
 unfold tf at h
 split at h
 ·rename_i hu;obtain rfl:=af h;exact⟨_,hu,.bool⟩
 ·rename_i hu;obtain rfl:=af h;exact⟨_,hu,.int _⟩
 ·rename_i hu;obtain rfl:=af h;exact⟨_,hu,.str⟩
 ·cases h
theorem eG{ty:TypeId}{sh:Sh}{d:TypeDesc}(hu:P.underlying ty=some d)(hk:ki sh d)(e:Bool)(n:Nat)(v:Value):(Instr.checkKey e (n+1) ty v).run P w= .ok () w:=by
 cases hk<;>cases v<;>simp[Instr.checkKey,ay hu]
theorem yS{sh:Sh}{d:TypeDesc}(hk:ki sh d){x y:V}{r:Bool}(h:nb sh x y=some r):Instr.sameNow d (conc E x) (conc E y)=some r:=by
 cases hk with
 |bool=>
  cases x<;>cases y<;>first|(simp[nb]at h;done)|skip
  rename_i x y;simp only[nb]at h;simp only[conc,Instr.sameNow,h]
 |int k=>
  cases x<;>cases y<;>first|(simp[nb]at h;done)|skip
  rename_i k1 m k2 n;simp only[nb,eX]at h;by_cases hk:k1=k2
  ·rw[ae hk,cond_true,cB]at h;simp only[conc,Instr.sameNow,hk,if_true];rw[←h]
   congr 1
  ·rw[ag hk]at h;cases h
 |str=>
  cases x<;>cases y<;>first|(simp[nb]at h;done)|skip
  rename_i n x m y;simp only[nb,jy]at h;simp only[conc,Instr.sameNow];rw[←h,Ej]
theorem nT{sh:Sh}{d:TypeDesc}(hk:ki sh d){k:V}:∀(es:List (V×V×Nat)) (i:Nat) (r:Option (Nat×V)),oK sh k es i=some r→
 Instr.findNow d (conc E k) (es.map (entry E)) i=some (r.map fun p=>(p.1,conc E p.2))∧(∀p,r=some p→i≤p.1∧ ∃k' b,es[p.1-i]?=some (k',p.2,b)∧nb sh k k'=some true)
 |[],i,r,h=>by
  obtain rfl:=af h;exact⟨rfl,fun p hp=>by cases hp⟩
 |(k',v,b)::es,i,r,h=>by
  rw[oK]at h;split at h
  ·rename_i hk';obtain rfl:=af h;refine⟨?_,fun p hp=>?_⟩
   ·simp only[List.map_cons,Instr.findNow,entry,yS hk hk',Option.map_some]
   ·obtain rfl:=af hp;exact⟨ah _,k',b,by simp,hk'⟩
  ·rename_i hk';have ih:=nT hk es (i+1) r h;refine⟨?_,fun p hp=>?_⟩
   ·simp only[List.map_cons,Instr.findNow,entry,yS hk hk'];exact ih.1
   ·obtain⟨h1,k2,b2,h2,h3⟩:=ih.2 p hp;refine⟨by omega,k2,b2,?_,h3⟩;rw[show p.1-i=(p.1-(i+1))+1 by omega,List.getElem?_cons_succ];exact h2
  ·cases h
theorem gw{ty:TypeId}{sh:Sh}{d:TypeDesc}(hu:P.underlying ty=some d)(hk:ki sh d){k:V}{es:List (V×V×Nat)}{r:Option (Nat×V)}(h:oK sh k es 0=some r):
 (Instr.findKey ty (conc E k) (es.map (entry E))).run P w= .ok (r.map fun p=>(p.1,conc E p.2)) w:=by
 simp only[Instr.findKey,aE,ay hu,aI,(nT hk es 0 r h).1,aA]
theorem gz{ty:TypeId}{z:V}(h:my P ty=some z):(zeroValue ty).run P w= .ok (conc E z) w∧bd c z:=by
 unfold my at h
 obtain⟨v,hv,hz⟩:=aR.1 h
 obtain⟨i,hi,hv'⟩:=aR.1 hv
 have:=nF E c _ v z hz
 refine⟨?_,this.2⟩
 simp[zeroValue,typeInfo,hi,hv',this.1]
theorem Cx.map(h:Cx P E F M c w t a){b:Nat}{es:List (V×V×Nat)}{k:Nat}(hb:look F M b=some (.map es k)):w.heap[E.ρ b]?=some (.map (es.map (entry E)).toArray k)∧ ∀e∈es,bd c e.1∧bd c e.2.1:=by
 obtain⟨_,hv,o,ho,rfl⟩:=h.rel.has _ _ hb
 exact⟨ho,hv⟩
theorem cA{r:Nat}{es:Array MapEntry}{k:Nat}(h:w.heap[r]?=some (.map es k)):(getObj r).run P w= .ok (.map es k) w:=by
 simp[getObj,Sem.run,h]
theorem YP(h:Cx P E F M c w t a){o:Oper}{ty:TypeId}{y i:Operand}{ok:Bool}(hop:o.op= .lookup ty y i ok){q:QO}(hc:aB P o.op=some (.q q)){x:V}(hx:(cS q F M t).val=some x):sJ P E c w a o x:=by
 rw[hop]at hc
 simp only[aB]at hc
 split at hc
 ·rename_i kt et xa xi hu h1 h2;split at hc
  ·rename_i sh z hks hz;obtain rfl:QO.lk sh z ok xa xi=q:=by simpa [Ev.q]using hc
   obtain⟨d,hd,hkk⟩:=pE hks;have e1:=h.ev h1;have e2:=h.ev h2;have hz':=gz (E:=E) (c:=c) (w:=w) hz;have hx':(P2 sh z ok xa xi F M t).val=some x:=hx;unfold P2 at hx';split at hx'
   ·rename_i hv;obtain rfl:=af hx';rw[hv]at e1;refine⟨?_,by cases ok<;>simp[bd,fE,hz'.2]⟩;simp only[execOp,hop];refine aG ?_;rw[e1.1,e2.1];simp only[Instr.lookup,conc,aE,ay hu,aI,aA,eG hd hkk,Instr.findKey,ay hd,Instr.findNow,hz'.1];cases ok<;>simp[Instr.findNow,hz'.1,conc,aw]
   ·rename_i b hv;obtain⟨es,k,hl,hg⟩:=yn hx';obtain⟨ho,hbd⟩:=h.map hl;rw[hv]at e1;unfold b09 at hg;split at hg
    ·rename_i j v hf;obtain rfl:=af hg;have hfk:=gw (P:=P) (w:=w) (E:=E) hd hkk hf;obtain⟨_,k',b',hm,_⟩:=(nT (E:=E) hkk es 0 _ hf).2 (j,v) rfl;have hbv:bd c v:=(hbd _ (List.mem_of_getElem? hm)).2;refine⟨?_,by cases ok<;>simp[bd,fE,hbv]⟩;simp only[execOp,hop];refine aG ?_;rw[e1.1,e2.1];simp only[Instr.lookup,conc,aE,ay hu,aI,cA ho,aA,eG hd hkk,List.toList_toArray,hfk,Option.map_some];cases ok<;>simp[conc,aw]
    ·rename_i hf;obtain rfl:=af hg;have hfk:=gw (P:=P) (w:=w) (E:=E) hd hkk hf;refine⟨?_,by cases ok<;>simp[bd,fE,hz'.2]⟩;simp only[execOp,hop];refine aG ?_;rw[e1.1,e2.1];simp only[Instr.lookup,conc,aE,ay hu,aI,cA ho,aA,eG hd hkk,List.toList_toArray,hfk,Option.map_none,hz'.1];cases ok<;>simp[conc,aw]
    ·cases hg
   ·cases hx'
  ·cases hc
 ·cases hc
theorem P1(h:Cx P E F M c w t a){o:Oper}{y:Operand}{i:Nat}(hop:o.op= .extract y i){q:QO}(hc:aB P o.op=some (.q q)){x:V}(hx:(cS q F M t).val=some x):sJ P E c w a o x:=by
 rw[hop]at hc
 obtain⟨z,hz,rfl⟩:=lK (f:=fun x=> .ex i x) hc
 have e:=h.ev hz
 have hx':(wo i z F M t).val=some x:=hx
 unfold wo at hx'
 cases hv:z.ev t with
 |t vs=>
  rw[hv]at hx' e;have hr:=wv hx';rw[kO]at hr;refine⟨?_,ea (l:=vs) e.2 hr⟩;simp only[execOp,hop];refine aG ?_;rw[e.1];simp[Instr.extract,conc,eg hr]
 |_=>rw[hv]at hx';cases(show(none:Option V)=some x from hx')
theorem Ax(h:Cx P E F M c w t a){o:Oper}{y:Operand}{xt ty:TypeId}{ok:Bool}(hop:o.op= .typeAssert y xt ty ok){q:QO}(hc:aB P o.op=some (.q q)){x:V}(hx:(cS q F M t).val=some x):sJ P E c w a o x:=by
 rw[hop]at hc
 simp only[aB]at hc
 split at hc
 ·cases hc
 ·rename_i d z zv hd hu hz hzv;obtain rfl:QO.ta ty zv ok z=q:=by simpa [Ev.q]using hc
  have e:=h.ev hz;have hz':=gz (E:=E) (c:=c) (w:=w) hzv;have hw:=ay (w:=w) hu;have hx':(P4 ty zv ok z F M t).val=some x:=hx;unfold P4 at hx';split at hx'
  ·rename_i ty' v hv;rw[hv]at e;rw[bp]at hx';by_cases hty:ty'=ty
   ·rw[ae hty,cond_true]at hx';obtain rfl:=af hx';have hbv:bd c v:=e.2;refine⟨?_,by cases ok<;>simp[bd,fE,hbv]⟩;simp only[execOp,hop];refine aG ?_;rw[e.1]
    cases d<;>first
     |exact(hd _ rfl).elim
     |(cases ok<;>simp[Instr.typeAssert,hw,conc,aw,hty])
   ·rw[ag hty,cond_false]at hx';cases ok with
    |false=>cases(show(none:Option V)=some x from hx')
    |true=>
     obtain rfl:=af hx';refine⟨?_,by simp[bd,fE,hz'.2]⟩;simp only[execOp,hop];refine aG ?_;rw[e.1]
     cases d<;>first
      |exact(hd _ rfl).elim
      |simp[Instr.typeAssert,hw,conc,aw,hty,hz'.1]
  ·rename_i hv;rw[hv]at e;cases ok with
   |false=>cases(show(none:Option V)=some x from hx')
   |true=>
    obtain rfl:=af hx';refine⟨?_,by simp[bd,fE,hz'.2]⟩;simp only[execOp,hop];refine aG ?_;rw[e.1]
    cases d<;>first
     |exact(hd _ rfl).elim
     |simp[Instr.typeAssert,hw,conc,aw,hz'.1]
  ·cases hx'
 ·cases hc
end
theorem bX(E:cE)(v:V):(conc E v).cells=(aw E (flatten v)).toArray:=by
 cases v<;>rfl
theorem dT{c:Nat→Prop}{v:V}(h:bd c v):fE c (flatten v):=by
 cases v<;>first|exact⟨h,trivial⟩|exact h
theorem lW{α:Type}:∀(l:List α) (o:Nat) (vs r:List α),ig l o vs=some r→o+vs.length≤l.length∧r.length=l.length∧ ∀j,r[j]?=if o≤j∧j<o+vs.length then vs[j-o]? else l[j]?
 |l,0,[],r,h=>by
  have:r=l:=by rw[ig.eq_def]at h;exact(af h).symm
  subst this;refine⟨by simp,rfl,fun j=>by rw[ab (by simp)]⟩
 |[],0,v::vs,r,h=>by rw[ig.eq_def]at h;cases h
 |x::l,0,v::vs,r,h=>by
  rw[ig.eq_def]at h;dsimp only at h;split at h
  ·rename_i t' ht;obtain rfl:=af h;obtain⟨h1,h2,h3⟩:=lW l 0 vs t' ht;refine⟨by simp at h1⊢;omega,by simp[h2],fun j=>?_⟩;cases j with
   |zero=>simp
   |succ j=>
    rw[List.getElem?_cons_succ,h3 j];simp only[aF,true_and,Nat.sub_zero,aX,List.getElem?_cons_succ,Nat.zero_add];by_cases hj:j<vs.length
    ·rw[ac hj,ac (by omega)]
    ·rw[ab hj,ab (by omega)]
  ·cases h
 |[],o+1,vs,r,h=>by rw[ig.eq_def]at h;cases vs<;>cases h
 |x::l,o+1,vs,r,h=>by
  have h':(match ig l o vs with|some t=>some (x::t)|none=>none)=some r:=by
   rw[ig.eq_def]at h;cases vs<;>exact h
  split at h'
  ·rename_i t' ht;obtain rfl:=af h';obtain⟨h1,h2,h3⟩:=lW l o vs t' ht;refine⟨by simp;omega,by simp[h2],fun j=>?_⟩;cases j with
   |zero=>rw[ab (by omega)];rfl
   |succ j=>
    rw[List.getElem?_cons_succ,List.getElem?_cons_succ,h3 j,show j+1-(o+1)=j-o by omega];by_cases hj:o≤j∧j<o+vs.length
    ·rw[ac hj,ac (by omega)]
    ·rw[ab hj,ab (by omega)]
  ·cases h'
theorem nU(off:Nat):∀(vs:List Value) (k:Nat) (cs:Array Value),
 ((vs.zipIdx k).foldl (fun cs (p:Value×Nat)=>cs.setIfInBounds (off+p.2) p.1) cs).size=cs.size∧
 ∀j,j<cs.size→((vs.zipIdx k).foldl (fun cs (p:Value×Nat)=>cs.setIfInBounds (off+p.2) p.1) cs)[j]?=if off+k≤j∧j<off+k+vs.length then vs[j-(off+k)]? else cs[j]?
 |[],k,cs=>⟨rfl,fun j _=>by simp only[List.zipIdx_nil,List.foldl_nil];rw[ab (by simp)]⟩
 |v::vs,k,cs=>by
  simp only[List.zipIdx_cons,List.foldl_cons];have ih:=nU off vs (k+1) (cs.setIfInBounds (off+k) v);refine⟨by rw[ih.1];simp,fun j hj=>?_⟩;rw[ih.2 j (by simpa using hj)];by_cases h1:off+(k+1)≤j∧j<off+(k+1)+vs.length
  ·rw[ac h1,ac (by simp;omega),show j-(off+k)=(j-(off+(k+1)))+1 by omega,List.getElem?_cons_succ]
  ·rw[ab h1];by_cases h2:j=off+k
   ·subst h2;rw[ac (by simp),Nat.sub_self,List.getElem?_cons_zero];simp[hj]
   ·rw[ab (by simp;omega),Array.getElem?_setIfInBounds_ne (by omega)]
section
variable{P:Program}{E:cE}{F:RO}{M:Mem}{c:Nat→Prop}{w:World}{t:T}{a:Act}
theorem Oe{cs r:List V}{o:Nat}{vs:List V}(h:ig cs o vs=some r):
 (((aw E vs).toArray).zipIdx.foldl (fun cs (p:Value×Nat)=>cs.setIfInBounds (o+p.2) p.1) (aw E cs).toArray)=(aw E r).toArray:=by
 obtain⟨h1,h2,h3⟩:=lW _ _ _ _ h
 have hz:((aw E vs).toArray).zipIdx.foldl (fun cs (p:Value×Nat)=>cs.setIfInBounds (o+p.2) p.1) (aw E cs).toArray=
  ((aw E vs).zipIdx 0).foldl (fun cs (p:Value×Nat)=>cs.setIfInBounds (o+p.2) p.1) (aw E cs).toArray:=by
  simp
 rw[hz]
 have hf:=nU o (aw E vs) 0 (aw E cs).toArray
 apply Array.ext_getElem?
 intro j
 by_cases hj:j<cs.length
 ·rw[hf.2 j (by simp[aZ,hj])];simp only[List.getElem?_toArray,aZ,List.getElem?_map,List.length_map,bT];rw[h3 j];by_cases hc:o≤j∧j<o+vs.length
  ·rw[ac hc,ac hc]
  ·rw[ab hc,ab hc]
 ·rw[Array.getElem?_eq_none (by rw[hf.1];simp[aZ];omega),Array.getElem?_eq_none (by simp[aZ];omega)]
theorem vz(h:Cx P E F M c w t a){place:Nat→Option (Nat×Nat)}:∀{ps:List (Nat×Operand)} {qs:List (Nat×Nat×X)} {cs r:List V},kY place ps=some qs→fillParts t cs qs=some r→fE c cs→
 Instr.fill place (aw E cs).toArray (ps.map fun p=>(p.1,a.eval p.2))=some (aw E r).toArray∧fE c r
 |[],qs,cs,r,hc,hf,hb=>by
  obtain rfl:=af hc;obtain rfl:=af hf;exact⟨rfl,hb⟩
 |(i,y)::ps,qs,cs,r,hc,hf,hb=>by
  rw[kY]at hc;split at hc
  ·rename_i o s x l h1 h2 h3;obtain rfl:=af hc;rw[fillParts,bp]at hf;have e:=h.ev h2;by_cases hs:(flatten (x.ev t)).length=s
   ·rw[ae hs,cond_true]at hf;split at hf
    ·rename_i cs' hr;obtain⟨g1,g2,g3⟩:=lW _ _ _ _ hr;have hb':fE c cs':=by
      refine(kq c cs').2 fun v hv=>?_;obtain⟨j,hj⟩:=List.mem_iff_getElem?.1 hv;rw[g3 j]at hj;split at hj
      ·exact ea (dT e.2) hj
      ·exact ea hb hj
     have ih:=vz h h3 hf hb';refine⟨?_,ih.2⟩;have hcells:(a.eval y).cells=(aw E (flatten (x.ev t))).toArray:=by rw[e.1,bX]
     simp only[List.map_cons,Instr.fill,h1,hcells];have c1:(aw E (flatten (x.ev t))).toArray.size=s:=by simp[aZ,hs]
     have c2:¬(o+s>(aw E cs).toArray.size):=by simp[aZ];omega
     rw[c1];simp only[ne_eq,not_true_eq_false,decide_false,Bool.false_or,decide_eq_true_eq,c2,if_false];rw[Oe hr];exact ih.1
    ·cases hf
   ·rw[ag hs]at hf;cases hf
  ·cases hc
theorem mY:∀{fs:List Field} {ps:List (Nat×Nat)},lN P fs=some ps→(fs.mapM fun f=>do pure (f.offset,←Go.sizeOf f.type):Sem (List (Nat×Nat))).run P w= .ok ps w
 |[],ps,h=>by obtain rfl:=af h;simp
 |f::fs,ps,h=>by
  rw[lN]at h;split at h
  ·rename_i s l h1 h2;obtain rfl:=af h;simp only[List.mapM_cons,aE,dF h1,aI,aA,mY h2]
  ·cases h
theorem cG(v:V):aT v=flatten v:=by cases v<;>rfl
theorem an1(h:Cx P E F M c w t a){o:Oper}{ty:TypeId}{parts:Array (Nat×Operand)}(hop:o.op= .build ty parts){q:QO}(hc:aB P o.op=some (.q q)){x:V}(hx:(cS q F M t).val=some x):sJ P E c w a o x:=by
 rw[hop]at hc
 simp only[aB]at hc
 have hparts:(parts.map fun(p:Nat×Operand)=>(p.1,a.eval p.2)).toList=parts.toList.map fun p=>(p.1,a.eval p.2):=by simp
 split at hc
 ·rename_i z fs hz hu;split at hc
  ·rename_i ps hps;obtain⟨qs,hqs,e⟩:=aR.1 hc;obtain rfl:QO.bld (aT z) qs=q:=by simpa [Ev.q]using e
   obtain⟨r,hr,rfl⟩:=Az (show(qg (fillParts t (aT z) qs)).val=some x from hx);have hz':=gz (E:=E) (c:=c) (w:=w) hz;have hf:=vz h hqs hr (by rw[cG];exact dT hz'.2);refine⟨?_,hf.2⟩;simp only[execOp,hop];refine aG ?_
   have hm:(fs.mapM fun f=>do pure (f.offset,←Go.sizeOf f.type):Sem (Array (Nat×Nat))).run P w= .ok ps.toArray w:=by
    rw[Array.mapM_eq_mapM_toList];simp only[Sem.run_map,mY hps,aI]
   have hcz:(conc E z).cells=(aw E (aT z)).toArray:=by rw[bX,cG]
   have hpl:(fun(i:Nat)=>ps.toArray[i]?)=fun(i:Nat)=>ps[i]?:=by funext i;simp
   simp only[Instr.build,aE,hz'.1,aI,ay hu,hm,hparts,hcz,hpl,hf.1,aA,conc]
  ·cases hc
 ·rename_i z n el hz hu;split at hc
  ·rename_i s hs;obtain⟨qs,hqs,e⟩:=aR.1 hc;obtain rfl:QO.bld (aT z) qs=q:=by simpa [Ev.q]using e
   obtain⟨r,hr,rfl⟩:=Az (show(qg (fillParts t (aT z) qs)).val=some x from hx);have hz':=gz (E:=E) (c:=c) (w:=w) hz;have hf:=vz h hqs hr (by rw[cG];exact dT hz'.2);refine⟨?_,hf.2⟩;simp only[execOp,hop];refine aG ?_;have hcz:(conc E z).cells=(aw E (aT z)).toArray:=by rw[bX,cG]
   simp only[Instr.build,aE,hz'.1,aI,ay hu,dF hs,hparts,hcz,hf.1,aA,conc]
  ·cases hc
 ·cases hc
end
section
variable{P:Program}{E:cE}{F:RO}{M:Mem}{c:Nat→Prop}{w:World}{t:T}{a:Act}
theorem D1(h:Cx P E F M c w t a){b:Nat}(hp:l9 F M b=true):∃ty n,w.shape? (E.ρ b)=some (ty,n)∧E.β b≤n∧(∀o,E.β b≤o→w.frozen? ⟨E.ρ b,o,none⟩=false)∧(look F M b).isSome:=by
 unfold l9 at hp
 split at hp
 ·rename_i ty n ex fz str d cs hl;obtain⟨arr,fr,ho,hr⟩:=h.cells hl;rw[bp]at hp;simp only[aD,decide_eq_true_eq,Bool.not_eq_true']at hp;obtain⟨⟨rfl,rfl⟩,_⟩:=hp;have hle:=hr.le;refine⟨ty,arr.size,by simp[World.shape?,ho],by omega,fun o hob=>?_,by rw[hl];rfl⟩;simp only[World.frozen?,ho];rw[Bool.and_eq_false_iff];simp only[decide_eq_false_iff_not];rcases hr.plain rfl with e|⟨hz,e⟩<;>omega
 ·cases hp
theorem OV(h:Cx P E F M c w t a){b o b' o':Nat}{r:Bool}(hr:CN F M b o b' o'=some r):
 (sameAddr ⟨E.ρ b,E.β b+o,none⟩ ⟨E.ρ b',E.β b'+o',none⟩).run P w= .ok r w:=by
 unfold CN at hr
 rw[bp]at hr
 by_cases hb:b=b'
 ·subst hb;rw[ae rfl,cond_true]at hr;obtain rfl:=af hr;rw[bp];by_cases ho:o=o'
  ·subst ho;simp[sameAddr]
  ·have:¬(E.β b+o=E.β b+o'):=by omega
   simp[sameAddr,ho,this]
 ·rw[ag hb,cond_false]at hr;by_cases hp:(l9 F M b&&l9 F M b')=true
  ·rw[hp,cond_true]at hr;obtain rfl:=af hr;rw[aD]at hp;obtain⟨ty,n,hs,hn,hf,hl⟩:=D1 h hp.1;obtain⟨ty',n',hs',hn',hf',hl'⟩:=D1 h hp.2;have hne:¬(E.ρ b=E.ρ b'):=fun e=>hb (h.rel.inj b b' hl hl' e);have f1:=hf (E.β b+o) (by omega);have f2:=hf' (E.β b'+o') (by omega);have f3:=hf n hn;have f4:=hf' n' hn';simp[sameAddr,hne,f1,f2,noView,viewAt,hs,hs',mayBeOne,stringish,f3,f4]
  ·rw[Bool.not_eq_true]at hp;rw[hp]at hr;cases hr
inductive mg(P:Program)(ty:TypeId):Sh→Prop
 |bool:P.underlying ty=some .bool→mg P ty .bool
 |int (k:IntKind):P.underlying ty=some (.int k)→mg P ty .int
 |str:P.underlying ty=some .string→mg P ty .str
 |ptr (e s:Nat):P.underlying ty=some (.pointer e)→dR P e=some (s+1)→mg P ty .ptr
 |slice (e:Nat):P.underlying ty=some (.slice e)→mg P ty .slice
 |map (k e:Nat):P.underlying ty=some (.map k e)→mg P ty .map
 |func (p r:Array TypeId) (v:Bool):P.underlying ty=some (.func p r v)→mg P ty .func
 |iface (ms:Array (String×TypeId)):P.underlying ty=some (.interface ms)→mg P ty .iface
theorem si{ty:TypeId}{sh:Sh}(h:MF P ty=some sh):mg P ty sh:=by
 unfold MF at h
 split at h
 ·rename_i hu;obtain rfl:=af h;exact .bool hu
 ·rename_i hu;obtain rfl:=af h;exact .int _ hu
 ·rename_i hu;obtain rfl:=af h;exact .str hu
 ·rename_i e hu;split at h
  ·cases h
  ·rename_i hs;obtain rfl:=af h;cases hz:dR P e with
   |none=>rw[hz]at hs;simp at hs
   |some k=>cases k with
    |zero=>rw[hz]at hs;simp at hs
    |succ k=>exact .ptr e k hu hz
 ·rename_i hu;obtain rfl:=af h;exact .slice _ hu
 ·rename_i hu;obtain rfl:=af h;exact .map _ _ hu
 ·rename_i hu;obtain rfl:=af h;exact .func _ _ _ hu
 ·rename_i hu;obtain rfl:=af h;exact .iface _ hu
 ·cases h
theorem iA{v:V}{b:Bool}(h:CG v=some b):if b then conc E v= .slice none 0 0 else∃ad n k,conc E v= .slice (some ad) n k:=by
 cases v<;>first|cases(show(none:Option Bool)=some b from h)|(obtain rfl:=af h;first|rfl|exact⟨_,_,_,rfl⟩)
theorem iB{v:V}{b:Bool}(h:CH v=some b):if b then conc E v= .map none else∃r,conc E v= .map (some r):=by
 cases v<;>first|cases(show(none:Option Bool)=some b from h)|(obtain rfl:=af h;first|rfl|exact⟨_,rfl⟩)
theorem iz{v:V}{b:Bool}(h:CE v=some b):if b then conc E v= .nilFunc else∃f l k,conc E v= .func f l k:=by
 cases v<;>first|cases(show(none:Option Bool)=some b from h)|(obtain rfl:=af h;first|rfl|exact⟨_,_,_,rfl⟩)
theorem bR{v:V}{b:Bool}(h:Ap v=some b):if b then v= .a0 else∃ty z,v= .a ty z:=by
 cases v<;>first|cases(show(none:Option Bool)=some b from h)|(obtain rfl:=af h;first|rfl|exact⟨_,_,rfl⟩)
theorem dk{lit:Bool}{p q:Option Bool}{r:Bool}(h:jR lit p q=some r):
 (p=some true∧q=some true∧lit=true∧r=true)∨(p=some true∧q=some false∧r=false)∨(p=some false∧q=some true∧r=false):=by
 unfold jR at h
 split at h
 ·cases lit with
  |false=>cases h
  |true=>exact .inl ⟨rfl,rfl,rfl,(af h).symm⟩
 ·exact .inr (.inl ⟨rfl,rfl,(af h).symm⟩)
 ·exact .inr (.inr ⟨rfl,rfl,(af h).symm⟩)
 ·cases h
theorem A6(h:Cx P E F M c w t a){ty:TypeId}{sh:Sh}(hs:mg P ty sh){lit:Bool}{x y:V}{r:Bool}(hr:La F M sh lit x y=some r)(d:Nat):
 (Op.equalIn (d+1) ty (conc E x) (conc E y)).run P w= .ok r w:=by
 cases hs with
 |bool hu=>
  have hr':eqB x y=some r:=hr;unfold eqB at hr';split at hr'
  ·obtain rfl:=af hr';simp[Op.equalIn,ay hu,conc]
  ·cases hr'
 |int k hu=>
  have hr':PE x y=some r:=hr;unfold PE at hr';split at hr'
  ·rename_i k1 m k2 n;rw[eX]at hr';by_cases hk:k1=k2
   ·rw[ae hk,cond_true,cB]at hr';obtain rfl:=af hr';simp[Op.equalIn,ay hu,conc,hk];rw[Bool.eq_iff_iff];simp
   ·rw[ag hk]at hr';cases hr'
  ·cases hr'
 |str hu=>
  have hr':eqS x y=some r:=hr;unfold eqS at hr';split at hr'
  ·obtain rfl:=af hr';simp[Op.equalIn,ay hu,conc,Ej,jy]
  ·cases hr'
 |ptr e s hu hz=>
  have hr':eqP F M x y=some r:=hr;unfold eqP at hr';split at hr'
  ·obtain rfl:=af hr';simp[Op.equalIn,ay hu,conc]
  ·obtain rfl:=af hr';simp[Op.equalIn,ay hu,conc]
  ·obtain rfl:=af hr';simp[Op.equalIn,ay hu,conc]
  ·have hp:=OV h hr';simp[Op.equalIn,ay hu,conc,dF hz,hp]
  ·cases hr'
 |slice e hu=>
  rcases dk (show jR true (CG x) (CG y)=some r from hr)with⟨h1,h2,_,rfl⟩|⟨h1,h2,rfl⟩|⟨h1,h2,rfl⟩
  ·have e1:=iA (E:=E) h1;have e2:=iA (E:=E) h2;simp only[if_true]at e1 e2;rw[e1,e2];simp[Op.equalIn,ay hu]
  ·have e1:=iA (E:=E) h1;have e2:=iA (E:=E) h2;simp only[if_true,aS,if_false]at e1 e2;obtain⟨_,_,_,e2⟩:=e2;rw[e1,e2];simp[Op.equalIn,ay hu]
  ·have e1:=iA (E:=E) h1;have e2:=iA (E:=E) h2;simp only[if_true,aS,if_false]at e1 e2;obtain⟨_,_,_,e1⟩:=e1;rw[e1,e2];simp[Op.equalIn,ay hu]
 |map k e hu=>
  rcases dk (show jR true (CH x) (CH y)=some r from hr)with⟨h1,h2,_,rfl⟩|⟨h1,h2,rfl⟩|⟨h1,h2,rfl⟩
  ·have e1:=iB (E:=E) h1;have e2:=iB (E:=E) h2;simp only[if_true]at e1 e2;rw[e1,e2];simp[Op.equalIn,ay hu]
  ·have e1:=iB (E:=E) h1;have e2:=iB (E:=E) h2;simp only[if_true,aS,if_false]at e1 e2;obtain⟨_,e2⟩:=e2;rw[e1,e2];simp[Op.equalIn,ay hu]
  ·have e1:=iB (E:=E) h1;have e2:=iB (E:=E) h2;simp only[if_true,aS,if_false]at e1 e2;obtain⟨_,e1⟩:=e1;rw[e1,e2];simp[Op.equalIn,ay hu]
 |func p r' v hu=>
  rcases dk (show jR true (CE x) (CE y)=some r from hr)with⟨h1,h2,_,rfl⟩|⟨h1,h2,rfl⟩|⟨h1,h2,rfl⟩
  ·have e1:=iz (E:=E) h1;have e2:=iz (E:=E) h2;simp only[if_true]at e1 e2;rw[e1,e2];simp[Op.equalIn,ay hu]
  ·have e1:=iz (E:=E) h1;have e2:=iz (E:=E) h2;simp only[if_true,aS,if_false]at e1 e2;obtain⟨_,_,_,e2⟩:=e2;rw[e1,e2];simp[Op.equalIn,ay hu]
  ·have e1:=iz (E:=E) h1;have e2:=iz (E:=E) h2;simp only[if_true,aS,if_false]at e1 e2;obtain⟨_,_,_,e1⟩:=e1;rw[e1,e2];simp[Op.equalIn,ay hu]
 |iface ms hu=>
  rcases dk (show jR lit (Ap x) (Ap y)=some r from hr)with⟨h1,h2,_,rfl⟩|⟨h1,h2,rfl⟩|⟨h1,h2,rfl⟩
  ·have e1:=bR h1;have e2:=bR h2;simp only[if_true]at e1 e2;rw[e1,e2];simp[Op.equalIn,ay hu,conc]
  ·have e1:=bR h1;have e2:=bR h2;simp only[if_true,aS,if_false]at e1 e2;obtain⟨_,_,e2⟩:=e2;rw[e1,e2];simp[Op.equalIn,ay hu,conc]
  ·have e1:=bR h1;have e2:=bR h2;simp only[if_true,aS,if_false]at e1 e2;obtain⟨_,_,e1⟩:=e1;rw[e1,e2];simp[Op.equalIn,ay hu,conc]
end
section
variable{P:Program}{E:cE}{F:RO}{M:Mem}{c:Nat→Prop}{w:World}{t:T}{a:Act}
theorem mg.noAgg{ty:TypeId}{sh:Sh}(h:mg P ty sh):tW P ty=some false:=by
 cases h with
 |ptr e s hu _=>simp only[tW,hu]
 |_=>rename_i hu;simp only[tW,hu]
theorem yE(h:Cx P E F M c w t a){xs ys:List V}:∀{fs:List Field} {ks:List (Nat×Sh)} {r:Bool},qX P fs=some ks→mp F M xs ys ks=some r→ ∀d,(Op.eqFields (d+1) (aw E xs).toArray (aw E ys).toArray fs).run P w= .ok r w
 |[],ks,r,hs,hr,d=>by
  obtain rfl:=af hs;obtain rfl:=af hr;rfl
 |f::fs,ks,r,hs,hr,d=>by
  rw[qX]at hs;split at hs
  ·rename_i sh l h1 h2;split at hs
   ·rename_i hn;obtain rfl:=af hs;have hsh:=si h1;rw[mp]at hr;split at hr
    ·rename_i x y hx hy;rw[kO]at hx hy;have hag:=hsh.noAgg;have p1:=qL (P:=P) (w:=w) (E:=E) hag hx;have p2:=qL (P:=P) (w:=w) (E:=E) hag hy;split at hr
     ·rename_i he;have e1:=A6 h hsh he d;simp only[Op.eqFields,hn,ne_eq,not_false_eq_true,if_true,aE,p1,p2,aI,e1,Sem.run_ite,Bool.not_true,aS,if_false];exact yE h h2 hr d
     ·rename_i hne;have e1:=A6 h hsh hr d;cases r with
      |true=>exact absurd hr hne
      |false=>simp only[Op.eqFields,hn,ne_eq,not_false_eq_true,if_true,aE,p1,p2,aI,e1,Sem.run_ite,Bool.not_false,if_true,aA]
    ·cases hr
   ·cases hs
  ·cases hs
theorem NX{ty:TypeId}{x y:Value}(h1:∀k m k' n,¬(x= .int k m∧y= .int k' n))(h2:∀m n,¬(x= .string m∧y= .string n))(h3:∀k m,x≠ .float k m)(h4:∀k m n,x≠ .complex k m n):
 (binOp .eql ty x y)=(do pure (.bool (←Op.equal ty x y)))∧(binOp .neq ty x y)=(do pure (.bool (!(←Op.equal ty x y)))):=by
 cases x<;>first
  |exact absurd rfl (h3 _ _)
  |exact absurd rfl (h4 _ _ _)
  |exact⟨rfl,rfl⟩
  |(cases y<;>first
   |exact(h1 _ _ _ _ ⟨rfl,rfl⟩).elim
   |exact(h2 _ _ ⟨rfl,rfl⟩).elim
   |exact⟨rfl,rfl⟩)
def Odd:Value→Prop
 | .int _ _| .string _| .float _ _| .complex _ _ _=>False
 |_=>True
theorem bd1{ty:TypeId}{A B:Operand}{x y:Value}{r:Bool}(hodd:Odd x)(hg:∀op,(eqGuard op ty A B x y).run P w= .ok () w)(he:(Op.equalIn 10000 ty x y).run P w= .ok r w)(neg:Bool):
 (eqGuard (if neg then .neq else .eql) ty A B x y>>=fun _=>binOp (if neg then .neq else .eql) ty x y).run P w= .ok (.bool (if neg then !r else r)) w:=by
 have hb:=NX (ty:=ty) (x:=x) (y:=y) (fun k m k' n e=>by rw[e.1]at hodd;exact hodd) (fun m n e=>by rw[e.1]at hodd;exact hodd) (fun k m e=>by rw[e]at hodd;exact hodd) (fun k m n e=>by rw[e]at hodd;exact hodd)
 have he':(Op.equal ty x y).run P w= .ok r w:=he
 simp only[aE,hg,aI]
 cases neg with
 |true=>simp[hb.2,he']
 |false=>simp[hb.1,he']
theorem bW{op:BinOp}{ty:TypeId}{A B:Operand}{x y:Value}(h1:¬(x= .nilIface∧y= .nilIface))(h2:∀l m,¬(x= .agg l∧y= .agg m)):(eqGuard op ty A B x y).run P w= .ok () w:=by
 unfold eqGuard
 split
 all_goals simp only[Bool.not_true,aS,if_false,Bool.not_false,if_true]
 all_goals try rfl
 all_goals
  split
  ·exact absurd ⟨rfl,rfl⟩ h1
  ·exact absurd ⟨rfl,rfl⟩ (h2 _ _)
  ·rfl
theorem Ck{op:BinOp}{ty:TypeId}{A B:Operand}(h:(isConstO A||isConstO B)=true):(eqGuard op ty A B .nilIface .nilIface).run P w= .ok () w:=by
 cases A<;>cases B<;>first|(simp[isConstO]at h;done)|(cases op<;>simp[eqGuard])
theorem Am(k:Nat):∀l:List Nat,rT k l=l.contains k
 |[]=>rfl
 |h::r=>by
  have:rT k (h::r)=(bif Nat.beq h k then true else rT k r):=rfl;rw[this,bp,Am k r,List.contains_cons];by_cases e:h=k
  ·subst e;simp
  ·rw[ag e,cond_false,show(k==h)=false by simp;exact fun e'=>e e'.symm];rfl
theorem Yd{L:List Nat}(hL:L=pA P){t:Nat}(h:rT t L=true):∃i k,P.info? t=some i∧i.comparable=true∧P.underlying t=some (.int k):=by
 rw[Am,List.contains_iff_mem,hL]at h
 unfold pA at h
 rw[List.mem_filter]at h
 have h2:=h.2
 unfold b01 at h2
 split at h2
 ·rename_i i k h3 h4;exact⟨i,k,h3,h2,h4⟩
 ·cases h2
theorem XV{ty:TypeId}{ms:Array (String×TypeId)}(hu:P.underlying ty=some (.interface ms)){x y:V}{r:Bool}(hr:A7 (pA P) x y=some r)(d:Nat):
 (Op.equalIn (d+2) ty (conc E x) (conc E y)).run P w= .ok r w:=by
 unfold A7 at hr
 split at hr
 ·rename_i t1 v1 t2 v2;rw[bp]at hr;by_cases ht:t1=t2
  ·subst ht;rw[ae rfl,cond_true]at hr;by_cases hm:rT t1 (pA P)=true
   ·rw[hm,cond_true]at hr;obtain⟨i,k,h1,h2,h3⟩:=Yd rfl hm;unfold PE at hr;split at hr
    ·rename_i k1 m k2 n;rw[eX]at hr;by_cases hk:k1=k2
     ·rw[ae hk,cond_true,cB]at hr;obtain rfl:=af hr;subst hk;have inner:(Op.equalIn (d+1) t1 (.int k1 m) (.int k1 n)).run P w= .ok (m==n) w:=by
       simp[Op.equalIn,ay h3]
      have hti:(typeInfo t1).run P w= .ok i w:=by simp[typeInfo,h1]
      have hmn:decide (m=n)=(m==n):=by rw[Bool.eq_iff_iff];simp
      rw[hmn];simp only[conc];rw[Op.equalIn.eq_2];simp only[aE,ay hu,aI,ne_eq,not_true_eq_false,if_false,hti,h2,Bool.not_true,aS,inner]
     ·rw[ag hk]at hr;cases hr
    ·cases hr
   ·rw[Bool.not_eq_true]at hm;rw[hm]at hr;cases hr
  ·rw[ag ht,cond_false]at hr;obtain rfl:=af hr;simp[Op.equalIn,ay hu,conc,ht]
 ·rcases dk hr with⟨_,_,h3,_⟩|⟨h1,h2,rfl⟩|⟨h1,h2,rfl⟩
  ·cases h3
  ·have e1:=bR h1;have e2:=bR h2;simp only[if_true,aS,if_false]at e1 e2;obtain⟨_,_,e2⟩:=e2;rw[e1,e2];simp[Op.equalIn,ay hu,conc]
  ·have e1:=bR h1;have e2:=bR h2;simp only[if_true,aS,if_false]at e1 e2;obtain⟨_,_,e1⟩:=e1;rw[e1,e2];simp[Op.equalIn,ay hu,conc]
theorem Oc{L:List Nat}{x y:V}{r:Bool}(hr:A7 L x y=some r):(x= .a0∨ ∃t v,x= .a t v)∧ ¬(x= .a0∧y= .a0):=by
 unfold A7 at hr
 split at hr
 ·exact⟨.inr ⟨_,_,rfl⟩,fun h=>by cases h.1⟩
 ·rcases dk hr with⟨_,_,h3,_⟩|⟨h1,h2,rfl⟩|⟨h1,h2,rfl⟩
  ·cases h3
  ·have e1:=bR h1;have e2:=bR h2;simp only[if_true,aS,if_false]at e1 e2;obtain⟨_,_,e2⟩:=e2;exact⟨.inl e1,fun h=>by rw[e2]at h;cases h.2⟩
  ·have e1:=bR h1;simp only[aS,if_false]at e1;obtain⟨_,_,e1⟩:=e1;exact⟨.inr ⟨_,_,e1⟩,fun h=>by rw[e1]at h;cases h.1⟩
theorem ET{L:List Nat}{x y:V}{r:Bool}(hr:A7 L x y=some r):y= .a0∨ ∃t v,y= .a t v:=by
 unfold A7 at hr
 split at hr
 ·exact .inr ⟨_,_,rfl⟩
 ·rcases dk hr with⟨_,_,h3,_⟩|⟨h1,h2,rfl⟩|⟨h1,h2,rfl⟩
  ·cases h3
  ·have e2:=bR h2;simp only[aS,if_false]at e2;exact .inr e2
  ·have e2:=bR h2;simp only[if_true]at e2;exact .inl e2
theorem F8(P:Program)(lit:Bool)(sh:Sh):Ad P lit sh=sh∨(sh= .iface∧lit=false∧Ad P lit sh= .ifs (pA P)):=by
 unfold Ad
 split
 ·exact .inr ⟨rfl,rfl,rfl⟩
 ·exact .inl rfl
theorem Mf(h:Cx P E F M c w t a){o:Oper}{op:BinOp}{ty ty':TypeId}{y z:Operand}(neg:Bool)(hop:o.op= .binOp (if neg then .neq else .eql) ty y z ty'){sh:Sh}(hsh:Zd P ty=some sh){d:TypeDesc}(hu:P.underlying ty=some d)(hd1:∀k,d≠ .int k)(hd2:d≠ .string)
 {xa xb:X} (h1:aY y=some xa) (h2:aY z=some xb) {x:V} (hx:(cS (.eq neg (Ad P (isConstO y||isConstO z) sh) (isConstO y||isConstO z) xa xb) F M t).val=some x):sJ P E c w a o x:=by
 have e1:=h.ev h1
 have e2:=h.ev h2
 have hx':(zg neg (xB F M (Ad P (isConstO y||isConstO z) sh) (isConstO y||isConstO z) (xa.ev t) (xb.ev t))).val=some x:=hx
 unfold zg at hx'
 split at hx'
 ·rename_i r hr;obtain rfl:=tO hx';refine⟨?_,trivial⟩
  have fin:∀(hodd:Odd (conc E (xa.ev t))),(∀op,(eqGuard op ty y z (conc E (xa.ev t)) (conc E (xb.ev t))).run P w= .ok () w)→(Op.equalIn 10000 ty (conc E (xa.ev t)) (conc E (xb.ev t))).run P w= .ok r w→
   (execOp a.eval o).run P w= .ok (.value (conc E (.b (bif neg then !r else r)))) w:=by
   intro hodd hg he;simp only[execOp,hop];refine aG ?_;rw[e1.1,e2.1,bd1 hodd hg he neg];cases neg<;>rfl
  rcases F8 P (isConstO y||isConstO z) sh with hif|⟨rfl,hlit,hif⟩
  rotate_left
  ·rw[hif]at hr;have hr':A7 (pA P) (xa.ev t) (xb.ev t)=some r:=hr;have hui:∃ms,P.underlying ty=some (.interface ms):=by
    unfold Zd at hsh;split at hsh
    ·split at hsh
     ·cases hsh
     ·obtain⟨_,_,hh⟩:=b9.1 hsh;cases hh
    ·have:=si hsh;cases this with
     |iface ms hu'=>exact⟨ms,hu'⟩
   obtain⟨ms,hui⟩:=hui;obtain⟨k1,k2⟩:=Oc hr';refine fin ?_ (fun op=>?_) (XV hui hr' 9998)
   ·rcases k1 with e|⟨_,_,e⟩<;>(rw[e];trivial)
   ·refine bW ?_ ?_
    ·rintro⟨g1,g2⟩;refine k2 ⟨?_,?_⟩
     ·rcases k1 with e|⟨_,_,e⟩
      ·exact e
      ·rw[e]at g1;cases g1
     ·rcases ET hr' with e|⟨_,_,e⟩
      ·exact e
      ·rw[e]at g2;cases g2
    ·rintro l m ⟨g1,g2⟩;rcases k1 with e|⟨_,_,e⟩<;>(rw[e]at g1;cases g1)
  rw[hif]at hr;unfold Zd at hsh;split at hsh
  ·rename_i fs hus;split at hsh
   ·cases hsh
   ·rename_i hcond;simp only[Bool.or_eq_true,not_or,Bool.not_eq_true]at hcond;obtain⟨ks,hks,rfl⟩:=b9.1 hsh;have hr':yD F M ks (xa.ev t) (xb.ev t)=some r:=hr;unfold yD at hr';split at hr'
    ·rename_i xs ys hvx hvy;have hf:P.fieldsOf ty=fs:=by simp[Program.fieldsOf,hus]
     refine fin (by rw[hvx];trivial) (fun op=>?_) ?_
     ·rw[hvx,hvy];exact run_eqGuard_agg w op ty y z _ _ hcond.2
     ·rw[hvx,hvy];simp only[conc];rw[run_equalIn_struct (P:=P) w 9999 ty _ _ (by rw[hf];exact hus) hcond.1,hf];exact yE h hks hr' 9998
    ·cases hr'
  ·rename_i hns;have hrel:=si hsh;have hr':La F M sh (isConstO y||isConstO z) (xa.ev t) (xb.ev t)=some r:=by
    cases hrel<;>exact hr
   have he:=A6 h hrel hr' 9999;cases hrel with
   |int k hu'=>rw[hu]at hu';exact absurd (af hu') (hd1 k)
   |str hu'=>rw[hu]at hu';exact absurd (af hu') hd2
   |bool hu'=>
    have hq:eqB (xa.ev t) (xb.ev t)=some r:=hr';unfold eqB at hq;split at hq
    ·rename_i p q hvx hvy;refine fin (by rw[hvx];trivial) (fun op=>?_) he;rw[hvx,hvy];exact bW (by simp[conc]) (by simp[conc])
    ·cases hq
   |ptr el s hu' hz=>
    have hq:eqP F M (xa.ev t) (xb.ev t)=some r:=hr';unfold eqP at hq;split at hq
    ·rename_i hvx hvy;refine fin (by rw[hvx];trivial) (fun op=>?_) he;rw[hvx,hvy];exact bW (by simp[conc]) (by simp[conc])
    ·rename_i hvx hvy;refine fin (by rw[hvx];trivial) (fun op=>?_) he;rw[hvx,hvy];exact bW (by simp[conc]) (by simp[conc])
    ·rename_i hvx hvy;refine fin (by rw[hvx];trivial) (fun op=>?_) he;rw[hvx,hvy];exact bW (by simp[conc]) (by simp[conc])
    ·rename_i hvx hvy;refine fin (by rw[hvx];trivial) (fun op=>?_) he;rw[hvx,hvy];exact bW (by simp[conc]) (by simp[conc])
    ·cases hq
   |slice el hu'=>
    have key:∀b,CG (xa.ev t)=some b→ ∃ad n k,conc E (xa.ev t)= .slice ad n k:=by
     intro b hb;have:=iA (E:=E) hb;cases b with
     |true=>simp only[if_true]at this;exact⟨_,_,_,this⟩
     |false=>simp only[aS,if_false]at this;obtain⟨ad,n,k,e⟩:=this;exact⟨_,_,_,e⟩
    obtain⟨ad,n,k,e⟩:∃ad n k,conc E (xa.ev t)= .slice ad n k:=by
     rcases dk (show jR true (CG (xa.ev t)) (CG (xb.ev t))=some r from hr')with⟨g,_⟩|⟨g,_⟩|⟨g,_⟩<;>exact key _ g
    refine fin (by rw[e];trivial) (fun op=>?_) he;rw[e];exact bW (by simp) (by simp)
   |map kk el hu'=>
    have key:∀b,CH (xa.ev t)=some b→ ∃r,conc E (xa.ev t)= .map r:=by
     intro b hb;have:=iB (E:=E) hb;cases b with
     |true=>simp only[if_true]at this;exact⟨_,this⟩
     |false=>simp only[aS,if_false]at this;obtain⟨r,e⟩:=this;exact⟨_,e⟩
    obtain⟨r',e⟩:∃r,conc E (xa.ev t)= .map r:=by
     rcases dk (show jR true (CH (xa.ev t)) (CH (xb.ev t))=some r from hr')with⟨g,_⟩|⟨g,_⟩|⟨g,_⟩<;>exact key _ g
    refine fin (by rw[e];trivial) (fun op=>?_) he;rw[e];exact bW (by simp) (by simp)
   |func p rr v hu'=>
    have key:∀b,CE (xa.ev t)=some b→conc E (xa.ev t)= .nilFunc∨ ∃f l k,conc E (xa.ev t)= .func f l k:=by
     intro b hb;have:=iz (E:=E) hb;cases b with
     |true=>simp only[if_true]at this;exact .inl this
     |false=>simp only[aS,if_false]at this;exact .inr this
    have e:conc E (xa.ev t)= .nilFunc∨ ∃f l k,conc E (xa.ev t)= .func f l k:=by
     rcases dk (show jR true (CE (xa.ev t)) (CE (xb.ev t))=some r from hr')with⟨g,_⟩|⟨g,_⟩|⟨g,_⟩<;>exact key _ g
    rcases e with e|⟨f,l,k,e⟩
    ·refine fin (by rw[e];trivial) (fun op=>?_) he;rw[e];exact bW (by simp) (by simp)
    ·refine fin (by rw[e];trivial) (fun op=>?_) he;rw[e];exact bW (by simp) (by simp)
   |iface ms hu'=>
    rcases dk (show jR (isConstO y||isConstO z) (Ap (xa.ev t)) (Ap (xb.ev t))=some r from hr')with⟨g1,g2,hlit,_⟩|⟨g1,g2,_⟩|⟨g1,g2,_⟩
    ·have a1:=bR g1;have a2:=bR g2;simp only[if_true]at a1 a2;refine fin (by rw[a1];trivial) (fun op=>?_) he;rw[a1,a2];exact Ck hlit
    ·have a1:=bR g1;have a2:=bR g2;simp only[if_true,aS,if_false]at a1 a2;obtain⟨_,_,a2⟩:=a2;refine fin (by rw[a1];trivial) (fun op=>?_) he;rw[a1,a2];exact bW (by simp[conc]) (by simp[conc])
    ·have a1:=bR g1;have a2:=bR g2;simp only[if_true,aS,if_false]at a1 a2;obtain⟨_,_,a1⟩:=a1;refine fin (by rw[a1];trivial) (fun op=>?_) he;rw[a1,a2];exact bW (by simp[conc]) (by simp[conc])
 ·cases hx'
theorem an0(h:Cx P E F M c w t a){o:Oper}{op:BinOp}{ty ty':TypeId}{y z:Operand}(hop:o.op= .binOp op ty y z ty'){q:QO}(hc:aB P o.op=some (.q q)){x:V}(hx:(cS q F M t).val=some x):sJ P E c w a o x:=by
 rw[hop]at hc
 simp only[aB]at hc
 have num:∀xa xb,aY y=some xa→aY z=some xb→QO.bi op xa xb=q→sJ P E c w a o x:=by
  intro xa xb h1 h2 hq;subst hq;have e1:=h.ev h1;have e2:=h.ev h2;have hb:=b92 (P:=P) (E:=E) (c:=c) (w:=w) op ty (xv:=xa.ev t) (yv:=xb.ev t) (v:=x) hx y z;refine⟨?_,hb.2⟩;simp only[execOp,hop];refine aG ?_;rw[e1.1,e2.1];exact hb.1
 split at hc
 ·rename_i k xa xb hu h1 h2;exact num xa xb h1 h2 (by simpa [Ev.q]using hc)
 ·rename_i xa xb hu h1 h2;exact num xa xb h1 h2 (by simpa [Ev.q]using hc)
 ·rename_i d xa xb hn1 hn2 hu h1 h2;split at hc
  ·obtain⟨sh,hsh,e⟩:=aR.1 hc;obtain rfl:QO.eq false (Ad P (isConstO y||isConstO z) sh) (isConstO y||isConstO z) xa xb=q:=by simpa [Ev.q]using e
   exact Mf h (op:= .eql) false hop hsh hu (fun k e=>hn1 k e) (fun e=>hn2 e) h1 h2 hx
  ·obtain⟨sh,hsh,e⟩:=aR.1 hc;obtain rfl:QO.eq true (Ad P (isConstO y||isConstO z) sh) (isConstO y||isConstO z) xa xb=q:=by simpa [Ev.q]using e
   exact Mf h (op:= .neq) true hop hsh hu (fun k e=>hn1 k e) (fun e=>hn2 e) h1 h2 hx
  ·cases hc
 ·cases hc
end
theorem dO{α:Type}{x:Array α}{l:List α}(h:x.toList=l):x=l.toArray:=by
 rw[←h]
section
variable{P:Program}{E:cE}{F:RO}{M:Mem}{c:Nat→Prop}{w:World}{t:T}{a:Act}
theorem bJ{o:Oper}{cl:Call}{b:Builtin}(hop:o.op= .call cl)(hb:cl.callee= .builtin b){l:List Operand}(hl:cl.args.toList=l){r:Result Next}
 (h:(builtin b cl.argTypes o.type (cl.args.map fun| .const _=>true|_=>false) (l.map a.eval).toArray).run P w=r):(execOp a.eval o).run P w=r:=by
 have hm:cl.args.map a.eval=(l.map a.eval).toArray:=by rw[dO hl];simp
 simp only[execOp,hop,resolve,hb,hm,aE,aA,aI,invoke]
 exact h
theorem Oz{v:V}{n:Nat}(h:Ff v=some n):∃ad k,conc E v= .slice ad n k:=by
 cases v<;>first|cases(show(none:Option Nat)=some n from h)|(obtain rfl:=af h;exact⟨_,_,rfl⟩)
theorem pH{mx:Bool}(h:Cx P E F M c w t a):∀{os:List Operand} {xs:List X} {v x:V},jK os=some xs→minAll mx t v xs=some x→bd c v→
 ((os.map a.eval).foldlM (if mx then Builtin.max2 else Builtin.min2) (conc E v)).run P w= .ok (conc E x) w∧bd c x
 |[],xs,v,x,hc,hm,hb=>by
  obtain rfl:=af hc;obtain rfl:=af hm;exact⟨rfl,hb⟩
 |o::os,xs,v,x,hc,hm,hb=>by
  rw[jK]at hc;split at hc
  ·rename_i z l h1 h2;obtain rfl:=af hc;rw[minAll]at hm;split at hm
   ·rename_i v' hv';have e:=h.ev h1;unfold Fk at hv';split at hv'
    ·rename_i k m k' n hy;rw[Le]at hv';obtain rfl:=af hv';have ih:=pH h h2 hm trivial;refine⟨?_,ih.2⟩;rw[hy]at e;rw[List.map_cons,List.foldlM_cons,aE,e.1];have hstep:((if mx then Builtin.max2 else Builtin.min2) (conc E (.i k m)) (conc E (.i k' n))).run P w= .ok (conc E (.i k (bif OH (bif mx then m else n) (bif mx then n else m)then n else m))) w:=by
      cases mx with
      |true=>
       simp only[if_true,conc,Builtin.max2,aA,cond_true,gg,cond_eq_ite,decide_eq_true_eq]
      |false=>
       simp only[aS,if_false,conc,Builtin.min2,aA,cond_false,gg,cond_eq_ite,decide_eq_true_eq]
     rw[hstep];exact ih.1
    ·cases hv'
   ·cases hm
  ·cases hc
theorem ap5{ats:Array TypeId}{ty n k:Nat}:(Builtin.unsafeSliceData_ ats ty #[.slice none n k]).run P w= .ok (.pointer none) w:=rfl
theorem ME{ats:Array TypeId}{ty n k:Nat}{ad:Addr}(hk:k≠0):(Builtin.unsafeSliceData_ ats ty #[.slice (some ad) n k]).run P w= .ok (.pointer (some ad)) w:=by
 change(if k≠0 then(pure (.pointer (some ad)):Sem Value)else _).run P w=_
 rw[ac hk];rfl
theorem OY(h:Cx P E F M c w t a){o:Oper}{cl:Call}{b:Builtin}(hop:o.op= .call cl)(hb:cl.callee= .builtin b){q:QO}(hc:eB P b cl.args.toList cl.argTypes.toList=some (.q q)){x:V}(hx:(cS q F M t).val=some x):sJ P E c w a o x:=by
 unfold eB at hc
 split at hc
 ·
  rename_i y ty hargs htys;have hat:cl.argTypes[0]?=some ty:=by rw[dO htys];rfl
  split at hc
  ·rename_i z hu hz;obtain rfl:QO.ln .str z=q:=by simpa [Ev.q]using hc
   obtain⟨n,s,hv,hg⟩:=jq (show(oT (z.ev t) QR.f fun n _=>QR.v (.i .i64 (.ofNat n))).val=some x from hx);obtain rfl:=af hg;have e:=h.ev hz;rw[hv]at e;refine⟨bJ hop hb hargs ?_,trivial⟩;simp only[builtin];refine aG ?_;simp[Builtin.len_,hat,e.1,ay hu,conc,d8,goInt]
  ·rename_i el z hu hz;obtain rfl:QO.ln .slice z=q:=by simpa [Ev.q]using hc
   have hx':(Mn (Ff (z.ev t))).val=some x:=hx;cases hl:Ff (z.ev t)with
   |none=>rw[hl]at hx';cases(show(none:Option V)=some x from hx')
   |some n=>
    rw[hl]at hx';obtain rfl:=af hx';obtain⟨ad,k,hcv⟩:=Oz (E:=E) hl;have e:=h.ev hz;rw[hcv]at e;refine⟨bJ hop hb hargs ?_,trivial⟩;simp only[builtin];refine aG ?_;simp[Builtin.len_,hat,e.1,ay hu,conc,goInt]
  ·rename_i kt el z hu hz;obtain rfl:QO.ln .map z=q:=by simpa [Ev.q]using hc
   have e:=h.ev hz;have hx':(bf3 F M (z.ev t)).val=some x:=hx;unfold bf3 at hx';split at hx'
   ·rename_i hv;obtain rfl:=af hx';rw[hv]at e;refine⟨bJ hop hb hargs ?_,trivial⟩;simp only[builtin];refine aG ?_;simp[Builtin.len_,hat,e.1,ay hu,conc,goInt]
   ·rename_i b' hv;obtain⟨es,k,hl,hg⟩:=yn hx';rw[aN]at hg;obtain rfl:=af hg;obtain⟨ho,_⟩:=h.map hl;rw[hv]at e;refine⟨bJ hop hb hargs ?_,trivial⟩;simp only[builtin];refine aG ?_;simp[Builtin.len_,hat,e.1,ay hu,conc,goInt,cA ho]
   ·cases hx'
  ·rename_i n el z hu hz;obtain rfl:QO.lnc n=q:=by simpa [Ev.q]using hc
   obtain rfl:=af hx;refine⟨bJ hop hb hargs ?_,trivial⟩;simp only[builtin];refine aG ?_;simp[Builtin.len_,hat,ay hu,conc,goInt]
  ·rename_i ar z hu hz;split at hc
   ·rename_i n el hua;obtain rfl:QO.lnc n=q:=by simpa [Ev.q]using hc
    obtain rfl:=af hx;refine⟨bJ hop hb hargs ?_,trivial⟩;simp only[builtin];refine aG ?_;simp[Builtin.len_,hat,ay hu,ay hua,conc,goInt]
   ·cases hc
  ·cases hc
 ·
  rename_i y ty hargs htys;have hat:cl.argTypes[0]?=some ty:=by rw[dO htys];rfl
  split at hc
  ·rename_i el z hu hz;obtain rfl:QO.cp z=q:=by simpa [Ev.q]using hc
   have e:=h.ev hz;have hx':(wm z F M t).val=some x:=hx;unfold wm at hx';split at hx'
   ·rename_i hv;obtain rfl:=af hx';rw[hv]at e;refine⟨bJ hop hb hargs ?_,trivial⟩;simp only[builtin];refine aG ?_;simp[Builtin.cap_,hat,e.1,ay hu,conc,goInt]
   ·rename_i b' off n k hv;obtain rfl:=af hx';rw[hv]at e;refine⟨bJ hop hb hargs ?_,trivial⟩;simp only[builtin];refine aG ?_;simp[Builtin.cap_,hat,e.1,ay hu,conc,goInt]
   ·cases hx'
  ·cases hc
 ·
  split at hc
  ·split at hc
   ·split at hc
    ·cases hc
    ·split at hc<;>cases hc
   ·cases hc
  ·cases hc
 ·split at hc
  ·split at hc
   ·split at hc<;>cases hc
   ·cases hc
  ·cases hc
 ·
  split at hc
  ·split at hc
   ·split at hc<;>cases hc
   ·cases hc
  ·cases hc
 ·
  rename_i _ y ys hargs;split at hc
  ·rename_i z zs hz hzs;obtain rfl:QO.mn false z zs=q:=by simpa [Ev.q]using hc
   have hm:=wv (show(qr (minAll false t (z.ev t) zs)).val=some x from hx);have e:=h.ev hz;have hr:=pH h hzs hm e.2;refine⟨bJ hop hb hargs ?_,hr.2⟩;simp only[builtin];refine aG ?_;simp only[Builtin.min_,List.map_cons,List.toList_toArray,e.1]
   simpa using hr.1
  ·cases hc
 ·
  rename_i _ y ys hargs;split at hc
  ·rename_i z zs hz hzs;obtain rfl:QO.mn true z zs=q:=by simpa [Ev.q]using hc
   have hm:=wv (show(qr (minAll true t (z.ev t) zs)).val=some x from hx);have e:=h.ev hz;have hr:=pH h hzs hm e.2;refine⟨bJ hop hb hargs ?_,hr.2⟩;simp only[builtin];refine aG ?_;simp only[Builtin.max_,List.map_cons,List.toList_toArray,e.1]
   simpa using hr.1
  ·cases hc
 ·
  split at hc
  ·obtain⟨sh,_,e⟩:=b9.1 hc;cases e
  ·cases hc
 ·
  split at hc
  ·split at hc<;>cases hc
  ·cases hc
 ·
  rename_i _ y hargs;obtain⟨z,hz,rfl⟩:=lK (f:=fun x=> .sd x) hc;have e:=h.ev hz;have hx':(wp z F M t).val=some x:=hx;unfold wp at hx';split at hx'
  ·rename_i hv;obtain rfl:=af hx';rw[hv]at e;refine⟨bJ hop hb hargs ?_,trivial⟩;simp only[builtin];refine aG ?_;simp only[List.map_cons,List.map_nil,e.1,conc];exact ap5
  ·rename_i b' off n k hv;rw[bp]at hx';by_cases hk:k=0
   ·rw[ae hk]at hx';cases(show(none:Option V)=some x from hx')
   ·rw[ag hk]at hx';obtain rfl:=af hx';rw[hv]at e;refine⟨bJ hop hb hargs ?_,e.2⟩;simp only[builtin];refine aG ?_;simp only[List.map_cons,List.map_nil,e.1,conc];exact ME hk
  ·rename_i b' off n el kn hv;rw[dY]at hx';by_cases hk:el<kn
   ·rw[ae hk]at hx';obtain rfl:=af hx';rw[hv]at e;refine⟨bJ hop hb hargs ?_,e.2⟩;have hne:¬(kn-el+E.κ b'=0):=by omega
    simp only[builtin];refine aG ?_;simp only[List.map_cons,List.map_nil,e.1,conc];exact ME hne
   ·rw[ag hk]at hx';cases(show(none:Option V)=some x from hx')
  ·cases hx'
 ·split at hc
  ·obtain⟨z,_,e⟩:=b9.1 hc;cases e
  ·cases hc
 ·cases hc
end
theorem l6{fn:Func}{n:String}(hn:fn.name=n)(ho:fn.origin= "")(h1:Extern.allNextRows.lookup n=none)(h2:Extern.allNextRows.lookup "" =none):Extern.findNext fn=none:=by
 unfold Extern.findNext
 dsimp only
 rw[hn,ho,h1,h2];rfl
theorem lO{fn:Func}{n:String}{e:Array Value→Sem Value}(hn:fn.name=n)(h0:Extern.allGenericRows.lookup n=none)(h1:Extern.allTypedRows.lookup n=none)(h2:Extern.allRows.lookup n=some e):Extern.find fn=some e:=by
 unfold Extern.find
 dsimp only
 rw[hn,h0,h1,h2];rfl
theorem EW{fn:Func}{n:String}{e:Extern.Typed}(hn:fn.name=n)(h0:Extern.allGenericRows.lookup n=none)(h1:Extern.allTypedRows.lookup n=some e):Extern.find fn=some (e fn.params fn.resultTypes):=by
 unfold Extern.find
 dsimp only
 rw[hn,h0,h1];rfl
theorem nj:Extern.allNextRows.lookup "" =none:=by kernel_rfl
theorem bX0:Extern.allNextRows.lookup "internal/bytealg.IndexByteString" =none:=by kernel_rfl
theorem bW9:Extern.allNextRows.lookup "internal/bytealg.CountString" =none:=by kernel_rfl
theorem bX1:Extern.allNextRows.lookup "internal/abi.NoEscape" =none:=by kernel_rfl
theorem bX2:Extern.allNextRows.lookup "internal/bytealg.MakeNoZero" =none:=by kernel_rfl
theorem bR6:Extern.allGenericRows.lookup "internal/bytealg.IndexByteString" =none:=by kernel_rfl
theorem bR5:Extern.allGenericRows.lookup "internal/bytealg.CountString" =none:=by kernel_rfl
theorem bR7:Extern.allGenericRows.lookup "internal/abi.NoEscape" =none:=by kernel_rfl
theorem bR8:Extern.allGenericRows.lookup "internal/bytealg.MakeNoZero" =none:=by kernel_rfl
theorem ci3:Extern.allTypedRows.lookup "internal/bytealg.IndexByteString" =none:=by kernel_rfl
theorem ci2:Extern.allTypedRows.lookup "internal/bytealg.CountString" =none:=by kernel_rfl
theorem ci4:Extern.allTypedRows.lookup "internal/abi.NoEscape" =none:=by kernel_rfl
theorem ci5:Extern.allTypedRows.lookup "internal/bytealg.MakeNoZero" =some Extern.BytealgMakeNoZero.makeNoZero:=by kernel_rfl
theorem bF6:Extern.allRows.lookup "internal/bytealg.IndexByteString" =some Extern.BytealgIndexByte.indexByte:=by kernel_rfl
theorem bF5:Extern.allRows.lookup "internal/bytealg.CountString" =some Extern.BytealgCount.count:=by kernel_rfl
theorem bF7:Extern.allRows.lookup "internal/abi.NoEscape" =some Extern.AbiNoEscape.same:=by kernel_rfl
theorem Pp(n x m y:Nat):nD (n+1) x (m+1) y=if x%256=y%256 then nD n (x/256) m (y/256)else if x%256<y%256 then -1 else 1:=by
 show(bif Nat.beq (Nat.mod x 256) (Nat.mod y 256)then nD n (Nat.div x 256) m (Nat.div y 256)else bif Nat.blt (Nat.mod x 256) (Nat.mod y 256)then Int.negSucc 0 else 1)=_
 rw[bp,dY]
 by_cases h:x%256=y%256
 ·rw[ae (show Nat.mod x 256=Nat.mod y 256 from h),ac h];rfl
 ·rw[ag (show¬Nat.mod x 256=Nat.mod y 256 from h),ab h];by_cases h2:x%256<y%256
  ·rw[ae (show Nat.mod x 256<Nat.mod y 256 from h2),ac h2];rfl
  ·rw[ag (show¬Nat.mod x 256<Nat.mod y 256 from h2),ab h2];rfl
def EE:List UInt8→List UInt8→Int
 |[],[]=>0
 |[],_::_=> -1
 |_::_,[]=>1
 |c::l,d::r=>if c=d then EE l r else if c<d then -1 else 1
theorem ofNat_lt{a b:Nat}(ha:a<256)(hb:b<256):UInt8.ofNat a<UInt8.ofNat b↔a<b:=by
 rw[UInt8.lt_iff_toNat_lt]
 simp[UInt8.toNat_ofNat',Nat.mod_eq_of_lt ha,Nat.mod_eq_of_lt hb]
theorem OM{a b:Nat}(ha:a<256)(hb:b<256):UInt8.ofNat a=UInt8.ofNat b↔a=b:=by
 constructor
 ·intro h;have:=congrArg UInt8.toNat h
  simpa [UInt8.toNat_ofNat',Nat.mod_eq_of_lt ha,Nat.mod_eq_of_lt hb]using this
 ·exact fun h=>by rw[h]
theorem zq:∀(n x m y:Nat),nD n x m y=EE (bl n x) (bl m y)
 |0,x,0,y=>rfl
 |0,x,m+1,y=>rfl
 |n+1,x,0,y=>rfl
 |n+1,x,m+1,y=>by
  have h1:x%256<256:=Nat.mod_lt _ (by decide);have h2:y%256<256:=Nat.mod_lt _ (by decide);rw[Pp,bl,bl,EE,zq n (x/256) m (y/256)];simp only[OM h1 h2,ofNat_lt h1 h2]
theorem Cb:∀(l r:List UInt8),(match (List.range (min l.length r.length)).find? (fun i=>l[i]! !=r[i]!)with
 |some i=>if l[i]! <r[i]! then(-1:Int)else 1
 |none=>if l.length<r.length then -1 else if l.length>r.length then 1 else 0)=EE l r
 |[],[]=>rfl
 |[],_::r=>by simp[EE]
 |_::l,[]=>by simp[EE]
 |c::l,d::r=>by
  have ih:=Cb l r;rw[EE];rw[show min (c::l).length (d::r).length=min l.length r.length+1 by simp only[aX];omega,List.range_succ_eq_map,List.find?_cons];by_cases h:c=d
  ·subst h;simp only[List.getElem!_cons_zero,bne_self_eq_false,if_true];rw[←ih,List.find?_map];simp only[Function.comp_def,Nat.succ_eq_add_one,List.getElem!_cons_succ,aX];cases hf:(List.range (min l.length r.length)).find? (fun i=>l[i]! !=r[i]!)with
   |none=>simp only[Option.map_none,Nat.add_lt_add_iff_right,gt_iff_lt]
   |some i=>simp only[Option.map_some,List.getElem!_cons_succ]
  ·have hb:((c::l)[0]! !=(d::r)[0]!)=true:=by simpa using h
   rw[hb];simp[h]
theorem ba2(n x m y:Nat):Extern.BytealgCompare.cmp (ba n x) (ba m y)=nD n x m y:=by
 rw[zq,←Cb]
 have hg:∀(k z i:Nat),(ba k z)[i]! =(bl k z)[i]! :=by
  intro k z i;by_cases h:i<k
  ·rw[getElem!_pos (ba k z) i (by rw[d8];exact h),getElem!_pos (bl k z) i (by rw[eW];exact h)];show(bl k z).toArray[i]'(by simpa [eW]using h)=_;simp
  ·rw[getElem!_neg (ba k z) i (by rw[d8];exact h),getElem!_neg (bl k z) i (by rw[eW];exact h)]
 unfold Extern.BytealgCompare.cmp
 simp only[hg,d8,eW]
 cases List.find? (fun i=>(bl n x)[i]! !=(bl m y)[i]!) (List.range (min n m))<;>rfl
theorem bW8:Extern.allNextRows.lookup "internal/bytealg.abigen_runtime_cmpstring" =none:=by kernel_rfl
theorem bR4:Extern.allGenericRows.lookup "internal/bytealg.abigen_runtime_cmpstring" =none:=by kernel_rfl
theorem ci1:Extern.allTypedRows.lookup "internal/bytealg.abigen_runtime_cmpstring" =none:=by kernel_rfl
theorem bF4:Extern.allRows.lookup "internal/bytealg.abigen_runtime_cmpstring" =some Extern.BytealgCompare.compare:=by kernel_rfl
theorem t8(c:Nat):∀(n x i:Nat),(match mZ (c%256) n x i with|some j=>(j:Int)|none=> -1)=if Lib.indexByte (bl n x) (UInt8.ofNat c)= -1 then -1 else Lib.indexByte (bl n x) (UInt8.ofNat c)+i
 |0,x,i=>by simp[mZ,bl,Lib.indexByte]
 |n+1,x,i=>by
  have ih:=t8 c n (x/256) (i+1);rw[mZ,bp,bl,Lib.indexByte];have hg:=Lib.indexByte_ge (bl n (x/256)) (UInt8.ofNat c);by_cases hc:x%256=c%256
  ·have hb:(UInt8.ofNat (x%256)==UInt8.ofNat c)=true:=by rw[hc,rW];simp
   rw[show Nat.mod x 256=x%256 from rfl,ae hc,cond_true,hb];simp
  ·have hb:(UInt8.ofNat (x%256)==UInt8.ofNat c)=false:=by
    rw[beq_eq_false_iff_ne];intro e;apply hc;have:=congrArg UInt8.toNat e;simpa [UInt8.toNat_ofNat']using this
   rw[show Nat.mod x 256=x%256 from rfl,ag hc,cond_false,hb];show(match mZ (c%256) n (x/256) (i+1)with|some j=>(j:Int)|none=> -1)=_;rw[ih];simp only[aS,if_false];by_cases h1:Lib.indexByte (bl n (x/256)) (UInt8.ofNat c)= -1
   ·rw[ac h1,h1];simp
   ·rw[ab h1];have h2:(Lib.indexByte (bl n (x/256)) (UInt8.ofNat c)== -1)=false:=by rw[beq_eq_false_iff_ne];exact h1
    simp only[h2,aS,if_false];rw[ab (by omega)];omega
theorem qj(c:Nat):∀(n x r:Nat),countB (c%256) n x r=r+Lib.countByte (bl n x) (UInt8.ofNat c)
 |0,x,r=>by simp[countB,bl,Lib.countByte]
 |n+1,x,r=>by
  rw[countB,qj c n,bp,bl,Lib.countByte,Lib.countByte,List.count_cons];by_cases hc:x%256=c%256
  ·have hb:(UInt8.ofNat (x%256)==UInt8.ofNat c)=true:=by rw[hc,rW];simp
   rw[show Nat.mod x 256=x%256 from rfl,ae hc,hb];show r+1+_=r+(_+1)
   show r+1+List.count (UInt8.ofNat c) (bl n (x/256))=r+(List.count (UInt8.ofNat c) (bl n (x/256))+1)
   omega
  ·have hb:(UInt8.ofNat (x%256)==UInt8.ofNat c)=false:=by
    rw[beq_eq_false_iff_ne];intro e;apply hc;have:=congrArg UInt8.toNat e;simpa [UInt8.toNat_ofNat']using this
   rw[show Nat.mod x 256=x%256 from rfl,ag hc,hb];rfl
section
variable{P:Program}{E:cE}{F:RO}{M:Mem}{c:Nat→Prop}{w:World}{t:T}{a:Act}
theorem iR{o:Oper}{cl:Call}{f:FuncId}{fn:Func}{e:Array Value→Sem Value}(hop:o.op= .call cl)(hcal:cl.callee= .value (.func f))(hf:P.funcs[f]?=some fn)(hb:fn.body.isNone=true)(hne:fn.name≠ "runtime.NumGoroutine")
 (hn:Extern.findNext fn=none) (he:Extern.find fn=some e) {l:List Operand} (hl:cl.args.toList=l) {v:Value} {w':World} (h:(e (l.map a.eval).toArray).run P w= .ok v w'):(execOp a.eval o).run P w= .ok (.value v) w':=by
 have hm:cl.args.map a.eval=(l.map a.eval).toArray:=by rw[dO hl];simp
 have hr:=run_callFunc_extern (P:=P) hf (by simpa using hne) hb hn he (l.map a.eval).toArray w
 simp only[execOp,hop,resolve,hcal,aE,hm,Act.eval,Deferred.ofValue,aA,aI,invoke,Array.empty_append,Array.append_empty,hr,h]
theorem sN{v:V}{n:Nat}(h:rD v=some n):v= .i .u8 (n:Int):=by
 unfold rD at h
 split at h
 ·obtain rfl:=af h;rfl
 ·cases h
theorem YO(h:Cx P E F M c w t a){o:Oper}{cl:Call}{f:FuncId}{fn:Func}(hop:o.op= .call cl)(hcal:cl.callee= .value (.func f))(hf:P.funcs[f]?=some fn)(hb:fn.body.isNone=true){q:QO}(hc:gn P fn cl.args.toList=some (.q q)){x:V}(hx:(cS q F M t).val=some x):sJ P E c w a o x:=by
 unfold gn at hc
 split at hc
 ·cases hc
 ·rename_i hor;have hor:fn.origin= "" :=by simpa using hor
  split at hc
  ·rename_i y z hargs;split at hc
   ·rename_i hnm;have hnm:fn.name= "internal/bytealg.IndexByteString" :=by simpa using hnm
    split at hc
    ·rename_i xa xb h1 h2;obtain rfl:QO.xib xa xb=q:=by simpa [Ev.q]using hc
     have e1:=h.ev h1;have e2:=h.ev h2;obtain⟨n,s,hv,hg⟩:=jq (show(oT (xa.ev t) QR.f fun n s=>by4 n s (rD (xb.ev t))).val=some x from hx);unfold by4 at hg;split at hg
     ·rename_i k hk;rw[hv]at e1;rw[sN hk]at e2;have hfi:=t8 k n s 0;have hge:=Lib.indexByte_ge (bl n s) (UInt8.ofNat k);have hxx:conc E x= .int .i64 (Lib.indexByte (bl n s) (UInt8.ofNat k))∧bd c x:=by
       unfold FC at hg;split at hg
       ·rename_i i hi;obtain rfl:=af hg;refine⟨?_,trivial⟩;rw[show mZ (k%256) n s 0=some i from hi]at hfi;simp only at hfi;simp only[conc]
        congr 1
        show(i:Int)=_;split at hfi<;>omega
       ·rename_i hi;obtain rfl:=af hg;refine⟨?_,trivial⟩;rw[show mZ (k%256) n s 0=none from hi]at hfi;simp only at hfi;simp only[conc]
        congr 1
        show(-1:Int)=_;split at hfi<;>omega
      refine⟨?_,hxx.2⟩;refine iR hop hcal hf hb (by rw[hnm];decide) (l6 hnm hor bX0 nj) (lO hnm bR6 ci3 bF6) hargs ?_;simp only[List.map_cons,List.map_nil,e1.1,e2.1,conc];rw[Lib.run_indexByteString,eV,hxx.1];rfl
     ·cases(show(none:Option V)=some x from hg)
    ·cases hc
   ·split at hc
    ·rename_i hnm;have hnm:fn.name= "internal/bytealg.CountString" :=by simpa using hnm
     split at hc
     ·rename_i xa xb h1 h2;obtain rfl:QO.xcn xa xb=q:=by simpa [Ev.q]using hc
      have e1:=h.ev h1;have e2:=h.ev h2;obtain⟨n,s,hv,hg⟩:=jq (show(oT (xa.ev t) QR.f fun n s=>by3 n s (rD (xb.ev t))).val=some x from hx);unfold by3 at hg;split at hg
      ·rename_i k hk;rw[hv]at e1;rw[sN hk]at e2;rw[aN]at hg;obtain rfl:=af hg;refine⟨?_,trivial⟩;refine iR hop hcal hf hb (by rw[hnm];decide) (l6 hnm hor bW9 nj) (lO hnm bR5 ci2 bF5) hargs ?_;simp only[List.map_cons,List.map_nil,e1.1,e2.1,conc];rw[Lib.run_countString,eV,show countB (Nat.mod k 256) n s 0=countB (k%256) n s 0 from rfl,qj,Nat.zero_add];rfl
      ·cases(show(none:Option V)=some x from hg)
     ·cases hc
    ·split at hc
     ·rename_i hnm;have hnm:fn.name= "internal/bytealg.abigen_runtime_cmpstring" :=by simpa using hnm
      split at hc
      ·rename_i xa xb h1 h2;obtain rfl:QO.xcmp xa xb=q:=by simpa [Ev.q]using hc
       have e1:=h.ev h1;have e2:=h.ev h2;obtain⟨n,s,hv,hg⟩:=jq (show(oT (xa.ev t) QR.f fun n a=>oT (xb.ev t) .f fun m b=>vI .i64 (nD n a m b)).val=some x from hx);obtain⟨m,s2,hv2,hg⟩:=jq hg;rw[hv]at e1;rw[hv2]at e2;rw[dW]at hg;obtain rfl:=af hg;refine⟨?_,trivial⟩;refine iR hop hcal hf hb (by rw[hnm];decide) (l6 hnm hor bW8 nj) (lO hnm bR4 ci1 bF4) hargs ?_;simp only[List.map_cons,List.map_nil,e1.1,e2.1,conc];show((pure (ba n s):Sem ByteArray)>>=fun a=>(pure (ba m s2):Sem ByteArray)>>=fun b=>(pure (goInt (Extern.BytealgCompare.cmp a b)):Sem Value)).run P w=_;rw[pure_bind,pure_bind,ba2];rfl
      ·cases hc
     ·cases hc
  ·rename_i y hargs;split at hc
   ·rename_i hnm;have hnm:fn.name= "internal/abi.NoEscape" :=by simpa using hnm
    obtain⟨z,hz,rfl⟩:=lK (f:=fun x=> .mv x) hc;obtain rfl:z.ev t=x:=af hx;have e:=h.ev hz;refine⟨?_,e.2⟩;refine iR hop hcal hf hb (by rw[hnm];decide) (l6 hnm hor bX1 nj) (lO hnm bR7 ci4 bF7) hargs ?_;simp only[List.map_cons,List.map_nil,e.1];rfl
   ·split at hc
    ·split at hc
     ·split at hc
      ·split at hc<;>cases hc
      ·cases hc
     ·cases hc
    ·cases hc
  ·cases hc
theorem Fz(h:Cx P E F M c w t a){o:Oper}{d:TypeId}{y:Operand}(hop:o.op= .sliceToArrayPointer d y){q:QO}(hc:aB P o.op=some (.q q)){x:V}(hx:(cS q F M t).val=some x):sJ P E c w a o x:=by
 rw[hop]at hc
 simp only[aB]at hc
 split at hc
 ·rename_i n el z hu hz;obtain rfl:QO.sap n z=q:=by simpa [Ev.q]using hc
  have hx':(zh n z F M t).val=some x:=hx;have e:=h.ev hz;unfold zh at hx';split at hx'
  ·rename_i b off len cp hv;rw[hv]at e;rw[bL]at hx';by_cases hl:n≤len
   ·rw[ae hl,cond_true]at hx';obtain rfl:=af hx';refine⟨?_,e.2⟩;simp only[execOp,hop];refine aG ?_;rw[e.1];simp[Instr.arrayAt,ay hu,conc,Nat.not_lt.2 hl]
   ·rw[ag hl]at hx';cases hx'
  ·rename_i b off len el' kn hv;rw[hv]at e;rw[bL]at hx';by_cases hl:n≤len
   ·rw[ae hl,cond_true]at hx';obtain rfl:=af hx';refine⟨?_,e.2⟩;simp only[execOp,hop];refine aG ?_;rw[e.1];simp[Instr.arrayAt,ay hu,conc,Nat.not_lt.2 hl]
   ·rw[ag hl]at hx';cases hx'
  ·cases hx'
 ·cases hc
theorem cc4(h:Cx P E F M c w t a){o:Oper}{q:QO}(hc:aB P o.op=some (.q q)){x:V}(hx:(cS q F M t).val=some x):sJ P E c w a o x:=by
 cases hop:o.op with
 |move y=>exact YQ h (.inl hop) hc hx
 |assign y=>exact YQ h (.inr hop) hc hx
 |pick p y z=>exact bh5 h hop hc hx
 |alloc ty=>rw[hop]at hc;obtain⟨z,_,e⟩:=b9.1 hc;cases e
 |box ty y=>
  rw[hop]at hc;simp only[aB]at hc;split at hc<;>cases hc
 |build ty ps=>exact an1 h hop hc hx
 |buildSlice ty n ps=>
  rw[hop]at hc;simp only[aB]at hc;split at hc
  ·split at hc
   ·split at hc
    ·cases hc
    ·obtain⟨z,_,e⟩:=b9.1 hc;cases e
   ·cases hc
  ·cases hc
 |insert ty m k v=>
  rw[hop]at hc;simp only[aB]at hc;split at hc
  ·obtain⟨z,_,e⟩:=b9.1 hc;cases e
  ·cases hc
 |load ty y=>exact bh4 h hop hc hx
 |store ty y z=>
  rw[hop]at hc;simp only[aB]at hc;split at hc<;>cases hc
 |ready g=>rw[hop]at hc;cases hc
 |waits g=>rw[hop]at hc;cases hc
 |nilCheck y=>exact FB h hop hc hx
 |binOp op ty y z ty'=>exact an0 h hop hc hx
 |unOp op ty y=>exact ao3 h hop hc hx
 |convert s d y=>exact OZ h hop hc hx
 |sliceToArrayPointer d y=>exact Fz h hop hc hx
 |makeInterface ty y=>exact u0 h hop hc hx
 |makeFunc fn l1 l2=>
  cases fn with
  |func f=>exact FA h hop hc hx
  |_=>rw[hop]at hc;cases hc
 |makeMap ty r=>
  cases r with
  |none=>rw[hop]at hc;cases hc
  |some z=>rw[hop]at hc;cases hc
 |makeChan ty y=>rw[hop]at hc;cases hc
 |makeSlice ty l k=>
  rw[hop]at hc;simp only[aB]at hc;split at hc
  ·split at hc
   ·split at hc<;>cases hc
   ·cases hc
  ·cases hc
 |slice ty y lo hi mx=>exact ao1 h hop hc hx
 |fieldAddr ty y f=>exact CR h hop hc hx
 |field ty y f=>exact an5 h hop hc hx
 |indexAddr ty y i=>exact CT h hop hc hx
 |index ty y i=>exact an6 h hop hc hx
 |lookup ty y i ok=>exact YP h hop hc hx
 |mapUpdate ty m k v=>
  rw[hop]at hc;simp only[aB]at hc;split at hc
  ·obtain⟨z,_,e⟩:=b9.1 hc;cases e
  ·cases hc
 |mapEntry ty m k=>rw[hop]at hc;cases hc
 |entryStore ty m s v=>rw[hop]at hc;cases hc
 |range ty y=>
  rw[hop]at hc;simp only[aB]at hc;split at hc<;>cases hc
 |next y b=>
  rw[hop]at hc;cases b<;>(obtain⟨z,_,e⟩:=b9.1 hc;cases e)
 |entry y=>rw[hop]at hc;cases hc
 |typeAssert y ty ty' ok=>exact Ax h hop hc hx
 |extract y i=>exact P1 h hop hc hx
 |call cl=>
  rw[hop]at hc;simp only[aB]at hc;split at hc
  ·rename_i b hcal;exact OY h hop hcal hc hx
  ·rename_i f hcal;split at hc
   ·rename_i fn hf;split at hc
    ·rename_i hb;exact YO h hop hcal hf hb hc hx
    ·obtain⟨z,_,e⟩:=b9.1 hc;cases e
   ·cases hc
  ·split at hc<;>cases hc
  ·cases hc
 |go cl=>rw[hop]at hc;cases hc
 |defer cl=>rw[hop]at hc;cases hc
 |panic y=>rw[hop]at hc;cases hc
 |send y z=>rw[hop]at hc;cases hc
 |recv ty y b=>rw[hop]at hc;cases hc
 |select cs b=>rw[hop]at hc;cases hc
end
theorem cd(n:Nat)(d:List V)(cs:T)(k:Nat):cell n d cs k=if k<n then(match cs.get k with|some v=>some v|none=>d[k%d.length]?)else none:=by
 show(Bool.rec (motive:=fun _=>Option V) none (Option.rec (motive:=fun _=>Option V) (xX d (Nat.mod k d.length)) (fun v=>some v) (cs.get k)) (Nat.blt k n))=_
 rw[bb,dY]
 simp only[decide_eq_true_eq]
 by_cases h:k<n
 ·rw[ac h,ac h];cases cs.get k with
  |none=>exact kO d _
  |some v=>rfl
 ·rw[ab h,ab h]
theorem jx{l:List V}{k:Nat}{v:V}(h:cell l.length [] (aW l 0 .e) k=some v):l[k]?=some v:=by
 rw[cd,dq]at h
 by_cases hk:k<l.length
 ·rw[ac hk,ac (by omega)]at h;simp only[Nat.sub_zero]at h;rw[List.getElem?_eq_getElem hk]at h⊢;exact h
 ·rw[ab hk]at h;cases h
section
variable{P:Program}{E:cE}{F:RO}{M:Mem}{c:Nat→Prop}{w:World}{t:T}{a:Act}
theorem vU{E':cE}{l:List V}{b ty:Nat}(he:pT c E E')(hl:fE c l)(hβ:E'.β b=0){arr:Array Value}(ha:arr=(aw E l).toArray):
 eY P E' b (.cells ty l.length true 0 false [] (aW l 0 .e)) (.cells arr ty):=by
 refine⟨arr,(0,0),rfl,⟨fun k v hk=>?_,?_,?_,?_⟩⟩
 ·have hk:=jx hk;rw[hβ,Nat.zero_add,ha,dv he v (ea hl hk)];simp[eg hk]
 ·simp[hβ,ha,aZ]
 ·intro o _ _ h;omega
 ·intro _;exact .inl rfl
theorem qF{l:List V}{ty:Nat}{c':Nat→Prop}{ex str:Bool}{fz:Nat}(hl:fE c l)(hc:∀b,c b→c' b):f6 c' (.cells ty l.length ex fz str [] (aW l 0 .e)):=
 fun k v hk=>dp hc v (ea hl (jx hk))
abbrev AOk(P:Program)(F:RO)(E:cE)(M:Mem)(c:Nat→Prop)(w:World)(a:Act)(o:Oper)(b:Nat)(c':Nat→Prop)(v:V)(blk:bq):Prop:=
 ∃E' w',(execOp a.eval o).run P w= .ok (.value (conc E' v)) w'∧lw P F E M c w E' (M.set b blk) c' w'∧pT (· ≠b) E E'∧bd c' v
theorem ad0(h:Cx P E F M c w t a){o:Oper}{ty:TypeId}(hop:o.op= .alloc ty){ao:AO}(hc:aB P o.op=some (.a ao)){b:Nat}{c':Nat→Prop}(hb:¬c b)(hbc:c' b)(hcc:∀b,c b→c' b){v:V}{blk:bq}(ha:kl ao b t=some (v,blk)):AOk P F E M c w a o b c' v blk:=by
 rw[hop]at hc
 obtain⟨z,hz,e⟩:=b9.1 hc
 obtain rfl:AO.al ty (aT z)=ao:=by simpa using e
 have ha':b64 ty (aT z) b t=some (v,blk):=ha
 unfold b64 at ha'
 by_cases h1:bv (aT z)=true
 ·rw[h1,cond_true]at ha';simp only[Option.some.injEq,Prod.mk.injEq]at ha';obtain⟨rfl,rfl⟩:=ha';have hz':=gz (E:=E) (c:=c) (w:=w) hz;have hcell:(conc E z).cells=(aw E (aT z)).toArray:=by rw[bX,cG]
  have hbd:fE c (aT z):=by rw[cG];exact dT hz'.2
  obtain⟨E',hS,hE,hρ,hβ,_⟩:=h.rel.alloc (.cells ty (aT z).length true 0 false [] (aW (aT z) 0 .e)) (.cells (conc E z).cells ty) b 0 c' hb hbc hcc (qF hbd hcc) {w with heap:=w.heap.push (.cells (conc E z).cells ty)} rfl rfl rfl rfl
   (fun E' he _ hβ _=>vU he hbd hβ hcell)
  refine⟨E',_,?_,hS,hE,hbc⟩;simp only[execOp,hop];refine aG ?_;simp only[Instr.alloc,aE,hz'.1,aI,newVar,newRow,run_newObj,aA,conc,hρ,hβ,bT]
 ·rw[Bool.not_eq_true]at h1;rw[h1]at ha';cases ha'
theorem bF1(h:Cx P E F M c w t a){o:Oper}{ty:TypeId}{y:Operand}(hop:o.op= .box ty y){ao:AO}(hc:aB P o.op=some (.a ao)){b:Nat}{c':Nat→Prop}(hb:¬c b)(hbc:c' b)(hcc:∀b,c b→c' b){v:V}{blk:bq}(ha:kl ao b t=some (v,blk)):AOk P F E M c w a o b c' v blk:=by
 rw[hop]at hc
 simp only[aB]at hc
 split at hc
 ·rename_i s x hs hx;obtain rfl:AO.bx ty s x=ao:=by simpa using hc
  have ha':NM ty s x b t=some (v,blk):=ha;unfold NM at ha';rw[bp]at ha';by_cases h1:(flatten (x.ev t)).length=s
  ·by_cases h2:bv (flatten (x.ev t))=true
   ·rw[ae h1,h2]at ha';simp only[Bool.and_self,cond_true,Option.some.injEq,Prod.mk.injEq]at ha';obtain⟨rfl,rfl⟩:=ha';subst h1;have e:=h.ev hx;have hbd:=dT e.2
    obtain⟨E',hS,hE,hρ,hβ,_⟩:=h.rel.alloc (.cells ty (flatten (x.ev t)).length true 0 false [] (aW (flatten (x.ev t)) 0 .e)) (.cells (conc E (x.ev t)).cells ty) b 0 c' hb hbc hcc (qF hbd hcc) {w with heap:=w.heap.push (.cells (conc E (x.ev t)).cells ty)} rfl rfl rfl rfl
     (fun E' he _ hβ _=>vU he hbd hβ (bX E _))
    refine⟨E',_,?_,hS,hE,hbc⟩;simp only[execOp,hop];refine aG ?_;rw[e.1];simp only[Instr.box,aE,aI,newVar,newRow,run_newObj,aA,conc,hρ,hβ,bT]
   ·rw[Bool.not_eq_true]at h2;rw[h2,Bool.and_false]at ha';cases ha'
  ·rw[ag h1]at ha';cases ha'
 ·cases hc
theorem NO(h:Cx P E F M c w t a){o:Oper}{ty:TypeId}(hop:o.op= .makeMap ty none){ao:AO}(hc:aB P o.op=some (.a ao)){b:Nat}{c':Nat→Prop}(hb:¬c b)(hbc:c' b)(hcc:∀b,c b→c' b){v:V}{blk:bq}(ha:kl ao b t=some (v,blk)):AOk P F E M c w a o b c' v blk:=by
 rw[hop]at hc
 obtain rfl:AO.mkm=ao:=by simpa [aB]using hc
 have ha':Qj b t=some (v,blk):=ha
 simp only[Qj,Option.some.injEq,Prod.mk.injEq]at ha'
 obtain⟨rfl,rfl⟩:=ha'
 obtain⟨E',hS,hE,hρ,hβ,_⟩:=h.rel.alloc (.map [] 0) (.map #[] 0) b 0 c' hb hbc hcc (fun e he=>by cases he) {w with heap:=w.heap.push (.map #[] 0)} rfl rfl rfl rfl (fun E' _ _ _ _=>rfl)
 refine⟨E',_,?_,hS,hE,hbc⟩
 simp only[execOp,hop]
 refine aG ?_
 simp[Instr.makeMap,conc,hρ]
theorem Ql(h:Cx P E F M c w t a){o:Oper}{ty:TypeId}{y:Operand}(hop:o.op= .range ty y){ao:AO}(hc:aB P o.op=some (.a ao)){b:Nat}{c':Nat→Prop}(hb:¬c b)(hbc:c' b)(hcc:∀b,c b→c' b){v:V}{blk:bq}(ha:kl ao b t=some (v,blk)):AOk P F E M c w a o b c' v blk:=by
 rw[hop]at hc
 simp only[aB]at hc
 split at hc
 ·rename_i x hu hx;obtain rfl:AO.rgs x=ao:=by simpa using hc
  have e:=h.ev hx;cases hv:x.ev t with
  |s n s=>
   have ha':(oT (x.ev t) none fun n s=>some (V.p b 0,bq.siter n s 0))=some (v,blk):=ha;rw[hv]at ha' e;have ha2:some (V.p b 0,bq.siter n s 0)=some (v,blk):=ha';simp only[Option.some.injEq,Prod.mk.injEq]at ha2;obtain⟨rfl,rfl⟩:=ha2;obtain⟨E',hS,hE,hρ,hβ,_⟩:=h.rel.alloc (.siter n s 0) (.stringIter (ba n s) 0) b 0 c' hb hbc hcc trivial {w with heap:=w.heap.push (.stringIter (ba n s) 0)} rfl rfl rfl rfl (fun E' _ _ hβ _=>⟨hβ,rfl⟩);refine⟨E',_,?_,hS,hE,hbc⟩;simp only[execOp,hop];refine aG ?_;rw[e.1];simp[Instr.range,ay hu,conc,hρ,hβ]
  |_=>
   have ha':(oT (x.ev t) none fun n s=>some (V.p b 0,bq.siter n s 0))=some (v,blk):=ha;rw[hv]at ha';cases(show(none:Option (V×bq))=some (v,blk)from ha')
 ·cases hc
 ·cases hc
theorem oI(n:Nat):∀(x j:Nat) (v:V),(bM n x)[j]?=some v→bd c v:=fun x j v hj=>ea (lI n x) hj
theorem NN(h:Cx P E F M c w t a){o:Oper}{s d:TypeId}{y:Operand}(hop:o.op= .convert s d y){ao:AO}(hc:aB P o.op=some (.a ao)){b:Nat}{c':Nat→Prop}(hb:¬c b)(hbc:c' b)(hcc:∀b,c b→c' b){v:V}{blk:bq}(ha:kl ao b t=some (v,blk)):AOk P F E M c w a o b c' v blk:=by
 rw[hop]at hc
 simp only[aB]at hc
 split at hc
 ·cases hc
 ·cases hc
 ·split at hc<;>cases hc
 ·rename_i el x hs hd hx;split at hc
  ·rename_i hu8;obtain rfl:AO.sb el x=ao:=by simpa using hc
   rw[aD]at hu8;have hel:P.underlying el=some (.int .u8):=by
    have:=hu8.1;unfold Cy at this;split at this
    ·assumption
    ·cases this
   have hsz:P.cellsOf el=1:=jJ (by simpa using hu8.2);have e:=h.ev hx;have ha':(oT (x.ev t) none fun n s=>some (V.u b 0 n 0 n,bq.cells el n false 0 true [] (aW (bM n s) 0 .e)))=some (v,blk):=ha;cases hv:x.ev t with
   |s n sx=>
    rw[hv]at ha' e;have ha2:some (V.u b 0 n 0 n,bq.cells el n false 0 true [] (aW (bM n sx) 0 .e))=some (v,blk):=ha';simp only[Option.some.injEq,Prod.mk.injEq]at ha2;obtain⟨rfl,rfl⟩:=ha2;have hrun:=run_bytes_of_string (P:=P) w s d el (ba n sx) hs hd hel;have hgc:n≤grownCap w n 0 el:=by simp[grownCap,Question.cut]
    have hrow:bytesRow (ba n sx) (grownCap w n 0 el)=(aw E (bM n sx)).toArray++Array.replicate (grownCap w n 0 el-n) (.int .u8 0):=by
     rw[bytesRow,jG,d8]
     congr 1
     simp[ba]
    have hrs:(bytesRow (ba n sx) (grownCap w n 0 el)).size=grownCap w n 0 el:=by
     rw[hrow];simp[aZ,iq];omega
    rw[d8]at hrun
    obtain⟨E',hS,hE,hρ,hβ,hκ⟩:=h.rel.alloc (.cells el n false 0 true [] (aW (bM n sx) 0 .e)) (.cells (bytesRow (ba n sx) (grownCap w n 0 el)) el ((bytesRow (ba n sx) (grownCap w n 0 el)).size,(bytesRow (ba n sx) (grownCap w n 0 el)).size+1)) b (grownCap w n 0 el-n) c' hb hbc hcc
     (fun k v hk=>dp hcc v (by
      have hk':=jx (l:=bM n sx) (by rw[iq];exact hk);exact oI n sx _ v hk'))
     (w.drew.alloc (.cells (bytesRow (ba n sx) (grownCap w n 0 el)) el ((bytesRow (ba n sx) (grownCap w n 0 el)).size,(bytesRow (ba n sx) (grownCap w n 0 el)).size+1))) rfl rfl rfl rfl
     (fun E' he _ hβ hκ=>by
      refine⟨_,_,rfl,⟨fun k v hk=>?_,?_,?_,?_⟩⟩
      ·have hk':=jx (l:=bM n sx) (by rw[iq];exact hk);have hlt:k<(bM n sx).length:=(List.getElem?_eq_some_iff.1 hk').1;rw[hβ,Nat.zero_add,hrow,dv he v (oI n sx _ v hk'),Array.getElem?_append_left (by simpa [aZ]using hlt)];simp[eg hk']
      ·simp only[aS,if_false];rw[hrs,hβ,hκ,hsz];omega
      ·intro o _ ho hf;have:=hf.1;simp only at this;omega
      ·intro hf;cases hf)
    refine⟨E',_,?_,hS,hE,hbc⟩;simp only[execOp,hop];refine aG ?_;rw[e.1];simp only[conc];rw[hrun,hρ,hβ,hκ];have e0:grownCap w n 0 el=n-0+(grownCap w n 0 el-n):=by omega
    rw[←e0]
   |_=>
    rw[hv]at ha';cases(show(none:Option (V×bq))=some (v,blk)from ha')
  ·cases hc
 ·split at hc<;>cases hc
 ·split at hc<;>cases hc
 ·split at hc<;>cases hc
 ·cases hc
theorem Dx(zero:Array Value)(n j:Nat)(hj:j<n)(hz:0<zero.size):((Array.range n).map (zero[· %zero.size]!))[j]?=zero[j%zero.size]?:=by
 have hm:j%zero.size<zero.size:=Nat.mod_lt _ hz
 simp[hj,hm]
structure yj(E:cE)(m:Nat)(zero:List V)(tr:T)(arr:Array Value):Prop where
 size:arr.size=m
 get:∀k v,cell m zero tr k=some v→arr[k]?=some (conc E v)
 bd:∀k v,cell m zero tr k=some v→Ev.bd c v
theorem rO(h:Cx P E F M c w t a){sz m:Nat}{zero:List V}:∀{ps:List (Nat×Operand)} {qs:List (Nat×X)} {tr r:T} {arr:Array Value},lJ sz ps=some qs→fillP sz m t qs tr=some r→yj (c:=c) E m zero tr arr→
 ∃arr',Instr.fill (fun i=>some (i*sz,sz)) arr (ps.map fun p=>(p.1,a.eval p.2))=some arr'∧yj (c:=c) E m zero r arr'
 |[],qs,tr,r,arr,hc,hf,hR=>by
  obtain rfl:=af hc;obtain rfl:=af hf;exact⟨arr,rfl,hR⟩
 |(i,y)::ps,qs,tr,r,arr,hc,hf,hR=>by
  rw[lJ]at hc;split at hc
  ·rename_i x l h1 h2;obtain rfl:=af hc;rw[fillP,bp,bL,Tr.force_eq]at hf;have e:=h.ev h1;by_cases g1:(flatten (x.ev t)).length=sz
   ·by_cases g2:i*sz+sz≤m
    ·by_cases g3:bv (flatten (x.ev t))=true
     ·rw[ae g1,show Nat.add (i*sz) sz=i*sz+sz from rfl,ae g2,g3]at hf;simp only[Bool.and_self,cond_true]at hf;have hcells:(a.eval y).cells=(aw E (flatten (x.ev t))).toArray:=by rw[e.1,bX]
      have hlen:(aw E (flatten (x.ev t))).length=sz:=by simp[aZ,g1]
      have hfold:=nU (i*sz) (aw E (flatten (x.ev t))) 0 arr
      have hR':yj (c:=c) E m zero (aW (flatten (x.ev t)) (i*sz) tr) (((aw E (flatten (x.ev t))).zipIdx 0).foldl (fun cs (p:Value×Nat)=>cs.setIfInBounds (i*sz+p.2) p.1) arr):=by
       refine⟨by rw[hfold.1,hR.size],fun k v hk=>?_,fun k v hk=>?_⟩
       ·rw[cd,dq]at hk;by_cases hkm:k<m
        ·rw[ac hkm]at hk;rw[hfold.2 k (by rw[hR.size];exact hkm),hlen,bT];rw[g1]at hk;by_cases hin:i*sz≤k∧k<i*sz+sz
         ·rw[ac hin]at hk⊢;have hlt:k-i*sz<(flatten (x.ev t)).length:=by omega
          rw[List.getElem?_eq_getElem hlt]at hk;obtain rfl:=af hk;exact eg (List.getElem?_eq_getElem hlt)
         ·rw[ab hin]at hk⊢;exact hR.get k v (by rw[cd,ac hkm];exact hk)
        ·rw[ab hkm]at hk;cases hk
       ·rw[cd,dq]at hk;by_cases hkm:k<m
        ·rw[ac hkm]at hk;by_cases hin:i*sz≤k∧k<i*sz+(flatten (x.ev t)).length
         ·rw[ac hin]at hk;have hlt:k-i*sz<(flatten (x.ev t)).length:=by omega
          rw[List.getElem?_eq_getElem hlt]at hk;obtain rfl:=af hk;exact ea (dT e.2) (List.getElem?_eq_getElem hlt)
         ·rw[ab hin]at hk;exact hR.bd k v (by rw[cd,ac hkm];exact hk)
        ·rw[ab hkm]at hk;cases hk
      obtain⟨arr',ha,hR''⟩:=rO h h2 hf hR';refine⟨arr',?_,hR''⟩;simp only[List.map_cons,Instr.fill,hcells];have c1:(aw E (flatten (x.ev t))).toArray.size=sz:=by simp[aZ,g1]
      rw[c1,hR.size];have c2:¬(i*sz+sz>m):=by omega
      simp only[ne_eq,not_true_eq_false,decide_false,Bool.false_or,decide_eq_true_eq,c2,if_false];rw[←ha]
      congr 1
      simp
     ·rw[Bool.not_eq_true]at g3;rw[g3,Bool.and_false]at hf;cases hf
    ·rw[show Nat.add (i*sz) sz=i*sz+sz from rfl,ag g2]at hf;simp at hf
   ·rw[ag g1]at hf;simp at hf
  ·cases hc
theorem Dy{zero:List V}{m:Nat}(hz:fE c zero)(hpos:0<zero.length):yj (c:=c) E m zero .e ((Array.range m).map ((aw E zero).toArray[· %(aw E zero).toArray.size]!)):=by
 have hsz:(aw E zero).toArray.size=zero.length:=by simp[aZ]
 refine⟨by simp,fun k v hk=>?_,fun k v hk=>?_⟩
 ·rw[cd]at hk;by_cases hkm:k<m
  ·rw[ac hkm]at hk;rw[Dx _ _ _ hkm (by rw[hsz];exact hpos),hsz];simp only[Tr.get_e]at hk;simp[eg hk]
  ·rw[ab hkm]at hk;cases hk
 ·rw[cd]at hk;by_cases hkm:k<m
  ·rw[ac hkm]at hk;simp only[Tr.get_e]at hk;exact ea hz hk
  ·rw[ab hkm]at hk;cases hk
theorem ut{E':cE}{m b ty:Nat}{zero:List V}{tr:T}{arr:Array Value}(he:pT c E E')(hR:yj (c:=c) E m zero tr arr)(hβ:E'.β b=0):eY P E' b (.cells ty m true 0 false zero tr) (.cells arr ty):=by
 refine⟨arr,(0,0),rfl,⟨fun k v hk=>?_,?_,?_,?_⟩⟩
 ·rw[hβ,Nat.zero_add,hR.get k v hk,dv he v (hR.bd k v hk)]
 ·simp[hβ,hR.size]
 ·intro o _ _ h;omega
 ·intro _;exact .inl rfl
theorem yC{m:Nat}(hm:m=0)(zero:List V):yj (c:=c) E m zero .e ((Array.range m).map ((#[]:Array Value)[· %(#[]:Array Value).size]!)):=by
 subst hm
 refine⟨by simp,fun k v hk=>?_,fun k v hk=>?_⟩<;>(rw[cd,ab (by omega)]at hk;cases hk)
theorem zP(h:Cx P E F M c w t a){o:Oper}{ty:TypeId}{n:Nat}{parts:Array (Nat×Operand)}(hop:o.op= .buildSlice ty n parts){ao:AO}(hc:aB P o.op=some (.a ao)){b:Nat}{c':Nat→Prop}(hb:¬c b)(hbc:c' b)(hcc:∀b,c b→c' b){v:V}{blk:bq}(ha:kl ao b t=some (v,blk)):AOk P F E M c w a o b c' v blk:=by
 rw[hop]at hc
 simp only[aB]at hc
 have hparts:(parts.map fun(p:Nat×Operand)=>(p.1,a.eval p.2)).toList=parts.toList.map fun p=>(p.1,a.eval p.2):=by simp
 split at hc
 ·rename_i el hu;split at hc
  ·rename_i s z hs hz;split at hc
   ·cases hc
   ·rename_i hcond;simp only[Bool.or_eq_true,decide_eq_true_eq,not_or]at hcond;obtain⟨qs,hqs,e⟩:=b9.1 hc;obtain rfl:AO.bsl el n s (aT z) qs=ao:=by simpa using e
    have ha':yl el n s (aT z) qs b t=some (v,blk):=ha;unfold yl at ha';split at ha'
    ·rename_i tr htr;rw[aN]at ha';simp only[Option.some.injEq,Prod.mk.injEq]at ha';obtain⟨rfl,rfl⟩:=ha';have hz':=gz (E:=E) (c:=c) (w:=w) hz;have hcell:(conc E z).cells=(aw E (aT z)).toArray:=by rw[bX,cG]
     have hbd:fE c (aT z):=by rw[cG];exact dT hz'.2
     by_cases hpos:0<(aT z).length
     ·by_cases hns:n*s=0
      ·obtain⟨arr,hfill,hR⟩:=rO h hqs (m:=n*s) htr (yC (E:=E) hns (aT z))
       obtain⟨E',hS,hE,hρ,hβ,_⟩:=h.rel.alloc (.cells el (n*s) true 0 false (aT z) tr) (.cells arr el) b 0 c' hb hbc hcc (fun k v hk=>dp hcc v (hR.bd k v hk)) {w with heap:=w.heap.push (.cells arr el)} rfl rfl rfl rfl
        (fun E' he _ hβ _=>ut he hR hβ)
       refine⟨E',_,?_,hS,hE,hbc⟩;simp only[execOp,hop];refine aG ?_;have hns':¬(n*s>2^24):=by omega
       simp only[Instr.buildSlice,aE,ay hu,aI,dF hs,hns',if_false,Sem.run_ite,hns,if_true,aA,hparts];rw[hns]at hfill;simp only[hfill,newRow,aE,run_newObj,aA,aI,conc,hρ,hβ,bT];rw[ab (by decide)]
      ·obtain⟨arr,hfill,hR⟩:=rO h hqs (m:=n*s) htr (Dy (E:=E) hbd hpos)
       obtain⟨E',hS,hE,hρ,hβ,_⟩:=h.rel.alloc (.cells el (n*s) true 0 false (aT z) tr) (.cells arr el) b 0 c' hb hbc hcc (fun k v hk=>dp hcc v (hR.bd k v hk)) {w with heap:=w.heap.push (.cells arr el)} rfl rfl rfl rfl
        (fun E' he _ hβ _=>ut he hR hβ)
       refine⟨E',_,?_,hS,hE,hbc⟩;simp only[execOp,hop];refine aG ?_;have hns':¬(n*s>2^24):=hcond.1.2;simp only[Instr.buildSlice,aE,ay hu,aI,dF hs,hns',if_false,Sem.run_ite,hns,hz'.1,aA,hparts,hcell];simp only[hfill,newRow,aE,run_newObj,aA,aI,conc,hρ,hβ,bT]
     ·exfalso;have:=hcond.2;cases hcz:aT z with
      |nil=>rw[hcz]at this;simp at this
      |cons x l=>rw[hcz]at hpos;simp at hpos
    ·cases ha'
  ·cases hc
 ·cases hc
theorem BX(h:Cx P E F M c w t a){o:Oper}{ty:TypeId}{l k:Operand}(hop:o.op= .makeSlice ty l k){ao:AO}(hc:aB P o.op=some (.a ao)){b:Nat}{c':Nat→Prop}(hb:¬c b)(hbc:c' b)(hcc:∀b,c b→c' b){v:V}{blk:bq}(ha:kl ao b t=some (v,blk)):AOk P F E M c w a o b c' v blk:=by
 rw[hop]at hc
 simp only[aB]at hc
 split at hc
 ·rename_i el xl xk hu h1 h2;split at hc
  ·rename_i s by_ z hs hby hz;split at hc
   ·cases hc
   ·rename_i hcond;simp only[Bool.or_eq_true,decide_eq_true_eq,not_or]at hcond;obtain rfl:AO.mks el s by_ (aT z) xl xk=ao:=by simpa using hc
    have ha':zQ el s by_ (aT z) b (oA (xl.ev t)) (oA (xk.ev t))=some (v,blk):=ha;unfold zQ at ha';split at ha'
    ·rename_i ln cp hl hk;rw[bL,bL]at ha';by_cases g1:ln≤cp
     ·by_cases g2:cp*(by_+1)≤1099511627776
      ·rw[ae g1,show Nat.mul cp (Nat.succ by_)=cp*(by_+1)from rfl,ae g2,aN]at ha';simp only[Bool.and_self,cond_true,Option.some.injEq,Prod.mk.injEq]at ha';obtain⟨rfl,rfl⟩:=ha';obtain⟨k1,e1⟩:=iQ hl;obtain⟨k2,e2⟩:=iQ hk;have v1:=h.ev h1;have v2:=h.ev h2;rw[e1]at v1;rw[e2]at v2;have hz':=gz (E:=E) (c:=c) (w:=w) hz;have hcell:(conc E z).cells=(aw E (aT z)).toArray:=by rw[bX,cG]
       have hbd:fE c (aT z):=by rw[cG];exact dT hz'.2
       have hpos:0<(aT z).length:=by
        cases hcz:aT z with
        |nil=>exact absurd (by rw[hcz];rfl) hcond.2
        |cons x l=>exact Nat.succ_pos _
       have hcp:cp≤1099511627776:=by
        have:cp*1≤cp*(by_+1):=Nat.mul_le_mul_left cp (by omega);omega
       have hbc2:by_*cp≤1099511627776:=by
        have:cp*by_≤cp*(by_+1):=Nat.mul_le_mul_left cp (by omega);rw[Nat.mul_comm];omega
       have w1:IntKind.i64.wrap (ln:Int)=ln:=by
        rw[nK .i64 _ 18446744073709551616 9223372036854775808 rfl (by decide) (by decide),ab (by omega)];omega
       have w2:IntKind.i64.wrap (cp:Int)=cp:=by
        rw[nK .i64 _ 18446744073709551616 9223372036854775808 rfl (by decide) (by decide),ab (by omega)];omega
       obtain⟨i,hi,hib⟩:∃i,P.info? el=some i∧i.bytes=by_:=by
        obtain⟨i,hi,e⟩:=b9.1 hby;exact⟨i,hi,e⟩
       have hti:(typeInfo el).run P w= .ok i w:=by simp[typeInfo,hi]
       have hbig:¬((by_:Int)*(cp:Int)>2^48):=by
        have:((by_*cp:Nat):Int)≤((1099511627776:Nat):Int):=Int.ofNat_le.2 hbc2;rw[Int.natCast_mul]at this;have h48:(2:Int)^48=281474976710656:=by decide
        rw[h48];omega
       have htest:(decide ((cp:Int)<0)||decide ((by_:Int)*(cp:Int)>2^48)||decide ((ln:Int)<0)||decide ((ln:Int)>(cp:Int)))=false:=by
        simp only[Bool.or_eq_false_iff,decide_eq_false_iff_not];exact⟨⟨⟨by omega,hbig⟩,by omega⟩,by omega⟩
       by_cases hns:cp*s=0
       ·have hR:=yC (E:=E) (c:=c) hns (aT z)
        obtain⟨E',hS,hE,hρ,hβ,_⟩:=h.rel.alloc (.cells el (cp*s) true 0 false (aT z) .e) (.cells _ el) b 0 c' hb hbc hcc (fun k v hk=>dp hcc v (hR.bd k v hk)) {w with heap:=w.heap.push (.cells _ el)} rfl rfl rfl rfl
         (fun E' he _ hβ _=>ut he hR hβ)
        refine⟨E',_,?_,hS,hE,hbc⟩;simp only[execOp,hop];refine aG ?_;rw[v1.1,v2.1];simp only[Instr.makeSlice,aE,ay hu,aI,conc,asInt,asIntOf,aA,hti,hib,w1,w2,htest,aS,if_false,Sem.run_ite,run_askRoom,Int.toNat_natCast,dF hs,hns,if_true,newRow,run_newObj,hρ,hβ,bT]
       ·have hR:=Dy (E:=E) (c:=c) (m:=cp*s) hbd hpos
        obtain⟨E',hS,hE,hρ,hβ,_⟩:=h.rel.alloc (.cells el (cp*s) true 0 false (aT z) .e) (.cells _ el) b 0 c' hb hbc hcc (fun k v hk=>dp hcc v (hR.bd k v hk)) {w with heap:=w.heap.push (.cells _ el)} rfl rfl rfl rfl
         (fun E' he _ hβ _=>ut he hR hβ)
        refine⟨E',_,?_,hS,hE,hbc⟩;simp only[execOp,hop];refine aG ?_;rw[v1.1,v2.1];simp only[Instr.makeSlice,aE,ay hu,aI,conc,asInt,asIntOf,aA,hti,hib,w1,w2,htest,aS,if_false,Sem.run_ite,run_askRoom,Int.toNat_natCast,dF hs,hns,hz'.1,hcell,newRow,run_newObj,hρ,hβ,bT]
      ·rw[show Nat.mul cp (Nat.succ by_)=cp*(by_+1)from rfl,ag g2,Bool.and_false]at ha';cases ha'
     ·rw[ag g1]at ha';cases ha'
    ·cases ha'
  ·cases hc
 ·cases hc
theorem Ce(n:Nat):∀(x:Nat) (acc:Array Value),(Extern.BytealgMakeNoZero.digits n x acc).size=acc.size+n:=by
 induction n with
 |zero=>intro x acc;rfl
 |succ n ih=>intro x acc;rw[Extern.BytealgMakeNoZero.digits,ih];simp;omega
theorem E6{v:V}{n:Nat}(h:Hg v=some n):v= .i .i64 (n:Int):=by
 unfold Hg at h
 split at h
 ·obtain rfl:=af h;rfl
 ·cases h
theorem Fo{ps rs:Array TypeId}{ty el n:Nat}(hr:rs[0]?=some ty)(hu:P.underlying ty=some (.slice el))(hn:n≤1099511627776):
 ∃bytes,(Extern.BytealgMakeNoZero.makeNoZero ps rs #[.int .i64 (n:Int)]).run P w= .ok (.slice (some ⟨w.heap.size,0,none⟩) n (grownCap w n 0 el))
  {w with heap:=w.heap.push (.cells (Extern.BytealgMakeNoZero.digits (grownCap w n 0 el) bytes #[]) el),drawn:=w.drawn+1+1}:=by
 have h1:¬((n:Int)<0):=by omega
 have h2:¬((n:Int)>2^48):=by
  have h48:(2:Int)^48=281474976710656:=by decide
  rw[h48];omega
 refine⟨?_,?_⟩
 rotate_left
 ·conv=>lhs;arg 2;whnf
  simp only[hr,aE,ay hu,aI,h1,h2,decide_false,Bool.or_self,aS,if_false,Sem.run_ite,Int.toNat_natCast,run_choose,Question.forced,run_askRoom,newRow,run_newObj,aA,Question.cut];rfl
theorem Qi(h:Cx P E F M c w t a){o:Oper}{cl:Call}{f:FuncId}{fn:Func}(hop:o.op= .call cl)(hcal:cl.callee= .value (.func f))(hf:P.funcs[f]?=some fn)(hb0:fn.body.isNone=true){ao:AO}(hc:gn P fn cl.args.toList=some (.a ao)){b:Nat}{c':Nat→Prop}(hb:¬c b)(hbc:c' b)(hcc:∀b,c b→c' b){v:V}{blk:bq}(ha:kl ao b t=some (v,blk)):AOk P F E M c w a o b c' v blk:=by
 unfold gn at hc
 split at hc
 ·cases hc
 ·rename_i hor;have hor:fn.origin= "" :=by simpa using hor
  split at hc
  ·split at hc
   ·split at hc<;>cases hc
   ·split at hc
    ·split at hc<;>cases hc
    ·split at hc
     ·split at hc<;>cases hc
     ·cases hc
  ·rename_i y hargs;split at hc
   ·obtain⟨z,hz,e⟩:=aR.1 hc;cases e
   ·split at hc
    ·rename_i hnm;have hnm:fn.name= "internal/bytealg.MakeNoZero" :=by simpa using hnm
     split at hc
     ·rename_i x ty hx hres;split at hc
      ·rename_i el hu;split at hc
       ·rename_i hu8;rw[aD]at hu8;have hsz:P.cellsOf el=1:=jJ (by simpa using hu8.2);obtain rfl:AO.nz el x=ao:=by simpa using hc
        have ha':NP el x b t=some (v,blk):=ha;unfold NP at ha';split at ha'
        ·rename_i n hn;rw[bL]at ha';by_cases g1:n≤1099511627776
         ·rw[ae g1]at ha';simp only[cond_true,Option.some.injEq,Prod.mk.injEq]at ha';obtain⟨rfl,rfl⟩:=ha';have e1:=E6 hn;have v1:=h.ev hx;rw[e1]at v1;have hres0:fn.resultTypes[0]?=some ty:=by rw[dO hres];rfl
          have hgc:n≤grownCap w n 0 el:=by simp[grownCap,Question.cut]
          obtain⟨bytes,w',hrun,hheap,hos,hout,htape⟩:∃bytes w',(Extern.BytealgMakeNoZero.makeNoZero fn.params fn.resultTypes #[.int .i64 (n:Int)]).run P w= .ok (.slice (some ⟨w.heap.size,0,none⟩) n (grownCap w n 0 el)) w'∧
           w'.heap=w.heap.push (.cells (Extern.BytealgMakeNoZero.digits (grownCap w n 0 el) bytes #[]) el)∧w'.os=w.os∧w'.output=w.output∧w'.tape=w.tape:=by
           obtain⟨bytes,hb2⟩:=Fo (P:=P) (w:=w) (ps:=fn.params) hres0 hu g1;exact⟨bytes,_,hb2,rfl,rfl,rfl,rfl⟩
          obtain⟨E',hS,hE,hρ,hβ,hκ⟩:=h.rel.alloc (.cells el n false 0 false [] .e) (.cells (Extern.BytealgMakeNoZero.digits (grownCap w n 0 el) bytes #[]) el) b (grownCap w n 0 el-n) c' hb hbc hcc
           (fun k v hk=>by
            rw[cd]at hk;simp only[Tr.get_e,List.getElem?_nil]at hk;split at hk<;>cases hk) w' hheap hos hout htape
           (fun E' he _ hβ hκ=>by
            refine⟨_,_,rfl,⟨fun k v hk=>?_,?_,?_,?_⟩⟩
            ·rw[cd]at hk;simp only[Tr.get_e,List.getElem?_nil]at hk;split at hk<;>cases hk
            ·simp only[aS,if_false];rw[Ce,hβ,hκ,hsz];simp;omega
            ·intro o _ _ h;omega
            ·intro _;exact .inl rfl)
          refine⟨E',w',?_,hS,hE,hbc⟩;refine iR hop hcal hf hb0 (by rw[hnm];decide) (l6 hnm hor bX2 nj) (EW hnm bR8 ci5) hargs ?_;simp only[List.map_cons,List.map_nil,v1.1,conc];rw[hrun,hρ,hβ,hκ];have e0:grownCap w n 0 el=n-0+(grownCap w n 0 el-n):=by omega
          rw[←e0]
         ·rw[ag g1]at ha';cases ha'
        ·cases ha'
       ·cases hc
      ·cases hc
     ·cases hc
    ·cases hc
  ·cases hc
theorem ay9(h:Cx P E F M c w t a){o:Oper}{ao:AO}(hc:aB P o.op=some (.a ao)){b:Nat}{c':Nat→Prop}(hb:¬c b)(hbc:c' b)(hcc:∀b,c b→c' b){v:V}{blk:bq}(ha:kl ao b t=some (v,blk)):AOk P F E M c w a o b c' v blk:=by
 cases hop:o.op with
 |alloc ty=>exact ad0 h hop hc hb hbc hcc ha
 |box ty y=>exact bF1 h hop hc hb hbc hcc ha
 |buildSlice ty n ps=>exact zP h hop hc hb hbc hcc ha
 |convert s d y=>exact NN h hop hc hb hbc hcc ha
 |makeMap ty r=>
  cases r with
  |none=>exact NO h hop hc hb hbc hcc ha
  |some z=>rw[hop]at hc;cases hc
 |makeSlice ty l k=>exact BX h hop hc hb hbc hcc ha
 |range ty y=>exact Ql h hop hc hb hbc hcc ha
 |call cl=>
  rw[hop]at hc;simp only[aB]at hc;split at hc
  ·rename_i b' hcal;exfalso;unfold eB at hc;split at hc
   ·split at hc<;>first|cases hc|(split at hc<;>cases hc)
   ·split at hc<;>cases hc
   ·split at hc
    ·split at hc
     ·split at hc
      ·cases hc
      ·split at hc<;>cases hc
     ·cases hc
    ·cases hc
   ·split at hc
    ·split at hc
     ·split at hc<;>cases hc
     ·cases hc
    ·cases hc
   ·split at hc
    ·split at hc
     ·split at hc<;>cases hc
     ·cases hc
    ·cases hc
   ·split at hc<;>cases hc
   ·split at hc<;>cases hc
   ·split at hc
    ·obtain⟨z,_,e⟩:=b9.1 hc;cases e
    ·cases hc
   ·split at hc
    ·split at hc<;>cases hc
    ·cases hc
   ·obtain⟨z,_,e⟩:=aR.1 hc;cases e
   ·split at hc
    ·obtain⟨z,_,e⟩:=b9.1 hc;cases e
    ·cases hc
   ·cases hc
  ·rename_i f hcal;split at hc
   ·rename_i fn hf;split at hc
    ·rename_i hb0;exact Qi h hop hcal hf hb0 hc hb hbc hcc ha
    ·obtain⟨z,_,e⟩:=b9.1 hc;cases e
   ·cases hc
  ·split at hc<;>cases hc
  ·cases hc
 |move y=>rw[hop]at hc;obtain⟨z,_,e⟩:=aR.1 hc;cases e
 |assign y=>rw[hop]at hc;obtain⟨z,_,e⟩:=aR.1 hc;cases e
 |pick p y z=>rw[hop]at hc;simp only[aB]at hc;split at hc<;>cases hc
 |build ty ps=>
  rw[hop]at hc;simp only[aB]at hc;split at hc
  ·split at hc
   ·obtain⟨z,_,e⟩:=aR.1 hc;cases e
   ·cases hc
  ·split at hc
   ·obtain⟨z,_,e⟩:=aR.1 hc;cases e
   ·cases hc
  ·cases hc
 |insert ty m k v=>
  rw[hop]at hc;simp only[aB]at hc;split at hc
  ·obtain⟨z,_,e⟩:=b9.1 hc;cases e
  ·cases hc
 |load ty y=>rw[hop]at hc;simp only[aB]at hc;split at hc<;>cases hc
 |store ty y z=>rw[hop]at hc;simp only[aB]at hc;split at hc<;>cases hc
 |nilCheck y=>rw[hop]at hc;obtain⟨z,_,e⟩:=aR.1 hc;cases e
 |binOp op ty y z ty'=>
  rw[hop]at hc;simp only[aB]at hc;split at hc
  ·cases hc
  ·cases hc
  ·split at hc
   ·obtain⟨z,_,e⟩:=aR.1 hc;cases e
   ·obtain⟨z,_,e⟩:=aR.1 hc;cases e
   ·cases hc
  ·cases hc
 |unOp op ty y=>rw[hop]at hc;obtain⟨z,_,e⟩:=aR.1 hc;cases e
 |makeInterface ty y=>rw[hop]at hc;simp only[aB]at hc;split at hc<;>cases hc
 |makeFunc fn l1 l2=>
  cases fn with
  |func f=>rw[hop]at hc;simp only[aB]at hc;split at hc<;>cases hc
  |_=>rw[hop]at hc;cases hc
 |slice ty y lo hi mx=>
  rw[hop]at hc;simp only[aB]at hc;split at hc
  ·split at hc
   ·split at hc<;>cases hc
   ·obtain⟨z,_,e⟩:=aR.1 hc;split at e<;>cases e
   ·obtain⟨z,_,e⟩:=aR.1 hc;split at e<;>cases e
   ·split at hc
    ·obtain⟨z,_,e⟩:=aR.1 hc;split at e<;>cases e
    ·cases hc
   ·cases hc
  ·cases hc
 |fieldAddr ty y f=>
  rw[hop]at hc;simp only[aB]at hc;split at hc
  ·split at hc
   ·split at hc<;>cases hc
   ·cases hc
  ·cases hc
 |field ty y f=>
  rw[hop]at hc;simp only[aB]at hc;split at hc
  ·split at hc
   ·split at hc<;>cases hc
   ·cases hc
  ·cases hc
 |indexAddr ty y i=>
  rw[hop]at hc;simp only[aB]at hc;split at hc
  ·obtain⟨z,_,e⟩:=aR.1 hc;cases e
  ·obtain⟨z,_,e⟩:=aR.1 hc;cases e
  ·cases hc
 |index ty y i=>
  rw[hop]at hc;simp only[aB]at hc;split at hc
  ·split at hc<;>cases hc
  ·cases hc
  ·cases hc
 |lookup ty y i ok=>
  rw[hop]at hc;simp only[aB]at hc;split at hc
  ·split at hc<;>cases hc
  ·cases hc
 |mapUpdate ty m k v=>
  rw[hop]at hc;simp only[aB]at hc;split at hc
  ·obtain⟨z,_,e⟩:=b9.1 hc;cases e
  ·cases hc
 |next y b=>
  rw[hop]at hc;cases b<;>(obtain⟨z,_,e⟩:=b9.1 hc;cases e)
 |typeAssert y ty ty' ok=>rw[hop]at hc;simp only[aB]at hc;split at hc<;>cases hc
 |extract y i=>rw[hop]at hc;obtain⟨z,_,e⟩:=aR.1 hc;cases e
 |sliceToArrayPointer d y=>rw[hop]at hc;simp only[aB]at hc;split at hc<;>cases hc
 |_=>rw[hop]at hc;cases hc
end
def NV(nx:Next)(v:Value):Prop:=nx= .value v∨(nx= .skip∧v=Go.undef)
theorem rU{h:Array Obj}{r:Nat}{x:Obj}(f:Obj→Obj)(hx:h[r]?=some x):h.modify r f=h.setIfInBounds r (f x):=by
 apply Array.ext_getElem?
 intro j
 rw[Array.getElem?_modify]
 by_cases e:r=j
 ·subst e;obtain⟨hlt,hx'⟩:=Array.getElem?_eq_some_iff.1 hx;simp[hlt,hx']
 ·rw[ab e,Array.getElem?_setIfInBounds_ne e]
theorem FM{w:World}{r o:Nat}{arr:Array Value}{ty:TypeId}{fr:Nat×Nat}(h:w.heap[r]?=some (.cells arr ty fr))(v:Value):
 w.setCell ⟨r,o,none⟩ v={w with heap:=w.heap.setIfInBounds r (.cells (arr.setIfInBounds o v) ty fr)}:=by
 unfold World.setCell
 rw[rU _ h]
 simp
def ep(arr:Array Value)(off:Nat)(vs:List Value)(k:Nat):Array Value:=(vs.zipIdx k).foldl (fun cs (p:Value×Nat)=>cs.setIfInBounds (off+p.2) p.1) arr
theorem hJ{P:Program}(r off:Nat)(ty:TypeId)(fr:Nat×Nat):∀(vs:List Value) (k:Nat) (arr:Array Value) (w:World),w.heap[r]?=some (.cells arr ty fr)→
 uD fr (off+k) arr.size→off+k+vs.length≤arr.size→(∀v∈vs,v.oneCell'=true)→
 (storeCells ⟨r,off,none⟩ vs k).run P w= .ok () {w with heap:=w.heap.setIfInBounds r (.cells (ep arr off vs k) ty fr)}
 |[],k,arr,w,h,_,_,_=>by
  have hlt:=(Array.getElem?_eq_some_iff.1 h)
  simp only[storeCells,aA,ep,List.zipIdx_nil,List.foldl_nil]
  congr 1
  have:w.heap.setIfInBounds r (.cells arr ty fr)=w.heap:=by
   apply Array.ext_getElem?;intro j;by_cases e:r=j
   ·subst e;rw[h];simp[hlt.1]
   ·rw[Array.getElem?_setIfInBounds_ne e]
  rw[this]
 |v::vs,k,arr,w,h,hf,hs,h1=>by
  simp only[aX]at hs
  have hc:w.cell? ⟨r,off+k,none⟩=some (arr[off+k]'(by omega)):=by
   simp only[World.cell?,h,Option.isSome_none,aS,if_false];exact Array.getElem?_eq_getElem (by omega)
  have hz:w.frozen? ⟨r,off+k,none⟩=false:=by
   simp only[World.frozen?,h];have:=hf (off+k) (ah _) (by omega);rw[Bool.and_eq_false_iff];simp only[decide_eq_false_iff_not];omega
  have hlt:=(Array.getElem?_eq_some_iff.1 h).1;rw[storeCells,aE,Addr.add_eq,run_store P w _ v _ (h1 v (by simp)),hc];simp only[hz,aS,if_false,aI];rw[FM h]
  have h':({w with heap:=w.heap.setIfInBounds r (.cells (arr.setIfInBounds (off+k) v) ty fr)}:World).heap[r]?=some (.cells (arr.setIfInBounds (off+k) v) ty fr):=by
   simp[hlt]
  have ih:=hJ (P:=P) r off ty fr vs (k+1) (arr.setIfInBounds (off+k) v) _ h' (fun o ho ho'=>hf o (by omega) (by simpa using ho')) (by simp;omega) (fun x hx=>h1 x (by simp[hx]));rw[ih];simp only[ep,List.zipIdx_cons,List.foldl_cons]
  congr 2
  apply Array.ext_getElem?;intro j;by_cases e:r=j
  ·subst e;simp[hlt]
  ·rw[Array.getElem?_setIfInBounds_ne e,Array.getElem?_setIfInBounds_ne e,Array.getElem?_setIfInBounds_ne e]
section
variable{P:Program}{E:cE}{F:RO}{M:Mem}{c:Nat→Prop}{w:World}{t:T}{a:Act}
theorem pB{v:V}(h:cY v=true):(conc E v).oneCell'=true:=by
 cases v<;>first|rfl|cases(show false=true from h)
theorem ly:∀{l:List V},bv l=true→ ∀v∈l,cY v=true
 |[],_,v,hv=>by cases hv
 |x::l,h,v,hv=>by
  have h':(Bool.rec (motive:=fun _=>Bool) false (bv l) (cY x))=true:=h;rw[bb]at h';by_cases hx:cY x=true
  ·rw[ac hx]at h';cases hv with
   |head=>exact hx
   |tail _ hm=>exact ly h' v hm
  ·rw[ab hx]at h';cases h'
theorem nC{b o:Nat}{vs:List V}{M':Mem}(h:cC M b o vs=some M'):∃ty n ex fz str d cs,M.get b=some (.cells ty n ex fz str d cs)∧o+vs.length≤n∧fz≤o∧bv vs=true∧
 M'=M.set b (.cells ty n ex fz str d (aW vs o cs)):=by
 have h':Option.rec (motive:=fun _=>Option Mem) none (fun blk=>o8 M b o vs blk) (M.get b)=some M':=h
 cases hb:M.get b with
 |none=>rw[hb]at h';cases(show(none:Option Mem)=some M' from h')
 |some blk=>
  rw[hb]at h';cases blk with
  |cells ty n ex fz str d cs=>
   have h2:(Bool.rec (motive:=fun _=>Option Mem) none (Bool.rec (motive:=fun _=>Option Mem) none (Bool.rec (motive:=fun _=>Option Mem) none (fy M b o vs ty n ex fz str d cs) (bv vs)) (Nat.ble fz o)) (Nat.ble (Nat.add o vs.length) n))=some M':=h';rw[bb,bb,bb,bL,bL]at h2;split at h2
   ·rename_i g1;split at h2
    ·rename_i g2;split at h2
     ·rename_i g3;refine⟨ty,n,ex,fz,str,d,cs,rfl,bc g1,bc g2,g3,?_⟩;unfold fy at h2;rw[Tr.force_eq,Tr.force_eq]at h2;exact(af h2).symm
     ·cases h2
    ·cases h2
   ·cases h2
  |_=>cases(show(none:Option Mem)=some M' from h')
theorem Cx.store(h:Cx P E F M c w t a){b o:Nat}{vs:List V}{M':Mem}(hs:cC M b o vs=some M')(hb:fE c vs):
 ∃w',(storeCells ⟨E.ρ b,E.β b+o,none⟩ (aw E vs)).run P w= .ok () w'∧lw P F E M c w E M' c w':=by
 obtain⟨ty,n,ex,fz,str,d,cs,hM,h1,h2,h3,rfl⟩:=nC hs
 obtain⟨arr,fr,ho,hr⟩:=h.cells (aq hM)
 have hle:=hr.le
 have hlen:(aw E vs).length=vs.length:=by simp[aZ]
 have hone:∀v∈aw E vs,v.oneCell'=true:=by
  intro v hv;rw[aZ,List.mem_map]at hv;obtain⟨x,hx,rfl⟩:=hv;exact pB (ly h3 x hx)
 have hrun:=hJ (P:=P) (E.ρ b) (E.β b+o) ty fr (aw E vs) 0 arr w ho (fun k hk hk'=>hr.free k (by omega) hk') (by rw[hlen];omega) hone
 refine⟨_,hrun,h.rel.write b _ _ hM _ ?_ _ rfl rfl rfl rfl ?_⟩
 ·intro k v hk;rw[cd,dq]at hk;have hold:=(h.rel.has _ _ (aq hM)).2.1;split at hk
  ·rename_i hkn;by_cases hin:o≤k∧k<o+vs.length
   ·rw[ac hin]at hk;have hlt:k-o<vs.length:=by omega
    rw[List.getElem?_eq_getElem hlt]at hk;obtain rfl:=af hk;exact ea hb (List.getElem?_eq_getElem hlt)
   ·rw[ab hin]at hk;exact hold k v (by rw[cd,ac hkn];exact hk)
  ·cases hk
 ·have hsp:=nU (E.β b+o) (aw E vs) 0 arr;refine⟨_,_,rfl,⟨fun k v hk=>?_,?_,?_,hr.plain⟩⟩
  ·rw[cd,dq]at hk;split at hk
   ·rename_i hkn;show(ep arr (E.β b+o) (aw E vs) 0)[E.β b+k]?=_;unfold ep;rw[hsp.2 (E.β b+k) (by omega),hlen,bT];by_cases hin:o≤k∧k<o+vs.length
    ·rw[ac hin]at hk;rw[ac (by omega),show E.β b+k-(E.β b+o)=k-o by omega];have hlt:k-o<vs.length:=by omega
     rw[List.getElem?_eq_getElem hlt]at hk;obtain rfl:=af hk;exact eg (List.getElem?_eq_getElem hlt)
    ·rw[ab hin]at hk;rw[ab (by omega)];exact hr.cell k v (by rw[cd,ac hkn];exact hk)
   ·cases hk
  ·show if ex then E.β b=0∧(ep arr (E.β b+o) (aw E vs) 0).size=n else(ep arr (E.β b+o) (aw E vs) 0).size=E.β b+n+E.κ b*P.cellsOf ty
   unfold ep;rw[hsp.1];exact hr.size
  ·show uD fr (E.β b+fz) (ep arr (E.β b+o) (aw E vs) 0).size;unfold ep;rw[hsp.1];exact hr.free
structure j2(c:Nat→Prop)(ct:Nat)(c':Nat→Prop)(ct':Nat):Prop where
 le:ct≤ct'
 new:∀b,c' b→c b∨(ct≤b∧b<ct')
theorem j2.refl(c:Nat→Prop)(ct:Nat):j2 c ct c ct:=⟨ah _,fun _ h=> .inl h⟩
theorem j2.trans{c c₁ c₂:Nat→Prop}{n n₁ n₂:Nat}(h:j2 c n c₁ n₁)(h':j2 c₁ n₁ c₂ n₂):j2 c n c₂ n₂:=
 ⟨bn h.le h'.le,fun b hb=>by
  have l1:=h.le;have l2:=h'.le;rcases h'.new b hb with hb|hb
  ·rcases h.new b hb with hb|hb
   ·exact .inl hb
   ·exact .inr (by omega)
  ·exact .inr (by omega)⟩
def fZ(c:Nat→Prop)(ct:Nat):Prop:=∀b,ct≤b→ ¬c b
theorem fZ.grow{c c':Nat→Prop}{n n':Nat}(h:fZ c n)(g:j2 c n c' n'):fZ c' n':=fun b hb hc=>by
 have:=g.le
 rcases g.new b hc with h1|h1
 ·exact h b (by omega) h1
 ·omega
abbrev DA(P:Program)(F:RO)(E:cE)(M:Mem)(c:Nat→Prop)(ct:Nat)(w:World)(a:Act)(o:Oper)(v:V)(M':Mem)(ct':Nat):Prop:=
 ∃E' w' nx c',(execOp a.eval o).run P w= .ok nx w'∧NV nx (conc E' v)∧lw P F E M c w E' M' c' w'∧bd c' v∧j2 c ct c' ct'
theorem bg7{v:V}{g:Nat→Nat→RC}{x:V}{M':Mem}{c':Nat}(h:rX v .f g= .k x M' c'):∃b o,v= .p b o∧g b o= .k x M' c':=by
 cases v with
 |p b o=>exact⟨b,o,rfl,h⟩
 |_=>cases(show RC.f= .k x M' c' from h)
theorem ai3(h:Cx P E F M c w t a){o:Oper}{ty:TypeId}{y z:Operand}(hop:o.op= .store ty y z){eo:EO}(hc:aB P o.op=some (.e eo)){k:Kn}(hk:k.F=F){v:V}{M':Mem}{ct ct':Nat}(he:gG eo k M ct t= .k v M' ct'):DA P F E M c ct w a o v M' ct':=by
 rw[hop]at hc
 simp only[aB]at hc
 split at hc
 ·rename_i n xa xv hs h1 h2;obtain rfl:EO.st n xa xv=eo:=by simpa using hc
  have e1:=h.ev h1;have e2:=h.ev h2;obtain⟨b,off,hv,hg⟩:=bg7 (show rX (xa.ev t) .f (fun b o=>yz n b o (flatten (xv.ev t)) M ct)= .k v M' ct' from he);unfold yz at hg;rw[bb,bp]at hg;split at hg
  ·rename_i hn;have hn:(flatten (xv.ev t)).length=n:=bc hn;unfold er at hg;cases hst:cC M b off (flatten (xv.ev t))with
   |none=>rw[hst]at hg;cases(show RC.f= .k v M' ct' from hg)
   |some M''=>
    rw[hst]at hg;have hg':RC.k undef M'' ct= .k v M' ct':=hg;injection hg' with g1 g2 g3
    subst g1 g2 g3;obtain⟨w',hrun,hS⟩:=h.store hst (dT e2.2);rw[hv]at e1;refine⟨E,w',.skip,c,?_,.inr ⟨rfl,rfl⟩,hS,trivial,.refl _ _⟩;have hcs:(a.eval z).cells.size=n:=by rw[e2.1,bX];simp[aZ,hn]
    have hcl:(a.eval z).cells.toList=aw E (flatten (xv.ev t)):=by rw[e2.1,bX]
    simp only[execOp,hop,e1.1,conc,Instr.storeAt,Instr.sureAddr,storeVar,aE,aA,aI,hcs,dF hs,ne_eq,not_true_eq_false,if_false,Sem.run_ite,hcl,hrun]
  ·cases hg
 ·cases hc
end
theorem wB(E:cE)(k v:V):∀(es:List (V×V×Nat)) (i:Nat),(jV k v es i).map (entry E)=(es.map (entry E)).modify i fun e=>{e with key:=conc E k,val:=conc E v}
 |[],i=>by simp[jV]
 |(k',v',b)::es,0=>by simp[jV,entry]
 |(k',v',b)::es,i+1=>by simp[jV,wB E k v es i]
theorem wC(k v:V):∀(es:List (V×V×Nat)) (i:Nat) (e:V×V×Nat),e∈jV k v es i→e∈es∨(e.1=k∧e.2.1=v)
 |[],i,e,h=>by simp[jV]at h
 |(k',v',b)::es,0,e,h=>by
  simp only[jV,bj]at h;rcases h with rfl|h
  ·exact .inr ⟨rfl,rfl⟩
  ·exact .inl (by simp[h])
 |(k',v',b)::es,i+1,e,h=>by
  simp only[jV,bj]at h;rcases h with rfl|h
  ·exact .inl (by simp)
  ·rcases wC k v es i e h with h|h
   ·exact .inl (by simp[h])
   ·exact .inr h
theorem wF(x:V×V×Nat):∀es,D7 x es=es++[x]
 |[]=>rfl
 |h::r=>by rw[D7,wF x r];rfl
section
variable{P:Program}{E:cE}{F:RO}{M:Mem}{c:Nat→Prop}{w:World}{t:T}{a:Act}
theorem Fb{sh:Sh}{x y:V}(h:nb sh x y=some true):conc E y=conc E x∧Instr.sameBits 10000 (conc E x) (conc E x)=true:=by
 unfold nb at h
 split at h
 ·rename_i k m k' n;rw[eX]at h;by_cases hk:k=k'
  ·rw[ae hk,cond_true,cB]at h;have hm:m=n:=by simpa using h
   subst hk hm;exact⟨rfl,by simp[conc,Instr.sameBits]⟩
  ·rw[ag hk]at h;cases h
 ·rename_i n x m y;rw[jy]at h;have hb:bl n x=bl m y:=by simpa using h
  refine⟨by simp only[conc,ba,hb],?_⟩;have:=Ej n x n x;simp only[conc,Instr.sameBits,this,decide_true]
 ·rename_i x y;have hxy:x=y:=by simpa using h
  subst hxy;exact⟨rfl,by simp[conc,Instr.sameBits]⟩
 ·cases h
theorem YF{v:V}{g:Nat→RC}{x:V}{M':Mem}{c':Nat}(h:onM v .f g= .k x M' c'):∃b,v= .m b∧g b= .k x M' c':=by
 cases v with
 |m b=>exact⟨b,rfl,h⟩
 |_=>cases(show RC.f= .k x M' c' from h)
theorem qd{o:Option bq}{g:List (V×V×Nat)→Nat→RC}{x:V}{M':Mem}{c':Nat}(h:oH o .f g= .k x M' c'):∃es k,o=some (.map es k)∧g es k= .k x M' c':=by
 cases o with
 |none=>cases(show RC.f= .k x M' c' from h)
 |some b=>cases b with
  |map es k=>exact⟨es,k,rfl,h⟩
  |_=>cases(show RC.f= .k x M' c' from h)
theorem gh(M:Mem)(c b:Nat)(blk:bq)(v:V):wD M c b blk v= .k v (M.set b blk) c:=Tr.force_eq _ _
theorem gq{r:Nat}{o o':Obj}(h:w.heap[r]?=some o)(hn:∀x y z,o≠ .cells x y z):(setObj r o').run P w= .ok () {w with heap:=w.heap.setIfInBounds r o'}:=by
 simp only[setObj,Sem.run,h]
theorem bf6(h:Cx P E F M c w t a){ty kt et:TypeId}(hu:P.underlying ty=some (.map kt et)){sh:Sh}(hks:tf P kt=some sh){b:Nat}{es:List (V×V×Nat)}{clock:Nat}(hM:M.get b=some (.map es clock)){k v x:V}(hbk:bd c k)(hbv:bd c v){M':Mem}{ct ct':Nat}
 (he:L6 M ct b es clock k v (oK sh k es 0)= .k x M' ct'):∃w',(Instr.mapUpdate ty (.map (some (E.ρ b))) (conc E k) (conc E v)).run P w= .ok () w'∧lw P F E M c w E M' c w'∧x=undef∧ct'=ct:=by
 obtain⟨d,hd,hkk⟩:=pE hks
 obtain⟨ho,hbd⟩:=h.map (aq hM)
 unfold L6 at he
 split at he
 ·rename_i i v0 hf;rw[gh]at he;injection he with g1 g2 g3
  subst g1 g2 g3;have hfk:=gw (P:=P) (w:=w) (E:=E) hd hkk hf;obtain⟨_,k',b',hm,hkt⟩:=(nT (E:=E) hkk es 0 _ hf).2 (i,v0) rfl;obtain⟨hke,hsb⟩:=Fb (E:=E) hkt;have hget:((es.map (entry E)).toArray[i]?).map (·.key)=some (conc E k):=by
   simp only[Nat.sub_zero]at hm;simp[hm,entry,hke]
  refine⟨_,?_,h.rel.write b _ (.map (jV k v es i) clock) hM (.map (((es.map (entry E)).modify i fun e=>{e with key:=conc E k,val:=conc E v}).toArray) clock) ?_ {w with heap:=w.heap.setIfInBounds (E.ρ b) (.map (((es.map (entry E)).modify i fun e=>{e with key:=conc E k,val:=conc E v}).toArray) clock)} rfl rfl rfl rfl ?_,rfl,rfl⟩
  ·have hso:=gq (P:=P) (w:=w) (o':= .map (((es.map (entry E)).modify i fun e=>{e with key:=conc E k,val:=conc E v}).toArray) clock) ho (by intros;simp);simp only[Instr.mapUpdate,aE,ay hu,aI,cA ho,eG hd hkk,List.toList_toArray,hfk,Option.map_some,hget,Option.getD_some,Instr.keyThatStays,hsb,if_true,Sem.run_ite,aA];rw[←hso]
   congr 2
   simp
  ·intro e hemem;rcases wC k v es i e hemem with h1|⟨h1,h2⟩
   ·exact hbd e h1
   ·exact⟨h1▸hbk,h2▸hbv⟩
  ·show _=_;rw[wB]
 ·rename_i hf;rw[aN,gh]at he;injection he with g1 g2 g3
  subst g1 g2 g3;have hfk:=gw (P:=P) (w:=w) (E:=E) hd hkk hf;refine⟨_,?_,h.rel.write b _ (.map (D7 (k,v,clock) es) (clock+1)) hM (.map ((es.map (entry E)).toArray.push {key:=conc E k,val:=conc E v,born:=clock}) (clock+1)) ?_ {w with heap:=w.heap.setIfInBounds (E.ρ b) (.map ((es.map (entry E)).toArray.push {key:=conc E k,val:=conc E v,born:=clock}) (clock+1))} rfl rfl rfl rfl ?_,rfl,rfl⟩
  ·have hso:=gq (P:=P) (w:=w) (o':= .map ((es.map (entry E)).toArray.push {key:=conc E k,val:=conc E v,born:=clock}) (clock+1)) ho (by intros;simp);simp only[Instr.mapUpdate,aE,ay hu,aI,cA ho,eG hd hkk,List.toList_toArray,hfk,Option.map_none,hso]
  ·intro e hemem;rw[wF,List.mem_append,List.mem_singleton]at hemem;rcases hemem with h1|rfl
   ·exact hbd e h1
   ·exact⟨hbk,hbv⟩
  ·show _=_;rw[wF];simp[entry]
 ·cases he
theorem sY(h:Cx P E F M c w t a){o:Oper}{ty:TypeId}{m y z:Operand}(hop:o.op= .mapUpdate ty m y z∨o.op= .insert ty m y z){eo:EO}(hc:aB P o.op=some (.e eo)){k:Kn}(hk:k.F=F){v:V}{M':Mem}{ct ct':Nat}(he:gG eo k M ct t= .k v M' ct'):DA P F E M c ct w a o v M' ct':=by
 have hc':(match P.underlying ty,aY m,aY y,aY z with
  |some (.map kt _),some m,some k,some v=>(tf P kt).map fun sh=>OK.e (.mu sh m k v)
  |_,_,_,_=>none)=some (.e eo):=by rcases hop with hop|hop<;>(rw[hop]at hc;exact hc)
 split at hc'
 ·rename_i kt et xm xk xv hu h1 h2 h3;obtain⟨sh,hks,e⟩:=b9.1 hc';obtain rfl:EO.mu sh xm xk xv=eo:=by simpa using e
  obtain⟨b,hv,hg⟩:=YF (show onM (xm.ev t) .f (fun b=>oH (M.get b) .f fun es clock=>L6 M ct b es clock (xk.ev t) (xv.ev t) (oK sh (xk.ev t) es 0))= .k v M' ct' from he);obtain⟨es,clock,hM,hg⟩:=qd hg;have e1:=h.ev h1;have e2:=h.ev h2;have e3:=h.ev h3;rw[hv]at e1;obtain⟨w',hrun,hS,rfl,rfl⟩:=bf6 h hu hks hM e2.2 e3.2 hg;refine⟨E,w',.skip,c,?_,.inr ⟨rfl,rfl⟩,hS,trivial,.refl _ _⟩;rcases hop with hop|hop<;>simp only[execOp,hop,e1.1,e2.1,e3.1,conc,aE,hrun,aI,aA]
 ·cases hc'
end
theorem vo(E:cE):∀(es:List (V×V×Nat)) (i:Nat),(jL es i).map (entry E)=(es.map (entry E)).eraseIdx i
 |[],i=>by simp[jL]
 |h::es,0=>by simp[jL]
 |h::es,i+1=>by simp[jL,vo E es i]
theorem vp:∀(es:List (V×V×Nat)) (i:Nat) (e:V×V×Nat),e∈jL es i→e∈es
 |[],i,e,h=>by simp[jL]at h
 |x::es,0,e,h=>by simp only[jL]at h;simp[h]
 |x::es,i+1,e,h=>by
  simp only[jL,bj]at h;rcases h with rfl|h
  ·simp
  ·simp[vp es i e h]
section
variable{P:Program}{E:cE}{F:RO}{M:Mem}{c:Nat→Prop}{w:World}{t:T}{a:Act}
theorem Pc{r:Nat}{o:Obj}(h:w.heap[r]?=some o):w.heap.setIfInBounds r o=w.heap:=by
 apply Array.ext_getElem?
 intro j
 by_cases e:r=j
 ·subst e;have hlt:=(Array.getElem?_eq_some_iff.1 h).1;rw[h];simp[hlt]
 ·rw[Array.getElem?_setIfInBounds_ne e]
theorem XP(h:Cx P E F M c w t a){o:Oper}{cl:Call}(hop:o.op= .call cl)(hb:cl.callee= .builtin .delete){m y:Operand}{ty:TypeId}{ts:List TypeId}(hargs:cl.args.toList=[m,y])(htys:cl.argTypes.toList=ty::ts){kt et:TypeId}(hu:P.underlying ty=some (.map kt et)){sh:Sh}(hks:tf P kt=some sh)
 {xm xk:X} (h1:aY m=some xm) (h2:aY y=some xk) {k:Kn} {v:V} {M':Mem} {ct ct':Nat} (he:gG (.del sh xm xk) k M ct t= .k v M' ct'):DA P F E M c ct w a o v M' ct':=by
 obtain⟨b,hv,hg⟩:=YF (show onM (xm.ev t) .f (fun b=>oH (M.get b) .f fun es clock=>ES M ct b es clock (oK sh (xk.ev t) es 0))= .k v M' ct' from he)
 obtain⟨es,clock,hM,hg⟩:=qd hg
 obtain⟨d,hd,hkk⟩:=pE hks
 obtain⟨ho,hbd⟩:=h.map (aq hM)
 have e1:=h.ev h1
 have e2:=h.ev h2
 rw[hv]at e1
 have hat:cl.argTypes[0]?=some ty:=by rw[dO htys];rfl
 unfold ES at hg
 split at hg
 ·rename_i i v0 hf;rw[gh]at hg;injection hg with g1 g2 g3
  subst g1 g2 g3;have hfk:=gw (P:=P) (w:=w) (E:=E) hd hkk hf;have hso:=gq (P:=P) (w:=w) (o':= .map ((es.map (entry E)).toArray.eraseIdxIfInBounds i) clock) ho (by intros;simp);refine⟨E,{w with heap:=w.heap.setIfInBounds (E.ρ b) (.map ((es.map (entry E)).toArray.eraseIdxIfInBounds i) clock)},.value (.tuple #[]),c,bJ hop hb hargs ?_,.inl rfl,h.rel.write b _ (.map (jL es i) clock) hM (.map ((es.map (entry E)).toArray.eraseIdxIfInBounds i) clock) ?_ _ rfl rfl rfl rfl ?_,trivial,.refl _ _⟩
  ·simp only[builtin];refine aG ?_;simp only[Builtin.delete_,hat,e1.1,e2.1,conc,List.map_cons,List.map_nil,List.getElem?_toArray,List.getElem?_cons_zero,List.getElem?_cons_succ,aE,ay hu,aI,cA ho,eG hd hkk,List.toList_toArray,hfk,Option.map_some,hso,aA]
  ·exact fun e hemem=>hbd e (vp es i e hemem)
  ·show _=_;rw[vo];simp
 ·rename_i hf;injection hg with g1 g2 g3
  subst g1 g2 g3;have hfk:=gw (P:=P) (w:=w) (E:=E) hd hkk hf;have hso:=gq (P:=P) (w:=w) (o':= .map (es.map (entry E)).toArray clock) ho (by intros;simp);rw[Pc ho]at hso;refine⟨E,w,.value (.tuple #[]),c,bJ hop hb hargs ?_,.inl rfl,.refl h.rel,trivial,.refl _ _⟩;simp only[builtin];refine aG ?_;simp only[Builtin.delete_,hat,e1.1,e2.1,conc,List.map_cons,List.map_nil,List.getElem?_toArray,List.getElem?_cons_zero,List.getElem?_cons_succ,aE,ay hu,aI,cA ho,eG hd hkk,List.toList_toArray,hfk,Option.map_none,hso,aA]
 ·cases hg
theorem bc7(h:Cx P E F M c w t a){o:Oper}{s:TypeId}{y:Operand}(hop:o.op= .convert s s y){el:TypeId}(hu:P.underlying s=some (.slice el))(hel:P.underlying el=some (.int .u8)){x:X}(hx:aY y=some x)
 {k:Kn} {v:V} {M':Mem} {ct ct':Nat} (he:gG (.ms x) k M ct t= .k v M' ct'):DA P F E M c ct w a o v M' ct':=by
 have he':ah9 x k.F M ct t= .k v M' ct':=he
 unfold ah9 at he'
 split at he'
 ·rename_i b off n cp hv;unfold bW7 at he';split at he'
  ·rename_i ty m d cs hM;rw[gh]at he';injection he' with g1 g2 g3
   subst g1 g2 g3;have e:=h.ev hx;rw[hv]at e;obtain⟨arr,fr,ho,hr⟩:=h.cells (aq hM);have hsz:=hr.size;simp only[if_true]at hsz;have hfr:fr.1=fr.2:=by
    rcases hr.plain rfl with e|⟨e,_⟩
    ·exact e
    ·exact absurd rfl e
   have hshape:w.shape? (E.ρ b)=some (ty,m):=by simp[World.shape?,ho,hsz.2]
   have hfz:w.freeze ⟨E.ρ b,m,none⟩ 1={w with heap:=w.heap.setIfInBounds (E.ρ b) (.cells arr ty (m,m+1))}:=by
    unfold World.freeze;rw[ab (by decide),rU _ ho];simp[hfr]
   refine⟨E,{w with heap:=w.heap.setIfInBounds (E.ρ b) (.cells arr ty (m,m+1))},.value (conc E (.l b off n cp)),c,?_,.inl rfl,h.rel.write b _ _ hM (.cells arr ty (m,m+1)) ?_ _ rfl rfl rfl rfl ?_,e.2,.refl _ _⟩
   ·simp only[execOp,hop];refine aG ?_;rw[e.1];simp only[convert,aE,ay hu,aI,conc,beq_self_eq_true,ay hel,markStringish,run_shape,hshape,run_freeze,hfz,aA]
   ·exact(h.rel.has _ _ (aq hM)).2.1
   ·refine⟨arr,_,rfl,⟨hr.cell,hr.size,?_,fun hf=>by cases hf⟩⟩;intro o' _ ho' hf;have:=hf.1;simp only at this;omega
  ·cases he'
 ·cases he'
end
section
variable{P:Program}{E:cE}{F:RO}{M:Mem}{c:Nat→Prop}{w:World}{t:T}{a:Act}
theorem Cx.world{w':World}(h:Cx P E F M c w t a)(hh:w'.heap=w.heap):Cx P E F M c w' t a:=⟨h.rel.world hh,h.glob,h.big,h.tr,h.bt⟩
theorem jl.drop(h:jl P E F M c w)(b:Nat):lw P F E M c w E (M.del b) c w:=by
 have hl:∀x y,look F (M.del b) x=some y→look F M x=some y∨(x=b∧aV F x=some y):=by
  intro x y hx;by_cases e:x=b
  ·right;refine⟨e,?_⟩
   rwa [aC (by rw[Tr.get_del,ac e])]at hx
  ·left
   rwa [eH (M:=M) (by rw[Tr.get_del,ab e])]at hx
 have hl':∀x y,look F (M.del b) x=some y→look F M x=some y:=by
  intro x y hx;rcases hl x y hx with h1|⟨h1,h2⟩
  ·exact h1
  ·rw[aC (h.apart x (by rw[h2];rfl))];exact h2
 have hs:∀x,(look F (M.del b) x).isSome→(look F M x).isSome:=by
  intro x hx;obtain⟨y,hy⟩:=bm.1 hx;rw[hl' x y hy];rfl
 refine⟨.refl c E,fun _ h=>h,⟨fun x y hx=>h.has x y (hl' x y hx),fun x x' hx hx' e=>h.inj x x' (hs x hx) (hs x' hx') e,fun x hx=>?_⟩,fun x hx=>?_,fun _ _ _=>rfl,ah _,rfl,rfl,rfl⟩
 ·rw[Tr.get_del];split
  ·rfl
  ·exact h.apart x hx
 ·rw[Tr.get_del]at hx;split at hx
  ·cases hx
  ·exact .inl ⟨x,hx,rfl⟩
theorem jl.take(h:jl P E F M c w)(b n:Nat)(blk blk':bq)(hb:M.get b=some blk)(o':Obj)(β' κ':Nat)(c':Nat→Prop)(hn:¬c n)(hn':c' n)(hcc:∀b,c b→c' b)
 (hbd:f6 c' blk') (w':World) (hh:w'.heap=w.heap.setIfInBounds (E.ρ b) o') (hos:w'.os=w.os) (hout:w'.output=w.output) (htape:w'.tape=w.tape)
 (hr:∀E':cE,pT c E E'→E'.ρ n=E.ρ b→E'.β n=β'→E'.κ n=κ'→eY P E' n blk' o'):
 ∃E',lw P F E M c w E' ((M.del b).set n blk') c' w'∧E'.ρ n=E.ρ b∧E'.β n=β'∧E'.κ n=κ':=by
 let E':cE:=⟨fun x=>if x=n then E.ρ b else E.ρ x,fun x=>if x=n then β' else E.β x,fun x=>if x=n then κ' else E.κ x⟩
 have he:pT (· ≠n) E E':=⟨fun x hx=>ab hx,fun x hx=>ab hx,fun x hx=>ab hx⟩
 have hec:pT c E E':=he.sub fun x hx e=>hn (e▸hx)
 have hρ:E'.ρ n=E.ρ b:=ac rfl
 have hbc:=(h.has b blk (aq hb)).1
 have hbn:b≠n:=fun e=>hn (e▸hbc)
 have hlt:E.ρ b<w.heap.size:=by
  obtain⟨_,_,o,ho,_⟩:=h.has b blk (aq hb);exact(Array.getElem?_eq_some_iff.1 ho).1
 have hold:∀x y,look F ((M.del b).set n blk') x=some y→x≠n→x≠b∧look F M x=some y:=by
  intro x y hx hne;rw[eH (M:=M.del b) (by rw[Tr.get_set,ab hne])]at hx;by_cases e:x=b
  ·exfalso;rw[aC (by rw[Tr.get_del,ac e])]at hx;have:=h.apart x (by rw[hx];rfl);rw[e,hb]at this;cases this
  ·exact⟨e,by rwa [eH (M:=M) (by rw[Tr.get_del,ab e])]at hx⟩
 refine⟨E',⟨hec,hcc,⟨?_,?_,?_⟩,?_,?_,?_,hos,hout,htape⟩,hρ,ac rfl,ac rfl⟩
 ·intro x y hx;by_cases hxn:x=n
  ·subst hxn;rw[aq (by rw[Tr.get_set,ac rfl])]at hx;obtain rfl:blk'=y:=by simpa using hx
   exact⟨hn',hbd,o',by rw[hρ,hh];simp[hlt],hr E' hec hρ (ac rfl) (ac rfl)⟩
  ·obtain⟨hxb,hx'⟩:=hold x y hx hxn;obtain⟨h1,h2,o,h3,h4⟩:=h.has x y hx';refine⟨hcc x h1,fq hcc y h2,o,?_,h4.ext hec h1 h2⟩;have hne:E.ρ b≠E.ρ x:=fun e'=>hxb (h.inj b x (by rw[aq hb];rfl) (by rw[hx'];rfl) e').symm;rw[hec.ρ x h1,hh,Array.getElem?_setIfInBounds_ne hne];exact h3
 ·have key:∀x y,look F ((M.del b).set n blk') x=some y→x≠n→E'.ρ x≠E.ρ b:=by
   intro x y hx hxn e;obtain⟨hxb,hx'⟩:=hold x y hx hxn;rw[hec.ρ x (h.has x y hx').1]at e;exact hxb (h.inj x b (by rw[hx'];rfl) (by rw[aq hb];rfl) e)
  intro x x' hx hx' e;obtain⟨y,hy⟩:=bm.1 hx;obtain⟨y',hy'⟩:=bm.1 hx';by_cases h1:x=n
  ·by_cases h2:x'=n
   ·rw[h1,h2]
   ·rw[h1,hρ]at e;exact absurd e.symm (key x' y' hy' h2)
  ·by_cases h2:x'=n
   ·rw[h2,hρ]at e;exact absurd e (key x y hy h1)
   ·obtain⟨_,g1⟩:=hold x y hy h1;obtain⟨_,g2⟩:=hold x' y' hy' h2;rw[hec.ρ x (h.has x y g1).1,hec.ρ x' (h.has x' y' g2).1]at e;exact h.inj x x' (by rw[g1];rfl) (by rw[g2];rfl) e
 ·intro x hx;have hM:=h.apart x hx;obtain⟨y,hy⟩:=bm.1 hx;have hxc:=(h.has x y (by rw[aC hM];exact hy)).1;rw[Tr.get_set,ab (fun e:x=n=>hn (e▸hxc)),Tr.get_del];split
  ·rfl
  ·exact hM
 ·intro x hx;by_cases hxn:x=n
  ·exact .inl ⟨b,by rw[hb];rfl,by rw[hxn,hρ]⟩
  ·rw[Tr.get_set,ab hxn,Tr.get_del]at hx;split at hx
   ·cases hx
   ·obtain⟨y,hy⟩:=bm.1 hx;exact .inl ⟨x,hx,(hec.ρ x (h.has x y (aq hy)).1).symm⟩
 ·intro r _ hnr;have hne:E.ρ b≠r:=hnr b (by rw[hb];rfl);rw[hh,Array.getElem?_setIfInBounds_ne hne]
 ·rw[hh];simp
def lx(P:Program)(ats:Array TypeId):Prop:=(∃t2 d,ats[1]?=some t2∧P.underlying t2=some d∧ ∀k,d≠ .int k)∨ats[1]?=none
theorem mj{ats:Array TypeId}{rty ty e:TypeId}{i:TypeInfo}{z:Value}(hat:ats[0]?=some ty)(hu:P.underlying ty=some (.slice e))(hzs:lx P ats)(hi:P.info? e=some i)(hz:i.zero=some z)
 {X:Value} {base:Option Addr} {sLen sCap n:Nat} {old new:Array Value} (hlen:(Builtin.lenOf X).run P w= .ok n w) (hold:(Builtin.firstCells i.size sLen (.slice base sLen sCap)).run P w.drew= .ok old w.drew)
 (hnew:(Builtin.firstCells i.size n X).run P w.drew= .ok new w.drew) (hg:sCap<sLen+n) (h63:sLen+n≤9223372036854775807) (h48:Builtin.nextslicecap (sLen+n) sCap*i.bytes≤281474976710656):
 (Builtin.append_ ats rty #[.slice base sLen sCap,X]).run P w= .ok (.slice (some ⟨w.heap.size,0,none⟩) (sLen+n) (grownCap w (sLen+n) sCap e))
  (w.drew.alloc (.cells (old++new++Builtin.zeroCells z.cells (grownCap w (sLen+n) sCap e-(sLen+n))) e)):=by
 have hn:¬(sLen+n≤sCap):=by omega
 have h63':¬(9223372036854775807<((sLen:Int)+(n:Int))):=by omega
 have h48':¬(281474976710656<Builtin.nextslicecap (sLen+n) sCap*i.bytes):=by omega
 rcases hzs with⟨t2,d,h1,h2,h3⟩|h1
 ·have hd:(d matches .int _)=false:=by cases d<;>first|rfl|exact absurd rfl (h3 _)
  simp[Builtin.append_,hat,h1,run_underlying hu,run_underlying h2,hd,Go.sizeOf,typeInfo,zeroValue,hi,hz,hlen,hn,h63',h48',Question.forced,hold,hnew,newRow,grownCap]
 ·simp[Builtin.append_,hat,h1,run_underlying hu,Go.sizeOf,typeInfo,zeroValue,hi,hz,hlen,hn,h63',h48',Question.forced,hold,hnew,newRow,grownCap]
theorem iJ{ats:Array TypeId}{rty ty e:TypeId}{i:TypeInfo}(hat:ats[0]?=some ty)(hu:P.underlying ty=some (.slice e))(hzs:lx P ats)(hi:P.info? e=some i)
 {X:Value} {ad:Addr} {sLen sCap n:Nat} {new:Array Value} {w':World} (hlen:(Builtin.lenOf X).run P w= .ok n w)
 (hnew:(Builtin.firstCells i.size n X).run P w= .ok new w) (hg:sLen+n≤sCap) (hst:(storeCells (ad.add (sLen*i.size)) new.toList).run P w= .ok () w'):
 (Builtin.append_ ats rty #[.slice (some ad) sLen sCap,X]).run P w= .ok (.slice (some ad) (sLen+n) sCap) w':=by
 rcases hzs with⟨t2,d,h1,h2,h3⟩|h1
 ·have hd:(d matches .int _)=false:=by cases d<;>first|rfl|exact absurd rfl (h3 _)
  simp[Builtin.append_,hat,h1,run_underlying hu,run_underlying h2,hd,Go.sizeOf,typeInfo,hi,hlen,hg,hnew,hst]
 ·simp[Builtin.append_,hat,h1,run_underlying hu,Go.sizeOf,typeInfo,hi,hlen,hg,hnew,hst]
theorem tN{ats:Array TypeId}{rty ty e:TypeId}{i:TypeInfo}(hat:ats[0]?=some ty)(hu:P.underlying ty=some (.slice e))(hzs:lx P ats)(hi:P.info? e=some i)
 {X:Value} {base:Option Addr} {sLen sCap:Nat} (hlen:(Builtin.lenOf X).run P w= .ok 0 w)
 (hnew:(Builtin.firstCells i.size 0 X).run P w= .ok #[] w) (hg:sLen≤sCap):
 (Builtin.append_ ats rty #[.slice base sLen sCap,X]).run P w= .ok (.slice base sLen sCap) w:=by
 rcases hzs with⟨t2,d,h1,h2,h3⟩|h1
 ·have hd:(d matches .int _)=false:=by cases d<;>first|rfl|exact absurd rfl (h3 _)
  cases base<;>simp[Builtin.append_,hat,h1,run_underlying hu,run_underlying h2,hd,Go.sizeOf,typeInfo,hi,hlen,hg,hnew,storeCells]
 ·cases base<;>simp[Builtin.append_,hat,h1,run_underlying hu,Go.sizeOf,typeInfo,hi,hlen,hg,hnew,storeCells]
theorem Zo(h:Cx P E F M c w t a){sz n:Nat}{y:V}{new:List V}(hs:gd F M sz y=some (n,new)):
 (Builtin.lenOf (conc E y)).run P w= .ok n w∧(Builtin.firstCells sz n (conc E y)).run P w= .ok (aw E new).toArray w∧fE c new:=by
 unfold gd at hs
 split at hs
 ·rename_i m x;rw[bp]at hs;by_cases h1:sz=1
  ·rw[ae h1,cond_true]at hs;simp only[Option.some.injEq,Prod.mk.injEq]at hs;obtain⟨rfl,rfl⟩:=hs;refine⟨by simp[conc,Builtin.lenOf,d8],?_,lI _ _⟩;simp only[conc,Builtin.firstCells,aA,jG]
   congr 1
   have he:(ba m x).extract 0 m=ba m x:=by
    apply ByteArray.ext;rw[ByteArray.data_extract];have h2:=Array.extract_size (xs:=(ba m x).data);have h3:(ba m x).data.size=m:=d8 m x
    rwa [h3]at h2
   rw[he];simp[ba]
  ·rw[ag h1]at hs;cases hs
 ·rename_i y' hne;split at hs
  ·rename_i k hk;unfold aq2 at hs;split at hs
   ·rename_i vs r hr;simp only[Option.some.injEq,Prod.mk.injEq]at hs;obtain⟨rfl,rfl⟩:=hs;obtain⟨⟨ad,len,cap,hcv,hld⟩,hb,hl⟩:=h.readL hr;rcases iy (E:=E) hk with⟨ad',cap',hcv'⟩|⟨x,hx⟩
    ·rw[hcv]at hcv';injection hcv' with e1 e2 e3
     subst e1 e2 e3;rw[hcv];refine⟨by simp[Builtin.lenOf],?_,hb⟩;cases ad with
     |none=>simp only at hld;subst hld;simp[Builtin.firstCells,aw]
     |some ad=>simp only[Builtin.firstCells];exact hld
    ·exact absurd hx (hne _ _)
   ·cases hs
  ·cases hs
theorem Dw{e sz:Nat}{i:TypeInfo}(hi:P.info? e=some i)(h:zOk P e sz=true):∃z,i.zero=some z∧z.cells.size=sz:=by
 unfold zOk at h
 split at h
 ·rename_i z hz;unfold my at hz;rw[hi]at hz;obtain⟨zv,h1,h2⟩:=aR.1 hz;have h1':i.zero=some zv:=by simpa using h1
  have:=(nF ⟨id,id,id⟩ (fun _=>True) _ _ _ h2).1;refine⟨zv,h1',?_⟩;rw[←this,bX,←cG];simp[aZ]
  simpa using h
 ·cases h
theorem nQ(zero:Array Value)(n:Nat):(Builtin.zeroCells zero n).size=n*zero.size:=by simp[Builtin.zeroCells]
theorem gM(E:cE)(l r:List V):aw E (l++r)=aw E l++aw E r:=by simp[aZ]
theorem ip{l r:List V}(h:fE c l)(h':fE c r):fE c (l++r):=by
 rw[kq]at *
 intro v hv
 rcases List.mem_append.1 hv with hv|hv
 ·exact h v hv
 ·exact h' v hv
theorem Ou{E':cE}{b e len fz cap:Nat}{str:Bool}{vs:List V}{zero:Array Value}(he:pT c E E')(hb:fE c vs)(hβ:E'.β b=0)(hκ:E'.κ b=cap-len)(hl:vs.length=len*P.cellsOf e)(hc:len≤cap)(hz:zero.size=P.cellsOf e):
 eY P E' b (.cells e vs.length false fz str [] (aW vs 0 .e)) (.cells ((aw E vs).toArray++Builtin.zeroCells zero (cap-len)) e):=by
 refine⟨_,_,rfl,⟨fun k v hk=>?_,?_,?_,fun _=> .inl rfl⟩⟩
 ·have hk':=jx hk;have hlt:k<vs.length:=(List.getElem?_eq_some_iff.1 hk').1;rw[hβ,Nat.zero_add,dv he v (ea hb hk'),Array.getElem?_append_left (by simpa [aZ]using hlt)];simp[eg hk']
 ·simp only[aS,if_false];rw[Array.size_append,nQ,hβ,hκ,hz];simp[aZ]
 ·intro o _ ho hf;have h1:=hf.1;have h2:=hf.2;simp only at h1 h2;omega
end
section
variable{P:Program}{E:cE}{F:RO}{M:Mem}{c:Nat→Prop}{w:World}{t:T}{a:Act}
abbrev tD(P:Program)(F:RO)(E:cE)(M:Mem)(c:Nat→Prop)(ct:Nat)(w:World)(s:Sem Value)(v:V)(M':Mem)(ct':Nat):Prop:=
 ∃E' w' c',s.run P w= .ok (conc E' v) w'∧lw P F E M c w E' M' c' w'∧bd c' v∧j2 c ct c' ct'
theorem CY{len by_:Nat}(h:kP len by_=true):(3*len+2000)*by_≤281474976710656∧len≤1099511627776:=by
 unfold kP at h
 rw[bL,bL]at h
 simpa using h
theorem vD{M0:Mem}{ct e by_ len fz:Nat}{str:Bool}{vs:List V}{v:V}{M':Mem}{ct':Nat}(h:kC M0 ct e by_ len fz str vs= .k v M' ct'):
 kP len by_=true∧v= .u ct 0 len 0 len∧M'=M0.set ct (.cells e vs.length false fz str [] (aW vs 0 .e))∧ct'=ct+1:=by
 unfold kC at h
 cases hr:kP len by_ with
 |false=>rw[hr]at h;cases h
 |true=>
  rw[hr,cond_true,Tr.force_eq,aN,aN]at h;injection h with h1 h2 h3
  exact⟨rfl,h1.symm,h2.symm,h3.symm⟩
theorem gc(c:Nat→Prop)(ct:Nat):j2 c ct (fun b=>c b∨b=ct) (ct+1):=⟨by omega,fun b hb=>hb.elim .inl fun h=> .inr (by omega)⟩
theorem nV(h:Cx P E F M c w t a){ct:Nat}(hf:fZ c ct){M0:Mem}(hM0:lw P F E M c w E M0 c w){ats:Array TypeId}{rty ty e:TypeId}{i:TypeInfo}(hat:ats[0]?=some ty)(hu:P.underlying ty=some (.slice e))(hzs:lx P ats)(hi:P.info? e=some i)(hzo:zOk P e i.size=true)
 {X:Value} {base:Option Addr} {sLen sCap n fz:Nat} {str:Bool} {old new:List V} (hlen:(Builtin.lenOf X).run P w= .ok n w) (hold:(Builtin.firstCells i.size sLen (.slice base sLen sCap)).run P w.drew= .ok (aw E old).toArray w.drew)
 (hnew:(Builtin.firstCells i.size n X).run P w.drew= .ok (aw E new).toArray w.drew) (hbo:fE c old) (hbn:fE c new) (hlo:old.length=sLen*i.size) (hln:new.length=n*i.size) (hg:sCap<sLen+n)
 {v:V} {M':Mem} {ct':Nat} (hgr:kC M0 ct e i.bytes (sLen+n) fz str (old++new)= .k v M' ct'):
 tD P F E M c ct w (Builtin.append_ ats rty #[.slice base sLen sCap,X]) v M' ct':=by
 obtain⟨hr,rfl,rfl,rfl⟩:=vD hgr
 obtain⟨hr1,hr2⟩:=CY hr
 obtain⟨z,hz,hzc⟩:=Dw hi hzo
 have h2:=nextslicecap_le hg
 have h48:Builtin.nextslicecap (sLen+n) sCap*i.bytes≤281474976710656:=by
  have h3:Builtin.nextslicecap (sLen+n) sCap*i.bytes≤(3*(sLen+n)+2000)*i.bytes:=Nat.mul_le_mul_right _ (by omega);omega
 have hrun:=mj (w:=w) (rty:=rty) hat hu hzs hi hz hlen hold hnew hg (by omega) h48
 have hcap:sLen+n≤grownCap w (sLen+n) sCap e:=by simp[grownCap,Question.cut]
 have hco:P.cellsOf e=i.size:=by unfold Program.cellsOf;rw[hi];rfl
 have hbd:=ip hbo hbn
 have harr:(aw E old).toArray++(aw E new).toArray=(aw E (old++new)).toArray:=by rw[gM];simp
 rw[harr]at hrun
 obtain⟨E',hS,hE,hρ,hβ,hκ⟩:=hM0.rel.alloc (.cells e (old++new).length false fz str [] (aW (old++new) 0 .e)) (.cells ((aw E (old++new)).toArray++Builtin.zeroCells z.cells (grownCap w (sLen+n) sCap e-(sLen+n))) e) ct
  (grownCap w (sLen+n) sCap e-(sLen+n)) (fun b=>c b∨b=ct) (hf ct (ah _)) (.inr rfl) (fun _ h=> .inl h) (qF hbd fun _ h=> .inl h)
  (w.drew.alloc (.cells ((aw E (old++new)).toArray++Builtin.zeroCells z.cells (grownCap w (sLen+n) sCap e-(sLen+n))) e)) rfl rfl rfl rfl
  (fun E' he _ hβ hκ=>Ou he hbd hβ hκ (by rw[bw,hlo,hln,hco,Nat.add_mul]) hcap (by rw[hzc,hco]))
 refine⟨E',_,_,?_,hM0.trans hS,.inr rfl,gc c ct⟩
 rw[hrun]
 simp only[conc,hρ,hβ,hκ]
 congr 2
 omega
theorem Cs(h:Cx P E F M c w t a){ct:Nat}(hf:fZ c ct){b n' fz o kn sLen n:Nat}{str:Bool}{d:List V}{cs:T}{e:TypeId}{i:TypeInfo}(hi:P.info? e=some i)(hM:M.get b=some (.cells e n' false fz str d cs))
 (hn':n'=o+kn*i.size) (hfz:fz≤o+sLen*i.size) {old new:List V} (hold:∀j v,old[j]?=some v→cell n' d cs (o+j)=some v) (hbo:fE c old) (hbn:fE c new) (h1:bv new=true) (hlo:old.length=sLen*i.size) (hln:new.length=n*i.size)
 (hle:sLen+n≤kn+E.κ b) {by_:Nat} {v:V} {M':Mem} {ct':Nat} (hgr:kC (M.del b) ct e by_ (sLen+n) fz str (old++new)= .k v M' ct'):
 ∃E' w' c',(storeCells ⟨E.ρ b,E.β b+o+sLen*i.size,none⟩ (aw E new)).run P w= .ok () w'∧lw P F E M c w E' M' c' w'∧bd c' v∧j2 c ct c' ct'∧conc E' v= .slice (some ⟨E.ρ b,E.β b+o,none⟩) (sLen+n) (kn+E.κ b):=by
 obtain⟨hr,rfl,rfl,rfl⟩:=vD hgr
 obtain⟨arr,fr,ho,hrel⟩:=h.cells (aq hM)
 have hco:P.cellsOf e=i.size:=by unfold Program.cellsOf;rw[hi];rfl
 have hsz:=hrel.size
 simp only[aS,if_false]at hsz
 rw[hco]at hsz
 have hlen:(aw E new).length=n*i.size:=by simp[aZ,hln]
 have hone:∀v∈aw E new,v.oneCell'=true:=by
  intro v hv;rw[aZ,List.mem_map]at hv;obtain⟨x,hx,rfl⟩:=hv;exact pB (ly h1 x hx)
 have hmul:(sLen+n)*i.size≤(kn+E.κ b)*i.size:=Nat.mul_le_mul_right _ hle
 rw[Nat.add_mul,Nat.add_mul]at hmul
 have hrun:=hJ (P:=P) (E.ρ b) (E.β b+o+sLen*i.size) e fr (aw E new) 0 arr w ho (fun k hk hk'=>hrel.free k (by omega) hk') (by rw[hlen];omega) hone
 have hsp:=nU (E.β b+o+sLen*i.size) (aw E new) 0 arr
 have hbd:=ip hbo hbn
 obtain⟨E',hS,hρ,hβ,hκ⟩:=h.rel.take b ct _ (.cells e (old++new).length false fz str [] (aW (old++new) 0 .e)) hM (.cells (ep arr (E.β b+o+sLen*i.size) (aw E new) 0) e fr) (E.β b+o) (kn+E.κ b-(sLen+n)) (fun x=>c x∨x=ct)
  (hf ct (ah _)) (.inr rfl) (fun _ h=> .inl h) (qF hbd fun _ h=> .inl h) {w with heap:=w.heap.setIfInBounds (E.ρ b) (.cells (ep arr (E.β b+o+sLen*i.size) (aw E new) 0) e fr)} rfl rfl rfl rfl (fun E' he hρ hβ hκ=>by
   refine⟨_,_,rfl,⟨fun k v hk=>?_,?_,?_,?_⟩⟩
   ·have hk':=jx hk;have hlt:k<(old++new).length:=(List.getElem?_eq_some_iff.1 hk').1;rw[bw,hlo,hln]at hlt;rw[hβ,dv he v (ea hbd hk')];unfold ep;rw[hsp.2 (E.β b+o+k) (by omega),hlen,bT];by_cases hko:k<sLen*i.size
    ·rw[ab (by omega)];rw[List.getElem?_append_left (by omega)]at hk';rw[Nat.add_assoc];exact hrel.cell (o+k) v (hold k v hk')
    ·rw[ac (by omega),show E.β b+o+k-(E.β b+o+sLen*i.size)=k-old.length by omega];rw[List.getElem?_append_right (by omega)]at hk';exact eg hk'
   ·simp only[aS,if_false];unfold ep;rw[hsp.1,hβ,hκ,hco,bw,hlo,hln,hsz,Nat.sub_mul,Nat.add_mul,Nat.add_mul];omega
   ·unfold ep;rw[hsp.1,hβ];intro k hk hk';exact hrel.free k (by omega) hk'
   ·intro hs;rw[hβ];rcases hrel.plain hs with hp|⟨hp,hp'⟩
    ·exact .inl hp
    ·exact .inr ⟨hp,by omega⟩)
 refine⟨E',_,_,hrun,hS,.inr rfl,gc c ct,?_⟩
 simp only[conc,hρ,hβ,hκ]
 congr 1
 omega
theorem rI{m:Nat}{d:List V}{cs:T}{new:List V}{k:Nat}{v:V}(h:cell (m+new.length) d (aW new m cs) k=some v):(k<m∧cell m d cs k=some v)∨(m≤k∧new[k-m]?=some v):=by
 rw[cd,dq]at h
 split at h
 ·rename_i hk;by_cases hm:m≤k
  ·right;rw[ac ⟨hm,hk⟩,List.getElem?_eq_getElem (by omega)]at h;exact⟨hm,by rw[List.getElem?_eq_getElem (by omega)];exact h⟩
  ·left;rw[ab (by omega)]at h;exact⟨by omega,by rw[cd,ac (by omega)];exact h⟩
 ·cases h
theorem LP{m e fz:Nat}{d:List V}{cs:T}{new:List V}{c':Nat→Prop}{ex str:Bool}(ho:f6 c (.cells e m ex fz str d cs))(hn:fE c new)(hc:∀b,c b→c' b):f6 c' (.cells e (m+new.length) false fz str d (aW new m cs)):=fun k v hk=>by
 rcases rI hk with⟨_,h⟩|⟨_,h⟩
 ·exact dp hc v (ho k v h)
 ·exact dp hc v (ea hn h)
theorem tb{M0:Mem}{ct e by_ len fz m:Nat}{str:Bool}{new d:List V}{cs:T}{v:V}{M':Mem}{ct':Nat}(h:na M0 ct e by_ len fz str new m d cs= .k v M' ct'):
 kP len by_=true∧v= .u ct 0 len 0 len∧M'=M0.set ct (.cells e (m+new.length) false fz str d (aW new m cs))∧ct'=ct+1:=by
 unfold na at h
 cases hr:kP len by_ with
 |false=>rw[hr]at h;cases h
 |true=>
  rw[hr,cond_true,Tr.force_eq,aN,Tr.force_eq,aN,aN]at h;injection h with h1 h2 h3
  exact⟨rfl,h1.symm,h2.symm,h3.symm⟩
theorem F6(h:Cx P E F M c w t a){ct:Nat}(hf:fZ c ct){ats:Array TypeId}{rty ty e:TypeId}{i:TypeInfo}(hat:ats[0]?=some ty)(hu:P.underlying ty=some (.slice e))(hzs:lx P ats)(hi:P.info? e=some i)(hzo:zOk P e i.size=true)
 {X:Value} {b m sLen sCap n fz:Nat} {str:Bool} {d new:List V} {cs:T} (hM:M.get b=some (.cells e m false fz str d cs)) (hm:m=sLen*i.size) (hlen:(Builtin.lenOf X).run P w= .ok n w)
 (hnew:(Builtin.firstCells i.size n X).run P w.drew= .ok (aw E new).toArray w.drew) (hbn:fE c new) (hln:new.length=n*i.size) (hg:sCap<sLen+n)
 {v:V} {M':Mem} {ct':Nat} (hgr:na (M.del b) ct e i.bytes (sLen+n) fz str new m d cs= .k v M' ct'):
 tD P F E M c ct w (Builtin.append_ ats rty #[.slice (some ⟨E.ρ b,E.β b+0,none⟩) sLen sCap,X]) v M' ct':=by
 obtain⟨hr,rfl,rfl,rfl⟩:=tb hgr
 obtain⟨hr1,hr2⟩:=CY hr
 obtain⟨z,hz,hzc⟩:=Dw hi hzo
 obtain⟨arr,fr,ho,hrel⟩:=h.cells (aq hM)
 have hbo:=(h.rel.has _ _ (aq hM)).2.1
 have hM0:=h.rel.drop b
 have hle:=hrel.le
 obtain⟨ol,hol⟩:∃ol,ol=(arr.toList.drop (E.β b)).take m:=⟨_,rfl⟩
 have hll:ol.length=m:=by rw[hol,List.length_take,bP,Array.length_toList];omega
 have hget:∀j,j<m→ol[j]?=arr[E.β b+j]?:=fun j hj=>by rw[hol,List.getElem?_take_of_lt hj,List.getElem?_drop,Array.getElem?_toList]
 have hold:(Builtin.firstCells i.size sLen (.slice (some ⟨E.ρ b,E.β b+0,none⟩) sLen sCap)).run P w.drew= .ok ol.toArray w.drew:=by
  simp only[Builtin.firstCells]
  have:=run_loadCells_list (P:=P) w.drew ⟨E.ρ b,E.β b+0,none⟩ ol (fun j v hj=>by
   rw[Addr.add_eq];have hjm:j<m:=by rw[←hll];exact(List.getElem?_eq_some_iff.1 hj).1
   have ho':w.drew.heap[E.ρ b]?=some (.cells arr e fr):=ho;simp only[World.cell?,ho',Option.isSome_none,aS,if_false];rw[bT,←hget j hjm];exact hj)
  rwa [hll,hm]at this
 have h2:=nextslicecap_le hg
 have h48:Builtin.nextslicecap (sLen+n) sCap*i.bytes≤281474976710656:=by
  have h3:Builtin.nextslicecap (sLen+n) sCap*i.bytes≤(3*(sLen+n)+2000)*i.bytes:=Nat.mul_le_mul_right _ (by omega);omega
 have hrun:=mj (w:=w) (rty:=rty) hat hu hzs hi hz hlen hold hnew hg (by omega) h48
 have hcap:sLen+n≤grownCap w (sLen+n) sCap e:=by simp[grownCap,Question.cut]
 have hco:P.cellsOf e=i.size:=by unfold Program.cellsOf;rw[hi];rfl
 have harr:ol.toArray++(aw E new).toArray=(ol++aw E new).toArray:=by simp
 rw[harr]at hrun
 obtain⟨E',hS,hE,hρ,hβ,hκ⟩:=hM0.rel.alloc (.cells e (m+new.length) false fz str d (aW new m cs)) (.cells ((ol++aw E new).toArray++Builtin.zeroCells z.cells (grownCap w (sLen+n) sCap e-(sLen+n))) e) ct
  (grownCap w (sLen+n) sCap e-(sLen+n)) (fun b=>c b∨b=ct) (hf ct (ah _)) (.inr rfl) (fun _ h=> .inl h) (LP hbo hbn fun _ h=> .inl h)
  (w.drew.alloc (.cells ((ol++aw E new).toArray++Builtin.zeroCells z.cells (grownCap w (sLen+n) sCap e-(sLen+n))) e)) rfl rfl rfl rfl
  (fun E' he _ hβ hκ=>by
   have hcl:(aw E new).length=n*i.size:=by simp[aZ,hln]
   refine⟨_,_,rfl,⟨fun k v hk=>?_,?_,?_,fun _=> .inl rfl⟩⟩
   ·rw[hβ,Nat.zero_add];rcases rI hk with⟨h1,h2⟩|⟨h1,h2⟩
    ·rw[dv he v (hbo k v h2),Array.getElem?_append_left (by simp[hll];omega)];have:(ol++aw E new).toArray[k]?=ol[k]?:=by rw[List.getElem?_toArray,List.getElem?_append_left (by omega)]
     rw[this,hget k h1];exact hrel.cell k v h2
    ·have hlt:k-m<new.length:=(List.getElem?_eq_some_iff.1 h2).1;rw[dv he v (ea hbn h2),Array.getElem?_append_left (by simp[hll,hcl];omega)];have:(ol++aw E new).toArray[k]?=(aw E new)[k-m]?:=by rw[List.getElem?_toArray,List.getElem?_append_right (by omega),hll]
     rw[this];exact eg h2
   ·simp only[aS,if_false];rw[Array.size_append,nQ,hβ,hκ,hzc,hco];simp[hll,hcl,hln]
   ·intro o _ ho hf;have h1:=hf.1;have h2:=hf.2;simp only at h1 h2;omega)
 refine⟨E',_,_,?_,hM0.trans hS,.inr rfl,gc c ct⟩
 rw[hrun]
 simp only[conc,hρ,hβ,hκ]
 congr 2
 omega
theorem Ot(h:Cx P E F M c w t a){ct:Nat}(hf:fZ c ct){b m fz sLen n:Nat}{str:Bool}{d:List V}{cs:T}{e:TypeId}{i:TypeInfo}(hi:P.info? e=some i)(hM:M.get b=some (.cells e m false fz str d cs))
 (hm:m=sLen*i.size) (hfz:fz≤sLen*i.size) {new:List V} (hbn:fE c new) (h1:bv new=true) (hln:new.length=n*i.size)
 (hle:sLen+n≤sLen+E.κ b) {by_:Nat} {v:V} {M':Mem} {ct':Nat} (hgr:na (M.del b) ct e by_ (sLen+n) fz str new m d cs= .k v M' ct'):
 ∃E' w' c',(storeCells ⟨E.ρ b,E.β b+0+sLen*i.size,none⟩ (aw E new)).run P w= .ok () w'∧lw P F E M c w E' M' c' w'∧bd c' v∧j2 c ct c' ct'∧conc E' v= .slice (some ⟨E.ρ b,E.β b+0,none⟩) (sLen+n) (sLen+E.κ b):=by
 obtain⟨hr,rfl,rfl,rfl⟩:=tb hgr
 obtain⟨arr,fr,ho,hrel⟩:=h.cells (aq hM)
 have hbo:=(h.rel.has _ _ (aq hM)).2.1
 have hco:P.cellsOf e=i.size:=by unfold Program.cellsOf;rw[hi];rfl
 have hsz:=hrel.size
 simp only[aS,if_false]at hsz
 rw[hco]at hsz
 have hlen:(aw E new).length=n*i.size:=by simp[aZ,hln]
 have hone:∀v∈aw E new,v.oneCell'=true:=by
  intro v hv;rw[aZ,List.mem_map]at hv;obtain⟨x,hx,rfl⟩:=hv;exact pB (ly h1 x hx)
 have hmul:(sLen+n)*i.size≤(sLen+E.κ b)*i.size:=Nat.mul_le_mul_right _ hle
 rw[Nat.add_mul,Nat.add_mul]at hmul
 have hrun:=hJ (P:=P) (E.ρ b) (E.β b+0+sLen*i.size) e fr (aw E new) 0 arr w ho (fun k hk hk'=>hrel.free k (by omega) hk') (by rw[hlen];omega) hone
 have hsp:=nU (E.β b+0+sLen*i.size) (aw E new) 0 arr
 obtain⟨E',hS,hρ,hβ,hκ⟩:=h.rel.take b ct _ (.cells e (m+new.length) false fz str d (aW new m cs)) hM (.cells (ep arr (E.β b+0+sLen*i.size) (aw E new) 0) e fr) (E.β b+0) (sLen+E.κ b-(sLen+n)) (fun x=>c x∨x=ct)
  (hf ct (ah _)) (.inr rfl) (fun _ h=> .inl h) (LP hbo hbn fun _ h=> .inl h) {w with heap:=w.heap.setIfInBounds (E.ρ b) (.cells (ep arr (E.β b+0+sLen*i.size) (aw E new) 0) e fr)} rfl rfl rfl rfl (fun E' he hρ hβ hκ=>by
   refine⟨_,_,rfl,⟨fun k v hk=>?_,?_,?_,?_⟩⟩
   ·rw[hβ];unfold ep;rcases rI hk with⟨k1,k2⟩|⟨k1,k2⟩
    ·rw[dv he v (hbo k v k2),hsp.2 (E.β b+0+k) (by omega),hlen,bT,ab (by omega)];exact hrel.cell k v k2
    ·have hlt:k-m<new.length:=(List.getElem?_eq_some_iff.1 k2).1;rw[dv he v (ea hbn k2),hsp.2 (E.β b+0+k) (by omega),hlen,bT,ac (by omega),show E.β b+0+k-(E.β b+0+sLen*i.size)=k-m by omega];exact eg k2
   ·simp only[aS,if_false];unfold ep;rw[hsp.1,hβ,hκ,hco,hln,hsz,Nat.sub_mul,Nat.add_mul,Nat.add_mul];omega
   ·unfold ep;rw[hsp.1,hβ];intro k hk hk';exact hrel.free k (by omega) hk'
   ·intro hs;rw[hβ];rcases hrel.plain hs with hp|⟨hp,hp'⟩
    ·exact .inl hp
    ·exact .inr ⟨hp,by omega⟩)
 refine⟨E',_,_,hrun,hS,.inr rfl,gc c ct,?_⟩
 simp only[conc,hρ,hβ,hκ]
 congr 1
 omega
theorem oS{b ty o e fz:Nat}{str:Bool}(h:gR M b ty o e=some (fz,str)):∃n d cs,M.get b=some (.cells ty n false fz str d cs)∧n=e∧fz≤o∧o≤e:=by
 unfold gR at h
 split at h
 ·rename_i ty' n fz' str' d cs hM;rw[bp,bp,bL,bL]at h;by_cases hc:(decide (ty'=ty)&&decide (n=e)&&decide (fz'≤o)&&decide (o≤e))=true
  ·rw[hc,cond_true]at h;simp only[Option.some.injEq,Prod.mk.injEq]at h;obtain⟨rfl,rfl⟩:=h;simp only[aD,decide_eq_true_eq]at hc;obtain⟨⟨⟨rfl,rfl⟩,h3⟩,h4⟩:=hc;exact⟨_,_,_,hM,rfl,h3,h4⟩
  ·rw[Bool.not_eq_true]at hc;rw[hc]at h;cases h
 ·cases h
theorem uQ{ct b o sz len n:Nat}{new:List V}{f:Nat→V}{v:V}{M':Mem}{ct':Nat}(h:C3 ct b o sz len n M new f= .k v M' ct'):cC M b (o+len*sz) new=some M'∧v=f (len+n)∧ct'=ct:=by
 unfold C3 at h
 split at h
 ·rename_i M'' hs;rw[aN]at h;injection h with h1 h2 h3
  subst h2;exact⟨hs,h1.symm,h3.symm⟩
 ·cases h
theorem t9{M0:Mem}{ct e by_ len fz:Nat}{str:Bool}{new:List V}{r:Option (List V×Option Nat)}{v:V}{M':Mem}{ct':Nat}(h:vA M0 ct e by_ len fz str new r= .k v M' ct'):∃old q,r=some (old,q)∧kC M0 ct e by_ len fz str (old++new)= .k v M' ct':=by
 unfold vA at h
 split at h
 ·exact⟨_,_,rfl,h⟩
 ·cases h
theorem FE{sz n b o n' ty fz:Nat}{ex str:Bool}{d:List V}{cs:T}{vs:List V}{r:Option Nat}(hM:M.get b=some (.cells ty n' ex fz str d cs))(h:readB F M sz n b o=some (vs,r)):∀j v,vs[j]?=some v→cell n' d cs (o+j)=some v:=by
 unfold Ev.readB at h
 rw[bp]at h
 by_cases hn:n=0
 ·rw[ae hn,cond_true]at h;simp only[Option.some.injEq,Prod.mk.injEq]at h;obtain⟨rfl,rfl⟩:=h;intro j v hj;simp at hj
 ·rw[ag hn,cond_false]at h;split at h
  ·rename_i l hl;simp only[Option.some.injEq,Prod.mk.injEq]at h;obtain⟨rfl,rfl⟩:=h;obtain⟨ty',m,ex',fz',str',d',cs',hb,hg⟩:=gK (f:=none) hl (by simp);rw[aq hM]at hb;injection hb with hb
   injection hb with h1 h2 h3 h4 h5 h6 h7
   subst h2 h6 h7;exact(ku _ _ _ hg).2
  ·cases h
theorem mq{sz n b o len cap:Nat}(h:Cx P E F M c w t a){old:List V}{r:Option Nat}(hr:readB F M sz n b o=some (old,r)):(Builtin.firstCells sz n (.slice (some ⟨E.ρ b,E.β b+o,none⟩) len cap)).run P w.drew= .ok (aw E old).toArray w.drew:=by
 simp only[Builtin.firstCells]
 exact((h.world (w':=w.drew) rfl).readB hr).1
theorem ae3(h:Cx P E F M c w t a){ct:Nat}(hf:fZ c ct){ats:Array TypeId}{rty ty e:TypeId}{i:TypeInfo}(hat:ats[0]?=some ty)(hu:P.underlying ty=some (.slice e))(hzs:lx P ats)(hi:P.info? e=some i)(hpos:i.size≠0)(hzo:zOk P e i.size=true)
 {x y:V} {n:Nat} {new:List V} (hs:gd F M i.size y=some (n,new)) (hbx:bd c x) (h1:bv new=true) (hln:new.length=n*i.size)
 {v:V} {M':Mem} {ct':Nat} (ha:app F M ct e i.size i.bytes x n new= .k v M' ct'):tD P F E M c ct w (Builtin.append_ ats rty #[conc E x,conc E y]) v M' ct':=by
 obtain⟨hlen,hfc,hbn⟩:=Zo h hs
 obtain⟨_,hfcd,_⟩:=Zo (h.world (w':=w.drew) rfl) hs
 unfold app at ha
 rw[bp]at ha
 by_cases hn0:n=0
 ·subst hn0;rw[ae rfl,cond_true]at ha;have hnil:new=[]:=List.eq_nil_of_length_eq_zero (by omega);subst hnil;cases hlk:yU x with
  |false=>rw[hlk]at ha;cases ha
  |true=>
   rw[hlk,cond_true]at ha;injection ha with g1 g2 g3
   subst g1 g2 g3;have hsl:∃base sLen sCap,conc E x= .slice base sLen sCap∧sLen≤sCap:=by
    cases x<;>first
     |cases(show false=true from hlk)
     |(refine⟨_,_,_,rfl,?_⟩
       first
        |exact ah _
        |exact aF _
        |(have:Nat.ble _ _=true:=hlk
          rw[bL]at this;have:=bc this
          first
           |exact this
           |exact bn this (Nat.le_add_right _ _)))
   obtain⟨base,sLen,sCap,hcx,hle⟩:=hsl;refine⟨E,w,c,?_,.refl h.rel,hbx,.refl _ _⟩;rw[hcx];exact tN hat hu hzs hi hlen hfc hle
 ·rw[ag hn0,cond_false]at ha;have fin:∀{b o len n' cap:Nat} {M'':Mem},cC M b (o+len*i.size) new=some M''→len+n≤cap→c b→ ∃w',(Builtin.append_ ats rty #[.slice (some ⟨E.ρ b,E.β b+o,none⟩) len cap,conc E y]).run P w= .ok (.slice (some ⟨E.ρ b,E.β b+o,none⟩) (len+n) cap) w'∧lw P F E M c w E M'' c w':=by
   intro b o len n' cap M'' hst hcap hb;obtain⟨w',hrun,hS⟩:=h.store hst hbn;refine⟨w',iJ hat hu hzs hi hlen hfc hcap ?_,hS⟩;rw[Addr.add_eq,Nat.add_assoc];exact hrun
  cases x with
  |l0=>
   exact nV h hf (.refl h.rel) hat hu hzs hi hzo (old:=[]) hlen (by simp[Builtin.firstCells,aw]) hfcd trivial hbn (by simp) hln (by omega) (by simpa using ha)
  |l b o len cap=>
   have ha':ym F M ct e i.size i.bytes b o len cap n new= .k v M' ct':=ha;unfold ym at ha';rw[bL]at ha';by_cases hcap:len+n≤cap
   ·rw[ae (show Nat.add len n≤cap from hcap),cond_true]at ha';obtain⟨hst,rfl,rfl⟩:=uQ ha';obtain⟨w',hrun,hS⟩:=fin (n':=0) hst hcap hbx;exact⟨E,w',c,hrun,hS,hbx,.refl _ _⟩
   ·rw[ag (show¬Nat.add len n≤cap from hcap),cond_false]at ha';obtain⟨old,q,hr,hgr⟩:=t9 ha';have hrb:=h.readB hr;exact nV h hf (.refl h.rel) hat hu hzs hi hzo hlen (mq h hr) hfcd hrb.2.1 hbn hrb.2.2 hln (by omega) hgr
  |u b o len el kn=>
   have ha':oG F M ct e i.size i.bytes b o len el kn n new= .k v M' ct':=ha;unfold oG at ha';rw[bL]at ha';by_cases hcap:el+len+n≤kn
   ·rw[ae (show Nat.add (Nat.add el len) n≤kn from hcap),cond_true]at ha';obtain⟨hst,rfl,rfl⟩:=uQ ha';obtain⟨w',hrun,hS⟩:=fin (n':=0) (cap:=kn-el+E.κ b) hst (by omega) hbx;exact⟨E,w',c,hrun,hS,hbx,.refl _ _⟩
   ·rw[ag (show¬Nat.add (Nat.add el len) n≤kn from hcap),cond_false]at ha';split at ha'
    ·rename_i fz str hmw;obtain⟨n',d,cs,hM,hn',hfz,_⟩:=oS hmw;cases hw:Nat.beq o 0&&Nat.beq (Nat.sub kn el) len with
     |true=>
      rw[hw,cond_true,hM]at ha';rw[aD,bp,bp]at hw;obtain rfl:o=0:=bc hw.1;have hkl:kn-el=len:=bc hw.2;have ha2:na (M.del b) ct e i.bytes (len+n) fz str new n' d cs= .k v M' ct':=ha';have hm:n'=len*i.size:=by
       have:n'=0+(kn-el)*i.size:=hn';rw[this,hkl,Nat.zero_add]
      have hcx:conc E (.u b 0 len el kn)= .slice (some ⟨E.ρ b,E.β b+0,none⟩) len (kn-el+E.κ b):=rfl;rw[hcx];by_cases hroom:len+n≤kn-el+E.κ b
      ·rw[hkl]at hroom⊢;obtain⟨E',w',c',hrun,hS,hb',hG,hcv⟩:=Ot h hf hi hM hm (by have:fz≤0+len*i.size:=hfz;omega) hbn h1 hln hroom ha2;refine⟨E',w',c',?_,hS,hb',hG⟩;rw[hcv];refine iJ hat hu hzs hi hlen hfc hroom ?_;rw[Addr.add_eq];exact hrun
      ·exact F6 h hf hat hu hzs hi hzo hM hm hlen hfcd hbn hln (by omega) ha2
     |false=>
     rw[hw,cond_false]at ha';obtain⟨old,q,hr,hgr⟩:=t9 ha';have hrb:=h.readB hr;by_cases hroom:len+n≤kn-el+E.κ b
     ·obtain⟨E',w',c',hrun,hS,hb',hG,hcv⟩:=Cs h hf hi hM (o:=o) (kn:=kn-el) (sLen:=len) hn' hfz (FE hM hr) hrb.2.1 hbn h1 hrb.2.2 hln hroom hgr;refine⟨E',w',c',?_,hS,hb',hG⟩;rw[hcv];refine iJ hat hu hzs hi hlen hfc hroom ?_;rw[Addr.add_eq];exact hrun
     ·exact nV h hf (h.rel.drop b) hat hu hzs hi hzo hlen (mq h hr) hfcd hrb.2.1 hbn hrb.2.2 hln (by omega) hgr
    ·cases ha'
  |ue b o0 o=>
   have ha':(match gR M b e o o with
    |some (fz,str)=>kC (M.del b) ct e i.bytes n fz str new
    |none=> .f)= .k v M' ct':=ha
   split at ha'
   ·rename_i fz str hmw;obtain⟨n',d,cs,hM,hn',hfz,_⟩:=oS hmw;by_cases hroom:n≤E.κ b
    ·have hκ:E.κ b≠0:=by omega
     obtain⟨E',w',c',hrun,hS,hb',hG,hcv⟩:=Cs h hf hi hM (o:=o) (kn:=0) (sLen:=0) (old:=[]) (n:=n) (by simpa using hn') (by simpa using hfz) (fun j v hj=>by simp at hj) trivial hbn h1 (by simp) hln (by omega) (by simpa using ha');refine⟨E',w',c',?_,hS,hb',hG⟩;rw[hcv];simp only[conc,ab hκ];have:=iJ (w:=w) (rty:=rty) (sLen:=0) (sCap:=E.κ b) (ad:=⟨E.ρ b,E.β b+o,none⟩) hat hu hzs hi hlen hfc (by omega) (w':=w') (by rw[Addr.add_eq];exact hrun)
     simpa using this
    ·have:=nV (rty:=rty) (base:=some (if E.κ b=0 then(if o<o0 then adD b else⟨E.ρ b,E.β b+o0,none⟩)else⟨E.ρ b,E.β b+o,none⟩)) (sLen:=0) (sCap:=E.κ b) (old:=[]) h hf (h.rel.drop b) hat hu hzs hi hzo hlen (by simp[Builtin.firstCells,aw,loadCells,loadCellsFrom]) hfcd trivial hbn (by simp) hln (by omega) (by simpa using ha');exact this
   ·cases ha'
  |_=>cases(show RC.f= .k v M' ct' from ha)
end
end
end Go.Proofs.YtdnddpmjnlagfaaGreatDoor.Ev
