/- What is proved here: pieces of the evaluator's soundness: if the evaluator comes to a value, the model's run comes to it, for every world and tape; no conditions beyond the hypotheses of each theorem. -/
import Derived.Test.YtmbpllipombieaaDoorEv0
import Derived.Laws.Externs
import Derived.KernelRfl
import Derived.Laws.StructEq
import Derived.Lib.Bytealg
import GoSem.Extern.BytealgCompare
import Derived.Lib.UnsafeStr
set_option linter.unusedSimpArgs false
set_option linter.unusedVariables false
set_option linter.defProp false
namespace Go.Proofs.YtmbpllipombieaaDoor.Ev
open Go
noncomputable section
section
variable{P:Program}{E:cU}{F:RO}{M:Mem}{c:Nat→Prop}{w:World}{t:T}{a:Act}
def Jc(o:Option Value)(r:Option Nat):Prop:=∃k,o=r.map fun n=>Value.int k (n:Int)
theorem Cx.optNN(h:Cx P E F M c w t a){o:Option Operand}{x:Option X}(hx:HV o=some x){r:Option Nat}(hr:Ev.optNN t x=some r):Jc (o.map a.eval) r:=by
 cases o with
 |none=>
  obtain rfl:=ae hx;obtain rfl:=ae hr;exact⟨.i64,rfl⟩
 |some y=>
  obtain⟨z,hz,rfl⟩:=bn.1 hx;have hr':(match rE (z.ev t)with|some n=>some (some n)|none=>none)=some r:=hr;split at hr'
  ·rename_i n hn;obtain rfl:=ae hr';obtain⟨k,hk⟩:=lI hn;refine⟨k,?_⟩;rw[Option.map_some,(h.ev hz).1,hk];rfl
  ·cases hr'
theorem Cx.optN(h:Cx P E F M c w t a){o:Option Operand}{x:Option X}(hx:HV o=some x){d n:Nat}(hr:Ev.optN t d x=some n):
 ∃r,Jc (o.map a.eval) r∧r.getD d=n∧(r.isSome↔x.isSome):=by
 cases o with
 |none=>
  obtain rfl:=ae hx;obtain rfl:d=n:=ae hr;exact⟨none,⟨.i64,rfl⟩,rfl,by simp⟩
 |some y=>
  obtain⟨z,hz,rfl⟩:=bn.1 hx;have hn:rE (z.ev t)=some n:=hr;obtain⟨k,hk⟩:=lI hn;refine⟨some n,⟨k,?_⟩,rfl,by simp⟩;rw[Option.map_some,(h.ev hz).1,hk];rfl
theorem nS{isS:Bool}{len cap:Nat}{lo hi mx:Option Value}{l h m:Option Nat}(hl:Jc lo l)(hh:Jc hi h)(hm:Jc mx m)
 (h1:m.getD cap≤cap) (h2:h.getD len≤m.getD cap) (h3:l.getD 0≤h.getD len) (h4:m=none∨h.isSome):
 (Instr.sliceBounds isS len cap lo hi mx).run P w= .ok (l.getD 0,h.getD len,m.getD cap) w:=by
 obtain⟨k1,rfl⟩:=hl
 obtain⟨k2,rfl⟩:=hh
 obtain⟨k3,rfl⟩:=hm
 cases l<;>cases h<;>cases m<;>
  simp_all [Instr.sliceBounds,Instr.sliceBound,asIntOf]
theorem Ft{b o n k:Nat}{x:V}(h:(mkL b o n k).val=some x):x= .l b o n k:=by
 unfold mkL at h;rw[bA,bA,bA]at h;exact(ae h).symm
theorem Fv{b o n el kn:Nat}{x:V}(h:(mkU b o n el kn).val=some x):x= .u b o n el kn:=by
 unfold mkU at h;rw[bA,bA,bA]at h;exact(ae h).symm
theorem VX{p q r:Bool}{x y:QR}{v:V}(h:(bif p&&q&&r then x else .f).val=some v):p=true∧q=true∧r=true∧x.val=some v:=by
 cases p<;>cases q<;>cases r<;>first|exact⟨rfl,rfl,rfl,h⟩|cases(show(none:Option V)=some v from h)
theorem bW6{p q:Bool}{x:QR}{v:V}(h:(bif p&&q then x else .f).val=some v):p=true∧q=true∧x.val=some v:=by
 cases p<;>cases q<;>first|exact⟨rfl,rfl,h⟩|cases(show(none:Option V)=some v from h)
theorem wC{sz b o cap l h m:Nat}{x:V}(hx:(wB sz b o cap l h m).val=some x):m≤cap∧h≤m∧l≤h∧x= .l b (if m=l then o else o+l*sz) (h-l) (m-l):=by
 unfold wB at hx
 rw[cB,cB,cB,bR]at hx
 obtain⟨h1,h2,h3,h4⟩:=VX (y:= .f) hx
 refine⟨bT h1,bT h2,bT h3,?_⟩
 rw[Ft h4]
 by_cases e:m=l<;>simp[e]
theorem VW{r o k:Nat}{p:Prop}[Decidable p]:(if p then(⟨r,o,none⟩:Addr)else⟨r,o+k,none⟩)=⟨r,if p then o else o+k,none⟩:=by split<;>rfl
theorem Xw(h:Cx P E F M c w t a){o:Oper}{ty:TypeId}{y:Operand}{lo hi mx:Option Operand}(hop:o.op= .slice ty y lo hi mx){q:QO}(hc:aE P o.op=some (.q q)){x:V}(hx:(cS q F M t).val=some x):qI P E c w a o x:=by
 rw[hop]at hc
 simp only[aE]at hc
 split at hc
 ·rename_i xa xl xh xm h1 h2 h3 h4;have e:=h.ev h1
  have arr:∀n s el,dB P el=some s→(∀ad:Addr,∀lo' hi' mx':Option Value,∀l k m:Nat,(Instr.sliceBounds false n n lo' hi' mx').run P w= .ok (l,k,m) w→
   (Instr.sliceAt ty (.pointer (some ad)) lo' hi' mx').run P w= .ok (.slice (some (if m=l then ad else ad.add (l*s))) (k-l) (m-l)) w)→
   QO.slA n s xa xl xh xm=q→qI P E c w a o x:=by
   intro n s el hs hrun hq;subst hq;have hx':(wx n s xa xl xh xm F M t).val=some x:=hx;unfold wx at hx';by_cases hg:(xm.isNone||xh.isSome)=true
   ·rw[hg,cond_true]at hx';obtain⟨b,off,hv,hg2⟩:=oU hx';unfold SF at hg2;split at hg2
    ·rename_i l k m hl hk hm;obtain⟨d1,d2,d3,rfl⟩:=wC hg2;obtain⟨rl,ol,el',_⟩:=h.optN h2 hl;obtain⟨rh,oh,eh,ih⟩:=h.optN h3 hk;obtain⟨rm,om,em,im⟩:=h.optN h4 hm;subst el' eh em;rw[hv]at e;refine⟨?_,e.2⟩;simp only[execOp,hop];refine be ?_;rw[e.1];simp only[conc]
     rw[hrun _ _ _ _ _ _ _ (nS ol oh om d1 d2 d3 (by
      cases hxm:xm with
      |none=>left;rw[hxm]at im;simpa using im
      |some z=>right;rw[hxm]at hg;rw[ih];simpa using hg))]
     simp only[Addr.add_eq,VW]
     congr 5
     split<;>omega
    ·cases hg2
   ·rw[Bool.not_eq_true]at hg;rw[hg]at hx';cases(show(none:Option V)=some x from hx')
  split at hc
  ·
   rename_i hu;split at hc
   ·cases hc
   ·rename_i hmx;obtain rfl:QO.slS xa xl xh=q:=by simpa [Ev.q]using hc
    obtain⟨n,s,hv,hg⟩:=mX (show(wh (xa.ev t) .f fun n s=>jn n s (optN t 0 xl) (optN t n xh)).val=some x from hx);obtain⟨l,k,hl,hk,d1,d2,rfl⟩:=Gb hg;obtain⟨rl,ol,el',_⟩:=h.optN h2 hl;obtain⟨rh,oh,eh,ih⟩:=h.optN h3 hk;subst el' eh
    have hmn:xm=none:=by cases xm with
     |none=>rfl
     |some z=>simp at hmx
    have hmx0:mx=none:=by
     rw[hmn]at h4;cases mx with
     |none=>rfl
     |some z=>rw[HV]at h4;cases hz:bf z<;>rw[hz]at h4<;>simp at h4
    rw[hv]at e;refine⟨?_,trivial⟩;simp only[execOp,hop];refine be ?_;rw[e.1,hmx0];have hb:=nS (P:=P) (w:=w) (isS:=false) (len:=n) (cap:=n) (mx:=none) (m:=none) ol oh ⟨.i64,rfl⟩ (by simp) (by simpa using d2) (by simpa using d1) (.inl rfl);simp only[Instr.sliceAt,Instr.slice,aT,aK hu,aV,conc,Option.map_none,Option.isSome_none,bu,if_false,Sem.run_ite,aP,i6,hb]
    congr 2
    exact CL _ _ _ _ d1 d2
  ·
   rename_i el hu;obtain⟨s,hs,hc'⟩:=aW.1 hc;split at hc'
   ·cases hc'
   ·obtain rfl:QO.slL s xa xl xh xm=q:=by simpa [Ev.q]using hc'
    have hx':(qh s (xa.ev t) (optNN t xl) (optNN t xh) (optNN t xm)).val=some x:=hx;unfold qh at hx';split at hx'
    ·rename_i rl rh rm hl hk hm;have ol:=h.optNN h2 hl;have oh:=h.optNN h3 hk;have om:=h.optNN h4 hm;unfold rR at hx';by_cases hg:(rm.isNone||rh.isSome)=true
     ·rw[hg,cond_true]at hx';have h4':rm=none∨rh.isSome:=by
       cases rm with
       |none=>exact .inl rfl
       |some z=>right;simpa using hg
      have fin:∀(ad:Option Addr) (len cap:Nat),conc E (xa.ev t)= .slice ad len cap→rm.getD cap≤cap→rh.getD len≤rm.getD cap→rl.getD 0≤rh.getD len→
       (Instr.sliceAt ty (conc E (xa.ev t)) (lo.map a.eval) (hi.map a.eval) (mx.map a.eval)).run P w=
        .ok (.slice (if rm.getD cap=rl.getD 0 then ad else ad.map (·.add (rl.getD 0*s))) (rh.getD len-rl.getD 0) (rm.getD cap-rl.getD 0)) w:=by
       intro ad len cap hcv d1 d2 d3;rw[hcv];have hb:=nS (P:=P) (w:=w) (isS:=true) ol oh om d1 d2 d3 h4';simp only[Instr.sliceAt,Instr.slice,aT,aK hu,aV,hb,dH hs,aP]
      split at hx'
      ·rename_i b off len cap hv;obtain⟨d1,d2,d3,rfl⟩:=wC hx';rw[hv]at e;refine⟨?_,e.2⟩;simp only[execOp,hop];refine be ?_;rw[(h.ev h1).1,fin _ len cap (by rw[hv];rfl) d1 d2 d3];simp only[conc,Option.map_some,Addr.add_eq]
       congr 2
       split
       ·rename_i e0;simp[e0]
       ·rename_i e0;simp[e0,Nat.add_assoc]
      ·rename_i hv;rw[bR,bR,bR]at hx';obtain⟨g1,g2,g3,g4⟩:=VX (y:= .f) hx';obtain rfl:=ae g4;have g1:=bT g1;have g2:=bT g2;have g3:=bT g3;refine⟨?_,trivial⟩;simp only[execOp,hop];refine be ?_;rw[e.1,fin none 0 0 (by rw[hv];rfl) (by omega) (by omega) (by omega),g1,g2,g3];rfl
      ·rename_i b off len el' kn hv;rw[hv]at e;split at hx'
       ·unfold nG at hx';rw[cB,cB,bR,gg]at hx';obtain⟨g1,g2,g3⟩:=bW6 hx';have g1:el'+rh.getD len≤kn:=bT g1;have g2:rl.getD 0≤rh.getD len:=bT g2;have hr:=fin _ len _ (by rw[hv];rfl) (by simp) (show rh.getD len≤kn-el'+E.κ b by omega) g2;simp only[Option.getD_none]at hr;by_cases hl0:rl.getD 0=0
        ·rw[ah (p:=rl.getD 0=0) hl0,cond_true]at g3;obtain rfl:=Fv g3;refine⟨?_,e.2⟩;simp only[execOp,hop];refine be ?_;rw[(h.ev h1).1,hr,hl0];simp[conc,Addr.add_eq]
        ·rw[ag (p:=rl.getD 0=0) hl0,cond_false]at g3;by_cases hlt:el'+rl.getD 0<kn
         ·rw[show Nat.add el' (rl.getD 0)=el'+rl.getD 0 from rfl,ah hlt,cond_true]at g3;obtain rfl:=Fv g3;refine⟨?_,e.2⟩;simp only[execOp,hop];refine be ?_;rw[(h.ev h1).1,hr];have hne:¬(kn-el'+E.κ b=rl.getD 0):=by omega
          simp only[conc,hne,if_false,Option.map_some,Addr.add_eq]
          congr 2
          ·rw[Nat.add_assoc];rfl
          ·show _=kn-(el'+rl.getD 0)+E.κ b;omega
         ·rw[show Nat.add el' (rl.getD 0)=el'+rl.getD 0 from rfl,ag hlt,cond_false,bA]at g3;obtain rfl:=ae g3;refine⟨?_,e.2⟩;simp only[execOp,hop];refine be ?_;rw[(h.ev h1).1,hr];have e1:rh.getD len-rl.getD 0=0:=by omega
          have e2:kn-el'+E.κ b-rl.getD 0=E.κ b:=by omega
          rw[e1,e2];simp only[conc,Option.map_some,Addr.add_eq]
          congr 2
          by_cases hk0:E.κ b=0
          ·rw[ac (by omega),ac hk0,ab (show¬(Nat.add off (Nat.mul (rl.getD 0) s)<off)from Nat.not_lt.2 (Nat.le_add_right _ _))]
          ·rw[ab (by omega),ab hk0,Nat.add_assoc];rfl
       ·rename_i m;unfold Tc at hx';rw[cB,cB,cB,bR]at hx';obtain⟨g1,g2,g3,g4⟩:=VX (y:= .f) hx';have g1:el'+m≤kn:=bT g1;have g2:rh.getD len≤m:=bT g2;have g3:rl.getD 0≤rh.getD len:=bT g3;obtain rfl:=Ft g4;refine⟨?_,e.2⟩;simp only[execOp,hop];refine be ?_;rw[(h.ev h1).1,fin _ len _ (by rw[hv];rfl) (by simp;omega) (by simpa using g2) g3];simp only[conc,Option.getD_some,Option.map_some,Addr.add_eq]
        congr 2
        by_cases e0:m=rl.getD 0
        ·simp[e0]
        ·simp[e0,Nat.add_assoc]
      ·rename_i b o0 off hv;rw[hv]at e;rw[bR,bR]at hx';obtain⟨g1,g2,g3,g4⟩:=VX (y:= .f) hx';obtain rfl:=ae g4;have g2:=bT g2;have g3:=bT g3;have hrm:rm=none:=by simpa using g1
       subst hrm;refine⟨?_,e.2⟩;simp only[execOp,hop];refine be ?_;rw[(h.ev h1).1,fin _ 0 _ (by rw[hv];rfl) (by simp) (by rw[g2];omega) (by rw[g3];omega),g2,g3];simp[conc,Addr.add,hv]
      ·cases hx'
     ·rw[Bool.not_eq_true]at hg;rw[hg]at hx';cases(show(none:Option V)=some x from hx')
    ·cases hx'
  ·
   rename_i n el hu;obtain⟨s,hs,hc'⟩:=aW.1 hc;split at hc'
   ·cases hc'
   ·refine arr n s el hs ?_ (by simpa [Ev.q]using hc');intro ad lo' hi' mx' l k m hb;simp only[Instr.sliceAt,aT,aK hu,aV,Instr.sureAddr,aP,hb,dH hs]
  ·
   rename_i ar hu;split at hc
   ·rename_i n el hua;obtain⟨s,hs,hc'⟩:=aW.1 hc;split at hc'
    ·cases hc'
    ·refine arr n s el hs ?_ (by simpa [Ev.q]using hc');intro ad lo' hi' mx' l k m hb;simp only[Instr.sliceAt,Instr.slice,aT,aK hu,aK hua,aV,asAddr,aP,hb,dH hs]
   ·cases hc
  ·cases hc
 ·cases hc
end
theorem vJ{o:Option bJ}{g:List (V×V×Nat)→Nat→QR}{x:V}(h:(qL o .f g).val=some x):∃es k,o=some (.map es k)∧(g es k).val=some x:=by
 cases o with
 |none=>cases(show(none:Option V)=some x from h)
 |some b=>cases b with
  |map es k=>exact⟨es,k,rfl,h⟩
  |_=>cases(show(none:Option V)=some x from h)
theorem CK(n x m y:Nat):(ba n x==ba m y)=decide (bl n x=bl m y):=by
 show((ba n x).data==(ba m y).data)=_
 rw[Bool.eq_iff_iff,beq_iff_eq,decide_eq_true_iff]
 constructor
 ·intro e;have:=congrArg Array.toList e
  simpa [mO]using this
 ·intro e;simp only[ba,e]
inductive j4:Sh→TypeDesc→Prop
 |bool:j4 .bool .bool
 |int (k:IntKind):j4 .int (.int k)
 |str:j4 .str .string
section
variable{P:Program}{E:cU}{F:RO}{M:Mem}{c:Nat→Prop}{w:World}{t:T}{a:Act}
theorem tD{ty:TypeId}{sh:Sh}(h:r6 P ty=some sh):∃d,P.underlying ty=some d∧j4 sh d:=by
 unfold r6 at h
 split at h
 ·rename_i hu;obtain rfl:=ae h;exact⟨_,hu,.bool⟩
 ·rename_i hu;obtain rfl:=ae h;exact⟨_,hu,.int _⟩
 ·rename_i hu;obtain rfl:=ae h;exact⟨_,hu,.str⟩
 ·cases h
theorem fC{ty:TypeId}{sh:Sh}{d:TypeDesc}(hu:P.underlying ty=some d)(hk:j4 sh d)(e:Bool)(n:Nat)(v:Value):(Instr.checkKey e (n+1) ty v).run P w= .ok () w:=by
 cases hk<;>cases v<;>simp[Instr.checkKey,aK hu]
theorem w9{sh:Sh}{d:TypeDesc}(hk:j4 sh d){x y:V}{r:Bool}(h:jB sh x y=some r):Instr.sameNow d (conc E x) (conc E y)=some r:=by
 cases hk with
 |bool=>
  cases x<;>cases y<;>first|(simp[jB]at h;done)|skip
  rename_i x y;simp only[jB]at h;simp only[conc,Instr.sameNow,h]
 |int k=>
  cases x<;>cases y<;>first|(simp[jB]at h;done)|skip
  rename_i k1 m k2 n;simp only[jB,eK]at h;by_cases hk:k1=k2
  ·rw[ah hk,cond_true,da]at h;simp only[conc,Instr.sameNow,hk,if_true];rw[←h]
   congr 1
  ·rw[ag hk]at h;cases h
 |str=>
  cases x<;>cases y<;>first|(simp[jB]at h;done)|skip
  rename_i n x m y;simp only[jB,ix]at h;simp only[conc,Instr.sameNow];rw[←h,CK]
theorem mR{sh:Sh}{d:TypeDesc}(hk:j4 sh d){k:V}:∀(es:List (V×V×Nat)) (i:Nat) (r:Option (Nat×V)),iJ sh k es i=some r→
 Instr.findNow d (conc E k) (es.map (entry E)) i=some (r.map fun p=>(p.1,conc E p.2))∧(∀p,r=some p→i≤p.1∧ ∃k' b,es[p.1-i]?=some (k',p.2,b)∧jB sh k k'=some true)
 |[],i,r,h=>by
  obtain rfl:=ae h;exact⟨rfl,fun p hp=>by cases hp⟩
 |(k',v,b)::es,i,r,h=>by
  rw[iJ]at h;split at h
  ·rename_i hk';obtain rfl:=ae h;refine⟨?_,fun p hp=>?_⟩
   ·simp only[List.map_cons,Instr.findNow,entry,w9 hk hk',Option.map_some]
   ·obtain rfl:=ae hp;exact⟨aj _,k',b,by simp,hk'⟩
  ·rename_i hk';have ih:=mR hk es (i+1) r h;refine⟨?_,fun p hp=>?_⟩
   ·simp only[List.map_cons,Instr.findNow,entry,w9 hk hk'];exact ih.1
   ·obtain⟨h1,k2,b2,h2,h3⟩:=ih.2 p hp;refine⟨by omega,k2,b2,?_,h3⟩;rw[show p.1-i=(p.1-(i+1))+1 by omega,List.getElem?_cons_succ];exact h2
  ·cases h
theorem j9{ty:TypeId}{sh:Sh}{d:TypeDesc}(hu:P.underlying ty=some d)(hk:j4 sh d){k:V}{es:List (V×V×Nat)}{r:Option (Nat×V)}(h:iJ sh k es 0=some r):
 (Instr.findKey ty (conc E k) (es.map (entry E))).run P w= .ok (r.map fun p=>(p.1,conc E p.2)) w:=by
 simp only[Instr.findKey,aT,aK hu,aV,(mR hk es 0 r h).1,aP]
theorem jW{ty:TypeId}{z:V}(h:lh P ty=some z):(zeroValue ty).run P w= .ok (conc E z) w∧bd c z:=by
 unfold lh at h
 obtain⟨v,hv,hz⟩:=aW.1 h
 obtain⟨i,hi,hv'⟩:=aW.1 hv
 have:=mF E c _ v z hz
 refine⟨?_,this.2⟩
 simp[zeroValue,typeInfo,hi,hv',this.1]
theorem Cx.map(h:Cx P E F M c w t a){b:Nat}{es:List (V×V×Nat)}{k:Nat}(hb:look F M b=some (.map es k)):w.heap[E.ρ b]?=some (.map (es.map (entry E)).toArray k)∧ ∀e∈es,bd c e.1∧bd c e.2.1:=by
 obtain⟨_,hv,o,ho,rfl⟩:=h.rel.has _ _ hb
 exact⟨ho,hv⟩
theorem eD{r:Nat}{es:Array MapEntry}{k:Nat}(h:w.heap[r]?=some (.map es k)):(getObj r).run P w= .ok (.map es k) w:=by
 simp[getObj,Sem.run,h]
theorem SD(h:Cx P E F M c w t a){o:Oper}{ty:TypeId}{y i:Operand}{ok:Bool}(hop:o.op= .lookup ty y i ok){q:QO}(hc:aE P o.op=some (.q q)){x:V}(hx:(cS q F M t).val=some x):qI P E c w a o x:=by
 rw[hop]at hc
 simp only[aE]at hc
 split at hc
 ·rename_i kt et xa xi hu h1 h2;split at hc
  ·rename_i sh z hks hz;obtain rfl:QO.lk sh z ok xa xi=q:=by simpa [Ev.q]using hc
   obtain⟨d,hd,hkk⟩:=tD hks;have e1:=h.ev h1;have e2:=h.ev h2;have hz':=jW (E:=E) (c:=c) (w:=w) hz;have hx':(Ib sh z ok xa xi F M t).val=some x:=hx;unfold Ib at hx';split at hx'
   ·rename_i hv;obtain rfl:=ae hx';rw[hv]at e1;refine⟨?_,by cases ok<;>simp[bd,fZ,hz'.2]⟩;simp only[execOp,hop];refine be ?_;rw[e1.1,e2.1];simp only[Instr.lookup,conc,aT,aK hu,aV,aP,fC hd hkk,Instr.findKey,aK hd,Instr.findNow,hz'.1];cases ok<;>simp[Instr.findNow,hz'.1,conc,aI]
   ·rename_i b hv;obtain⟨es,k,hl,hg⟩:=vJ hx';obtain⟨ho,hbd⟩:=h.map hl;rw[hv]at e1;unfold FL at hg;split at hg
    ·rename_i j v hf;obtain rfl:=ae hg;have hfk:=j9 (P:=P) (w:=w) (E:=E) hd hkk hf;obtain⟨_,k',b',hm,_⟩:=(mR (E:=E) hkk es 0 _ hf).2 (j,v) rfl;have hbv:bd c v:=(hbd _ (List.mem_of_getElem? hm)).2;refine⟨?_,by cases ok<;>simp[bd,fZ,hbv]⟩;simp only[execOp,hop];refine be ?_;rw[e1.1,e2.1];simp only[Instr.lookup,conc,aT,aK hu,aV,eD ho,aP,fC hd hkk,List.toList_toArray,hfk,Option.map_some];cases ok<;>simp[conc,aI]
    ·rename_i hf;obtain rfl:=ae hg;have hfk:=j9 (P:=P) (w:=w) (E:=E) hd hkk hf;refine⟨?_,by cases ok<;>simp[bd,fZ,hz'.2]⟩;simp only[execOp,hop];refine be ?_;rw[e1.1,e2.1];simp only[Instr.lookup,conc,aT,aK hu,aV,eD ho,aP,fC hd hkk,List.toList_toArray,hfk,Option.map_none,hz'.1];cases ok<;>simp[conc,aI]
    ·cases hg
   ·cases hx'
  ·cases hc
 ·cases hc
theorem Ia(h:Cx P E F M c w t a){o:Oper}{y:Operand}{i:Nat}(hop:o.op= .extract y i){q:QO}(hc:aE P o.op=some (.q q)){x:V}(hx:(cS q F M t).val=some x):qI P E c w a o x:=by
 rw[hop]at hc
 obtain⟨z,hz,rfl⟩:=kl (f:=fun x=> .ex i x) hc
 have e:=h.ev hz
 have hx':(u1 i z F M t).val=some x:=hx
 unfold u1 at hx'
 cases hv:z.ev t with
 |t vs=>
  rw[hv]at hx' e;have hr:=DP hx';rw[jl]at hr;refine⟨?_,eZ (l:=vs) e.2 hr⟩;simp only[execOp,hop];refine be ?_;rw[e.1];simp[Instr.extract,conc,fk hr]
 |_=>rw[hv]at hx';cases(show(none:Option V)=some x from hx')
theorem yx(h:Cx P E F M c w t a){o:Oper}{y:Operand}{xt ty:TypeId}{ok:Bool}(hop:o.op= .typeAssert y xt ty ok){q:QO}(hc:aE P o.op=some (.q q)){x:V}(hx:(cS q F M t).val=some x):qI P E c w a o x:=by
 rw[hop]at hc;simp only[aE,Ev.q]at hc
 repeat' split at hc
 all_goals first|(cases hc;done)|(cases hc;cases(show(none:Option V)=some x from hx))|(obtain⟨z,_,e⟩:=aW.1 hc;cases e;cases(show(none:Option V)=some x from hx))
end
theorem cM(E:cU)(v:V):(conc E v).cells=(aI E (flatten v)).toArray:=by
 cases v<;>rfl
theorem eA{c:Nat→Prop}{v:V}(h:bd c v):fZ c (flatten v):=by
 cases v<;>first|exact⟨h,trivial⟩|exact h
theorem kC{α:Type}:∀(l:List α) (o:Nat) (vs r:List α),eX l o vs=some r→o+vs.length≤l.length∧r.length=l.length∧ ∀j,r[j]?=if o≤j∧j<o+vs.length then vs[j-o]? else l[j]?
 |l,0,[],r,h=>by
  have:r=l:=by rw[eX.eq_def]at h;exact(ae h).symm
  subst this;refine⟨by simp,rfl,fun j=>by rw[ab (by simp)]⟩
 |[],0,v::vs,r,h=>by rw[eX.eq_def]at h;cases h
 |x::l,0,v::vs,r,h=>by
  rw[eX.eq_def]at h;dsimp only at h;split at h
  ·rename_i t' ht;obtain rfl:=ae h;obtain⟨h1,h2,h3⟩:=kC l 0 vs t' ht;refine⟨by simp at h1⊢;omega,by simp[h2],fun j=>?_⟩;cases j with
   |zero=>simp
   |succ j=>
    rw[List.getElem?_cons_succ,h3 j];simp only[ax,true_and,Nat.sub_zero,av,List.getElem?_cons_succ,Nat.zero_add];by_cases hj:j<vs.length
    ·rw[ac hj,ac (by omega)]
    ·rw[ab hj,ab (by omega)]
  ·cases h
 |[],o+1,vs,r,h=>by rw[eX.eq_def]at h;cases vs<;>cases h
 |x::l,o+1,vs,r,h=>by
  have h':(match eX l o vs with|some t=>some (x::t)|none=>none)=some r:=by
   rw[eX.eq_def]at h;cases vs<;>exact h
  split at h'
  ·rename_i t' ht;obtain rfl:=ae h';obtain⟨h1,h2,h3⟩:=kC l o vs t' ht;refine⟨by simp;omega,by simp[h2],fun j=>?_⟩;cases j with
   |zero=>rw[ab (by omega)];rfl
   |succ j=>
    rw[List.getElem?_cons_succ,List.getElem?_cons_succ,h3 j,show j+1-(o+1)=j-o by omega];by_cases hj:o≤j∧j<o+vs.length
    ·rw[ac hj,ac (by omega)]
    ·rw[ab hj,ab (by omega)]
  ·cases h'
theorem oO(off:Nat):∀(vs:List Value) (k:Nat) (cs:Array Value),
 ((vs.zipIdx k).foldl (fun cs (p:Value×Nat)=>cs.setIfInBounds (off+p.2) p.1) cs).size=cs.size∧
 ∀j,j<cs.size→((vs.zipIdx k).foldl (fun cs (p:Value×Nat)=>cs.setIfInBounds (off+p.2) p.1) cs)[j]?=if off+k≤j∧j<off+k+vs.length then vs[j-(off+k)]? else cs[j]?
 |[],k,cs=>⟨rfl,fun j _=>by simp only[List.zipIdx_nil,List.foldl_nil];rw[ab (by simp)]⟩
 |v::vs,k,cs=>by
  simp only[List.zipIdx_cons,List.foldl_cons];have ih:=oO off vs (k+1) (cs.setIfInBounds (off+k) v);refine⟨by rw[ih.1];simp,fun j hj=>?_⟩;rw[ih.2 j (by simpa using hj)];by_cases h1:off+(k+1)≤j∧j<off+(k+1)+vs.length
  ·rw[ac h1,ac (by simp;omega),show j-(off+k)=(j-(off+(k+1)))+1 by omega,List.getElem?_cons_succ]
  ·rw[ab h1];by_cases h2:j=off+k
   ·subst h2;rw[ac (by simp),Nat.sub_self,List.getElem?_cons_zero];simp[hj]
   ·rw[ab (by simp;omega),Array.getElem?_setIfInBounds_ne (by omega)]
section
variable{P:Program}{E:cU}{F:RO}{M:Mem}{c:Nat→Prop}{w:World}{t:T}{a:Act}
theorem Hr{cs r:List V}{o:Nat}{vs:List V}(h:eX cs o vs=some r):
 (((aI E vs).toArray).zipIdx.foldl (fun cs (p:Value×Nat)=>cs.setIfInBounds (o+p.2) p.1) (aI E cs).toArray)=(aI E r).toArray:=by
 obtain⟨h1,h2,h3⟩:=kC _ _ _ _ h
 have hz:((aI E vs).toArray).zipIdx.foldl (fun cs (p:Value×Nat)=>cs.setIfInBounds (o+p.2) p.1) (aI E cs).toArray=
  ((aI E vs).zipIdx 0).foldl (fun cs (p:Value×Nat)=>cs.setIfInBounds (o+p.2) p.1) (aI E cs).toArray:=by
  simp
 rw[hz]
 have hf:=oO o (aI E vs) 0 (aI E cs).toArray
 apply Array.ext_getElem?
 intro j
 by_cases hj:j<cs.length
 ·rw[hf.2 j (by simp[bM,hj])];simp only[List.getElem?_toArray,bM,List.getElem?_map,List.length_map,aB];rw[h3 j];by_cases hc:o≤j∧j<o+vs.length
  ·rw[ac hc,ac hc]
  ·rw[ab hc,ab hc]
 ·rw[Array.getElem?_eq_none (by rw[hf.1];simp[bM];omega),Array.getElem?_eq_none (by simp[bM];omega)]
theorem tj(h:Cx P E F M c w t a){place:Nat→Option (Nat×Nat)}:∀{ps:List (Nat×Operand)} {qs:List (Nat×Nat×X)} {cs r:List V},jx place ps=some qs→fillParts t cs qs=some r→fZ c cs→
 Instr.fill place (aI E cs).toArray (ps.map fun p=>(p.1,a.eval p.2))=some (aI E r).toArray∧fZ c r
 |[],qs,cs,r,hc,hf,hb=>by
  obtain rfl:=ae hc;obtain rfl:=ae hf;exact⟨rfl,hb⟩
 |(i,y)::ps,qs,cs,r,hc,hf,hb=>by
  rw[jx]at hc;split at hc
  ·rename_i o s x l h1 h2 h3;obtain rfl:=ae hc;rw[fillParts,bR]at hf;have e:=h.ev h2;by_cases hs:(flatten (x.ev t)).length=s
   ·rw[ah hs,cond_true]at hf;split at hf
    ·rename_i cs' hr;obtain⟨g1,g2,g3⟩:=kC _ _ _ _ hr;have hb':fZ c cs':=by
      refine(mP c cs').2 fun v hv=>?_;obtain⟨j,hj⟩:=List.mem_iff_getElem?.1 hv;rw[g3 j]at hj;split at hj
      ·exact eZ (eA e.2) hj
      ·exact eZ hb hj
     have ih:=tj h h3 hf hb';refine⟨?_,ih.2⟩;have hcells:(a.eval y).cells=(aI E (flatten (x.ev t))).toArray:=by rw[e.1,cM]
     simp only[List.map_cons,Instr.fill,h1,hcells];have c1:(aI E (flatten (x.ev t))).toArray.size=s:=by simp[bM,hs]
     have c2:¬(o+s>(aI E cs).toArray.size):=by simp[bM];omega
     rw[c1];simp only[ne_eq,not_true_eq_false,decide_false,Bool.false_or,decide_eq_true_eq,c2,if_false];rw[Hr hr];exact ih.1
    ·cases hf
   ·rw[ag hs]at hf;cases hf
  ·cases hc
theorem lS:∀{fs:List Field} {ps:List (Nat×Nat)},kp P fs=some ps→(fs.mapM fun f=>do pure (f.offset,←Go.sizeOf f.type):Sem (List (Nat×Nat))).run P w= .ok ps w
 |[],ps,h=>by obtain rfl:=ae h;simp
 |f::fs,ps,h=>by
  rw[kp]at h;split at h
  ·rename_i s l h1 h2;obtain rfl:=ae h;simp only[List.mapM_cons,aT,dH h1,aV,aP,lS h2]
  ·cases h
theorem dy(v:V):bI v=flatten v:=by cases v<;>rfl
theorem Xn(h:Cx P E F M c w t a){o:Oper}{ty:TypeId}{parts:Array (Nat×Operand)}(hop:o.op= .build ty parts){q:QO}(hc:aE P o.op=some (.q q)){x:V}(hx:(cS q F M t).val=some x):qI P E c w a o x:=by
 rw[hop]at hc
 simp only[aE]at hc
 have hparts:(parts.map fun(p:Nat×Operand)=>(p.1,a.eval p.2)).toList=parts.toList.map fun p=>(p.1,a.eval p.2):=by simp
 split at hc
 ·rename_i z fs hz hu;split at hc
  ·rename_i ps hps;obtain⟨qs,hqs,e⟩:=aW.1 hc;obtain rfl:QO.bld (bI z) qs=q:=by simpa [Ev.q]using e
   obtain⟨r,hr,rfl⟩:=DO (show(qg (fillParts t (bI z) qs)).val=some x from hx);have hz':=jW (E:=E) (c:=c) (w:=w) hz;have hf:=tj h hqs hr (by rw[dy];exact eA hz'.2);refine⟨?_,hf.2⟩;simp only[execOp,hop];refine be ?_
   have hm:(fs.mapM fun f=>do pure (f.offset,←Go.sizeOf f.type):Sem (Array (Nat×Nat))).run P w= .ok ps.toArray w:=by
    rw[Array.mapM_eq_mapM_toList];simp only[Sem.run_map,lS hps,aV]
   have hcz:(conc E z).cells=(aI E (bI z)).toArray:=by rw[cM,dy]
   have hpl:(fun(i:Nat)=>ps.toArray[i]?)=fun(i:Nat)=>ps[i]?:=by funext i;simp
   simp only[Instr.build,aT,hz'.1,aV,aK hu,hm,hparts,hcz,hpl,hf.1,aP,conc]
  ·cases hc
 ·rename_i z n el hz hu;split at hc
  ·rename_i s hs;obtain⟨qs,hqs,e⟩:=aW.1 hc;obtain rfl:QO.bld (bI z) qs=q:=by simpa [Ev.q]using e
   obtain⟨r,hr,rfl⟩:=DO (show(qg (fillParts t (bI z) qs)).val=some x from hx);have hz':=jW (E:=E) (c:=c) (w:=w) hz;have hf:=tj h hqs hr (by rw[dy];exact eA hz'.2);refine⟨?_,hf.2⟩;simp only[execOp,hop];refine be ?_;have hcz:(conc E z).cells=(aI E (bI z)).toArray:=by rw[cM,dy]
   simp only[Instr.build,aT,hz'.1,aV,aK hu,dH hs,hparts,hcz,hf.1,aP,conc]
  ·cases hc
 ·cases hc
end
section
variable{P:Program}{E:cU}{F:RO}{M:Mem}{c:Nat→Prop}{w:World}{t:T}{a:Act}
theorem AH(h:Cx P E F M c w t a){b:Nat}(hp:jF F M b=true):∃ty n,w.shape? (E.ρ b)=some (ty,n)∧E.β b≤n∧(∀o,E.β b≤o→w.frozen? ⟨E.ρ b,o,none⟩=false)∧(look F M b).isSome:=by
 unfold jF at hp
 split at hp
 ·rename_i ty n ex fz str d cs hl;obtain⟨arr,fr,ho,hr⟩:=h.cells hl;rw[bR]at hp;simp only[aC,decide_eq_true_eq,Bool.not_eq_true']at hp;obtain⟨⟨rfl,rfl⟩,_⟩:=hp;have hle:=hr.le;refine⟨ty,arr.size,by simp[World.shape?,ho],by omega,fun o hob=>?_,by rw[hl];rfl⟩;simp only[World.frozen?,ho];rw[Bool.and_eq_false_iff];simp only[decide_eq_false_iff_not];rcases hr.plain rfl with e|⟨hz,e⟩<;>omega
 ·cases hp
theorem I5(h:Cx P E F M c w t a){b o b' o':Nat}{r:Bool}(hr:Ap F M b o b' o'=some r):
 (sameAddr ⟨E.ρ b,E.β b+o,none⟩ ⟨E.ρ b',E.β b'+o',none⟩).run P w= .ok r w:=by
 unfold Ap at hr
 rw[bR]at hr
 by_cases hb:b=b'
 ·subst hb;rw[ah rfl,cond_true]at hr;obtain rfl:=ae hr;rw[bR];by_cases ho:o=o'
  ·subst ho;simp[sameAddr]
  ·have:¬(E.β b+o=E.β b+o'):=by omega
   simp[sameAddr,ho,this]
 ·rw[ag hb,cond_false]at hr;by_cases hp:(jF F M b&&jF F M b')=true
  ·rw[hp,cond_true]at hr;obtain rfl:=ae hr;rw[aC]at hp;obtain⟨ty,n,hs,hn,hf,hl⟩:=AH h hp.1;obtain⟨ty',n',hs',hn',hf',hl'⟩:=AH h hp.2;have hne:¬(E.ρ b=E.ρ b'):=fun e=>hb (h.rel.inj b b' hl hl' e);have f1:=hf (E.β b+o) (by omega);have f2:=hf' (E.β b'+o') (by omega);have f3:=hf n hn;have f4:=hf' n' hn';simp[sameAddr,hne,f1,f2,noView,viewAt,hs,hs',mayBeOne,stringish,f3,f4]
  ·rw[Bool.not_eq_true]at hp;rw[hp]at hr;cases hr
inductive kP(P:Program)(ty:TypeId):Sh→Prop
 |bool:P.underlying ty=some .bool→kP P ty .bool
 |int (k:IntKind):P.underlying ty=some (.int k)→kP P ty .int
 |str:P.underlying ty=some .string→kP P ty .str
 |ptr (e s:Nat):P.underlying ty=some (.pointer e)→dB P e=some (s+1)→kP P ty .ptr
 |slice (e:Nat):P.underlying ty=some (.slice e)→kP P ty .slice
 |map (k e:Nat):P.underlying ty=some (.map k e)→kP P ty .map
 |func (p r:Array TypeId) (v:Bool):P.underlying ty=some (.func p r v)→kP P ty .func
 |iface (ms:Array (String×TypeId)):P.underlying ty=some (.interface ms)→kP P ty .iface
theorem qp{ty:TypeId}{sh:Sh}(h:Ga P ty=some sh):kP P ty sh:=by
 unfold Ga at h
 split at h
 ·rename_i hu;obtain rfl:=ae h;exact .bool hu
 ·rename_i hu;obtain rfl:=ae h;exact .int _ hu
 ·rename_i hu;obtain rfl:=ae h;exact .str hu
 ·rename_i e hu;split at h
  ·cases h
  ·rename_i hs;obtain rfl:=ae h;cases hz:dB P e with
   |none=>rw[hz]at hs;simp at hs
   |some k=>cases k with
    |zero=>rw[hz]at hs;simp at hs
    |succ k=>exact .ptr e k hu hz
 ·rename_i hu;obtain rfl:=ae h;exact .slice _ hu
 ·rename_i hu;obtain rfl:=ae h;exact .map _ _ hu
 ·rename_i hu;obtain rfl:=ae h;exact .func _ _ _ hu
 ·rename_i hu;obtain rfl:=ae h;exact .iface _ hu
 ·cases h
theorem gm{v:V}{b:Bool}(h:Ak v=some b):if b then conc E v= .slice none 0 0 else∃ad n k,conc E v= .slice (some ad) n k:=by
 cases v<;>first|cases(show(none:Option Bool)=some b from h)|(obtain rfl:=ae h;first|rfl|exact⟨_,_,_,rfl⟩)
theorem gn{v:V}{b:Bool}(h:Al v=some b):if b then conc E v= .map none else∃r,conc E v= .map (some r):=by
 cases v<;>first|cases(show(none:Option Bool)=some b from h)|(obtain rfl:=ae h;first|rfl|exact⟨_,rfl⟩)
theorem gk{v:V}{b:Bool}(h:Aj v=some b):if b then conc E v= .nilFunc else∃f l k,conc E v= .func f l k:=by
 cases v<;>first|cases(show(none:Option Bool)=some b from h)|(obtain rfl:=ae h;first|rfl|exact⟨_,_,_,rfl⟩)
theorem bY{v:V}{b:Bool}(h:yj v=some b):if b then v= .a0 else∃ty z,v= .a ty z:=by
 cases v<;>first|cases(show(none:Option Bool)=some b from h)|(obtain rfl:=ae h;first|rfl|exact⟨_,_,rfl⟩)
theorem cX{lit:Bool}{p q:Option Bool}{r:Bool}(h:iN lit p q=some r):
 (p=some true∧q=some true∧lit=true∧r=true)∨(p=some true∧q=some false∧r=false)∨(p=some false∧q=some true∧r=false):=by
 unfold iN at h
 split at h
 ·cases lit with
  |false=>cases h
  |true=>exact .inl ⟨rfl,rfl,rfl,(ae h).symm⟩
 ·exact .inr (.inl ⟨rfl,rfl,(ae h).symm⟩)
 ·exact .inr (.inr ⟨rfl,rfl,(ae h).symm⟩)
 ·cases h
theorem xU(h:Cx P E F M c w t a){ty:TypeId}{sh:Sh}(hs:kP P ty sh){lit:Bool}{x y:V}{r:Bool}(hr:Br F M sh lit x y=some r)(d:Nat):
 (Op.equalIn (d+1) ty (conc E x) (conc E y)).run P w= .ok r w:=by
 cases hs with
 |bool hu=>
  have hr':eqB x y=some r:=hr;unfold eqB at hr';split at hr'
  ·obtain rfl:=ae hr';simp[Op.equalIn,aK hu,conc]
  ·cases hr'
 |int k hu=>
  have hr':Ww x y=some r:=hr;unfold Ww at hr';split at hr'
  ·rename_i k1 m k2 n;rw[eK]at hr';by_cases hk:k1=k2
   ·rw[ah hk,cond_true,da]at hr';obtain rfl:=ae hr';simp[Op.equalIn,aK hu,conc,hk];rw[Bool.eq_iff_iff];simp
   ·rw[ag hk]at hr';cases hr'
  ·cases hr'
 |str hu=>
  have hr':eqS x y=some r:=hr;unfold eqS at hr';split at hr'
  ·obtain rfl:=ae hr';simp[Op.equalIn,aK hu,conc,CK,ix]
  ·cases hr'
 |ptr e s hu hz=>
  have hr':eqP F M x y=some r:=hr;unfold eqP at hr';split at hr'
  ·obtain rfl:=ae hr';simp[Op.equalIn,aK hu,conc]
  ·obtain rfl:=ae hr';simp[Op.equalIn,aK hu,conc]
  ·obtain rfl:=ae hr';simp[Op.equalIn,aK hu,conc]
  ·have hp:=I5 h hr';simp[Op.equalIn,aK hu,conc,dH hz,hp]
  ·cases hr'
 |slice e hu=>
  rcases cX (show iN true (Ak x) (Ak y)=some r from hr)with⟨h1,h2,_,rfl⟩|⟨h1,h2,rfl⟩|⟨h1,h2,rfl⟩
  ·have e1:=gm (E:=E) h1;have e2:=gm (E:=E) h2;simp only[if_true]at e1 e2;rw[e1,e2];simp[Op.equalIn,aK hu]
  ·have e1:=gm (E:=E) h1;have e2:=gm (E:=E) h2;simp only[if_true,bu,if_false]at e1 e2;obtain⟨_,_,_,e2⟩:=e2;rw[e1,e2];simp[Op.equalIn,aK hu]
  ·have e1:=gm (E:=E) h1;have e2:=gm (E:=E) h2;simp only[if_true,bu,if_false]at e1 e2;obtain⟨_,_,_,e1⟩:=e1;rw[e1,e2];simp[Op.equalIn,aK hu]
 |map k e hu=>
  rcases cX (show iN true (Al x) (Al y)=some r from hr)with⟨h1,h2,_,rfl⟩|⟨h1,h2,rfl⟩|⟨h1,h2,rfl⟩
  ·have e1:=gn (E:=E) h1;have e2:=gn (E:=E) h2;simp only[if_true]at e1 e2;rw[e1,e2];simp[Op.equalIn,aK hu]
  ·have e1:=gn (E:=E) h1;have e2:=gn (E:=E) h2;simp only[if_true,bu,if_false]at e1 e2;obtain⟨_,e2⟩:=e2;rw[e1,e2];simp[Op.equalIn,aK hu]
  ·have e1:=gn (E:=E) h1;have e2:=gn (E:=E) h2;simp only[if_true,bu,if_false]at e1 e2;obtain⟨_,e1⟩:=e1;rw[e1,e2];simp[Op.equalIn,aK hu]
 |func p r' v hu=>
  rcases cX (show iN true (Aj x) (Aj y)=some r from hr)with⟨h1,h2,_,rfl⟩|⟨h1,h2,rfl⟩|⟨h1,h2,rfl⟩
  ·have e1:=gk (E:=E) h1;have e2:=gk (E:=E) h2;simp only[if_true]at e1 e2;rw[e1,e2];simp[Op.equalIn,aK hu]
  ·have e1:=gk (E:=E) h1;have e2:=gk (E:=E) h2;simp only[if_true,bu,if_false]at e1 e2;obtain⟨_,_,_,e2⟩:=e2;rw[e1,e2];simp[Op.equalIn,aK hu]
  ·have e1:=gk (E:=E) h1;have e2:=gk (E:=E) h2;simp only[if_true,bu,if_false]at e1 e2;obtain⟨_,_,_,e1⟩:=e1;rw[e1,e2];simp[Op.equalIn,aK hu]
 |iface ms hu=>
  rcases cX (show iN lit (yj x) (yj y)=some r from hr)with⟨h1,h2,_,rfl⟩|⟨h1,h2,rfl⟩|⟨h1,h2,rfl⟩
  ·have e1:=bY h1;have e2:=bY h2;simp only[if_true]at e1 e2;rw[e1,e2];simp[Op.equalIn,aK hu,conc]
  ·have e1:=bY h1;have e2:=bY h2;simp only[if_true,bu,if_false]at e1 e2;obtain⟨_,_,e2⟩:=e2;rw[e1,e2];simp[Op.equalIn,aK hu,conc]
  ·have e1:=bY h1;have e2:=bY h2;simp only[if_true,bu,if_false]at e1 e2;obtain⟨_,_,e1⟩:=e1;rw[e1,e2];simp[Op.equalIn,aK hu,conc]
end
section
variable{P:Program}{E:cU}{F:RO}{M:Mem}{c:Nat→Prop}{w:World}{t:T}{a:Act}
theorem kP.noAgg{ty:TypeId}{sh:Sh}(h:kP P ty sh):rJ P ty=some false:=by
 cases h with
 |ptr e s hu _=>simp only[rJ,hu]
 |_=>rename_i hu;simp only[rJ,hu]
theorem vX(h:Cx P E F M c w t a){xs ys:List V}:∀{fs:List Field} {ks:List (Nat×Sh)} {r:Bool},pm P fs=some ks→kT F M xs ys ks=some r→ ∀d,(Op.eqFields (d+1) (aI E xs).toArray (aI E ys).toArray fs).run P w= .ok r w
 |[],ks,r,hs,hr,d=>by
  obtain rfl:=ae hs;obtain rfl:=ae hr;rfl
 |f::fs,ks,r,hs,hr,d=>by
  rw[pm]at hs;split at hs
  ·rename_i sh l h1 h2;split at hs
   ·rename_i hn;obtain rfl:=ae hs;have hsh:=qp h1;rw[kT]at hr;split at hr
    ·rename_i x y hx hy;rw[jl]at hx hy;have hag:=hsh.noAgg;have p1:=oZ (P:=P) (w:=w) (E:=E) hag hx;have p2:=oZ (P:=P) (w:=w) (E:=E) hag hy;split at hr
     ·rename_i he;have e1:=xU h hsh he d;simp only[Op.eqFields,hn,ne_eq,not_false_eq_true,if_true,aT,p1,p2,aV,e1,Sem.run_ite,Bool.not_true,bu,if_false];exact vX h h2 hr d
     ·rename_i hne;have e1:=xU h hsh hr d;cases r with
      |true=>exact absurd hr hne
      |false=>simp only[Op.eqFields,hn,ne_eq,not_false_eq_true,if_true,aT,p1,p2,aV,e1,Sem.run_ite,Bool.not_false,if_true,aP]
    ·cases hr
   ·cases hs
  ·cases hs
theorem H8{ty:TypeId}{x y:Value}(h1:∀k m k' n,¬(x= .int k m∧y= .int k' n))(h2:∀m n,¬(x= .string m∧y= .string n))(h3:∀k m,x≠ .float k m)(h4:∀k m n,x≠ .complex k m n):
 (binOp .eql ty x y)=(do pure (.bool (←Op.equal ty x y)))∧(binOp .neq ty x y)=(do pure (.bool (!(←Op.equal ty x y)))):=by
 cases x<;>first
  |exact absurd rfl (h3 _ _)
  |exact absurd rfl (h4 _ _ _)
  |exact⟨rfl,rfl⟩
  |(cases y<;>first
   |exact(h1 _ _ _ _ ⟨rfl,rfl⟩).elim
   |exact(h2 _ _ ⟨rfl,rfl⟩).elim
   |exact⟨rfl,rfl⟩)
def Odd:Value→Prop
 | .int _ _| .string _| .float _ _| .complex _ _ _=>False
 |_=>True
theorem aR7{ty:TypeId}{A B:Operand}{x y:Value}{r:Bool}(hodd:Odd x)(hg:∀op,(eqGuard op ty A B x y).run P w= .ok () w)(he:(Op.equalIn 10000 ty x y).run P w= .ok r w)(neg:Bool):
 (eqGuard (if neg then .neq else .eql) ty A B x y>>=fun _=>binOp (if neg then .neq else .eql) ty x y).run P w= .ok (.bool (if neg then !r else r)) w:=by
 have hb:=H8 (ty:=ty) (x:=x) (y:=y) (fun k m k' n e=>by rw[e.1]at hodd;exact hodd) (fun m n e=>by rw[e.1]at hodd;exact hodd) (fun k m e=>by rw[e]at hodd;exact hodd) (fun k m n e=>by rw[e]at hodd;exact hodd)
 have he':(Op.equal ty x y).run P w= .ok r w:=he
 simp only[aT,hg,aV]
 cases neg with
 |true=>simp[hb.2,he']
 |false=>simp[hb.1,he']
theorem cj{op:BinOp}{ty:TypeId}{A B:Operand}{x y:Value}(h1:¬(x= .nilIface∧y= .nilIface))(h2:∀l m,¬(x= .agg l∧y= .agg m)):(eqGuard op ty A B x y).run P w= .ok () w:=by
 unfold eqGuard
 split
 all_goals simp only[Bool.not_true,bu,if_false,Bool.not_false,if_true]
 all_goals try rfl
 all_goals
  split
  ·exact absurd ⟨rfl,rfl⟩ h1
  ·exact absurd ⟨rfl,rfl⟩ (h2 _ _)
  ·rfl
theorem zW{op:BinOp}{ty:TypeId}{A B:Operand}(h:(isConstO A||isConstO B)=true):(eqGuard op ty A B .nilIface .nilIface).run P w= .ok () w:=by
 cases A<;>cases B<;>first|(simp[isConstO]at h;done)|(cases op<;>simp[eqGuard])
theorem Fr(k:Nat):∀l:List Nat,Dz k l=l.contains k
 |[]=>rfl
 |h::r=>by
  have:Dz k (h::r)=(bif Nat.beq h k then true else Dz k r):=rfl;rw[this,bR,Fr k r,List.contains_cons];by_cases e:h=k
  ·subst e;simp
  ·rw[ag e,cond_false,show(k==h)=false by simp;exact fun e'=>e e'.symm];rfl
theorem RK{L:List Nat}(hL:L=nW P){t:Nat}(h:Dz t L=true):∃i k,P.info? t=some i∧i.comparable=true∧P.underlying t=some (.int k):=by
 rw[Fr,List.contains_iff_mem,hL]at h
 unfold nW at h
 rw[List.mem_filter]at h
 have h2:=h.2
 unfold aB2 at h2
 split at h2
 ·rename_i i k h3 h4;exact⟨i,k,h3,h2,h4⟩
 ·cases h2
theorem Rt{ty:TypeId}{ms:Array (String×TypeId)}(hu:P.underlying ty=some (.interface ms)){x y:V}{r:Bool}(hr:zY (nW P) x y=some r)(d:Nat):
 (Op.equalIn (d+2) ty (conc E x) (conc E y)).run P w= .ok r w:=by
 unfold zY at hr
 split at hr
 ·rename_i t1 v1 t2 v2;rw[bR]at hr;by_cases ht:t1=t2
  ·subst ht;rw[ah rfl,cond_true]at hr;by_cases hm:Dz t1 (nW P)=true
   ·rw[hm,cond_true]at hr;obtain⟨i,k,h1,h2,h3⟩:=RK rfl hm;unfold Ww at hr;split at hr
    ·rename_i k1 m k2 n;rw[eK]at hr;by_cases hk:k1=k2
     ·rw[ah hk,cond_true,da]at hr;obtain rfl:=ae hr;subst hk;have inner:(Op.equalIn (d+1) t1 (.int k1 m) (.int k1 n)).run P w= .ok (m==n) w:=by
       simp[Op.equalIn,aK h3]
      have hti:(typeInfo t1).run P w= .ok i w:=by simp[typeInfo,h1]
      have hmn:decide (m=n)=(m==n):=by rw[Bool.eq_iff_iff];simp
      rw[hmn];simp only[conc];rw[Op.equalIn.eq_2];simp only[aT,aK hu,aV,ne_eq,not_true_eq_false,if_false,hti,h2,Bool.not_true,bu,inner]
     ·rw[ag hk]at hr;cases hr
    ·cases hr
   ·rw[Bool.not_eq_true]at hm;rw[hm]at hr;cases hr
  ·rw[ag ht,cond_false]at hr;obtain rfl:=ae hr;simp[Op.equalIn,aK hu,conc,ht]
 ·rcases cX hr with⟨_,_,h3,_⟩|⟨h1,h2,rfl⟩|⟨h1,h2,rfl⟩
  ·cases h3
  ·have e1:=bY h1;have e2:=bY h2;simp only[if_true,bu,if_false]at e1 e2;obtain⟨_,_,e2⟩:=e2;rw[e1,e2];simp[Op.equalIn,aK hu,conc]
  ·have e1:=bY h1;have e2:=bY h2;simp only[if_true,bu,if_false]at e1 e2;obtain⟨_,_,e1⟩:=e1;rw[e1,e2];simp[Op.equalIn,aK hu,conc]
theorem Hp{L:List Nat}{x y:V}{r:Bool}(hr:zY L x y=some r):(x= .a0∨ ∃t v,x= .a t v)∧ ¬(x= .a0∧y= .a0):=by
 unfold zY at hr
 split at hr
 ·exact⟨.inr ⟨_,_,rfl⟩,fun h=>by cases h.1⟩
 ·rcases cX hr with⟨_,_,h3,_⟩|⟨h1,h2,rfl⟩|⟨h1,h2,rfl⟩
  ·cases h3
  ·have e1:=bY h1;have e2:=bY h2;simp only[if_true,bu,if_false]at e1 e2;obtain⟨_,_,e2⟩:=e2;exact⟨.inl e1,fun h=>by rw[e2]at h;cases h.2⟩
  ·have e1:=bY h1;simp only[bu,if_false]at e1;obtain⟨_,_,e1⟩:=e1;exact⟨.inr ⟨_,_,e1⟩,fun h=>by rw[e1]at h;cases h.1⟩
theorem D6{L:List Nat}{x y:V}{r:Bool}(hr:zY L x y=some r):y= .a0∨ ∃t v,y= .a t v:=by
 unfold zY at hr
 split at hr
 ·exact .inr ⟨_,_,rfl⟩
 ·rcases cX hr with⟨_,_,h3,_⟩|⟨h1,h2,rfl⟩|⟨h1,h2,rfl⟩
  ·cases h3
  ·have e2:=bY h2;simp only[bu,if_false]at e2;exact .inr e2
  ·have e2:=bY h2;simp only[if_true]at e2;exact .inl e2
theorem Di(P:Program)(lit:Bool)(sh:Sh):ya P lit sh=sh∨(sh= .iface∧lit=false∧ya P lit sh= .ifs (nW P)):=by
 unfold ya
 split
 ·exact .inr ⟨rfl,rfl,rfl⟩
 ·exact .inl rfl
theorem FE(h:Cx P E F M c w t a){o:Oper}{op:BinOp}{ty ty':TypeId}{y z:Operand}(neg:Bool)(hop:o.op= .binOp (if neg then .neq else .eql) ty y z ty'){sh:Sh}(hsh:T4 P ty=some sh){d:TypeDesc}(hu:P.underlying ty=some d)(hd1:∀k,d≠ .int k)(hd2:d≠ .string)
 {xa xb:X} (h1:bf y=some xa) (h2:bf z=some xb) {x:V} (hx:(cS (.eq neg (ya P (isConstO y||isConstO z) sh) (isConstO y||isConstO z) xa xb) F M t).val=some x):qI P E c w a o x:=by
 have e1:=h.ev h1
 have e2:=h.ev h2
 have hx':(ww neg (zh F M (ya P (isConstO y||isConstO z) sh) (isConstO y||isConstO z) (xa.ev t) (xb.ev t))).val=some x:=hx
 unfold ww at hx'
 split at hx'
 ·rename_i r hr;obtain rfl:=rF hx';refine⟨?_,trivial⟩
  have fin:∀(hodd:Odd (conc E (xa.ev t))),(∀op,(eqGuard op ty y z (conc E (xa.ev t)) (conc E (xb.ev t))).run P w= .ok () w)→(Op.equalIn 10000 ty (conc E (xa.ev t)) (conc E (xb.ev t))).run P w= .ok r w→
   (execOp a.eval o).run P w= .ok (.value (conc E (.b (bif neg then !r else r)))) w:=by
   intro hodd hg he;simp only[execOp,hop];refine be ?_;rw[e1.1,e2.1,aR7 hodd hg he neg];cases neg<;>rfl
  rcases Di P (isConstO y||isConstO z) sh with hif|⟨rfl,hlit,hif⟩
  rotate_left
  ·rw[hif]at hr;have hr':zY (nW P) (xa.ev t) (xb.ev t)=some r:=hr;have hui:∃ms,P.underlying ty=some (.interface ms):=by
    unfold T4 at hsh;split at hsh
    ·split at hsh
     ·cases hsh
     ·obtain⟨_,_,hh⟩:=bn.1 hsh;cases hh
    ·have:=qp hsh;cases this with
     |iface ms hu'=>exact⟨ms,hu'⟩
   obtain⟨ms,hui⟩:=hui;obtain⟨k1,k2⟩:=Hp hr';refine fin ?_ (fun op=>?_) (Rt hui hr' 9998)
   ·rcases k1 with e|⟨_,_,e⟩<;>(rw[e];trivial)
   ·refine cj ?_ ?_
    ·rintro⟨g1,g2⟩;refine k2 ⟨?_,?_⟩
     ·rcases k1 with e|⟨_,_,e⟩
      ·exact e
      ·rw[e]at g1;cases g1
     ·rcases D6 hr' with e|⟨_,_,e⟩
      ·exact e
      ·rw[e]at g2;cases g2
    ·rintro l m ⟨g1,g2⟩;rcases k1 with e|⟨_,_,e⟩<;>(rw[e]at g1;cases g1)
  rw[hif]at hr;unfold T4 at hsh;split at hsh
  ·rename_i fs hus;split at hsh
   ·cases hsh
   ·rename_i hcond;simp only[Bool.or_eq_true,not_or,Bool.not_eq_true]at hcond;obtain⟨ks,hks,rfl⟩:=bn.1 hsh;have hr':vW F M ks (xa.ev t) (xb.ev t)=some r:=hr;unfold vW at hr';split at hr'
    ·rename_i xs ys hvx hvy;have hf:P.fieldsOf ty=fs:=by simp[Program.fieldsOf,hus]
     refine fin (by rw[hvx];trivial) (fun op=>?_) ?_
     ·rw[hvx,hvy];exact run_eqGuard_agg w op ty y z _ _ hcond.2
     ·rw[hvx,hvy];simp only[conc];rw[run_equalIn_struct (P:=P) w 9999 ty _ _ (by rw[hf];exact hus) hcond.1,hf];exact vX h hks hr' 9998
    ·cases hr'
  ·rename_i hns;have hrel:=qp hsh;have hr':Br F M sh (isConstO y||isConstO z) (xa.ev t) (xb.ev t)=some r:=by
    cases hrel<;>exact hr
   have he:=xU h hrel hr' 9999;cases hrel with
   |int k hu'=>rw[hu]at hu';exact absurd (ae hu') (hd1 k)
   |str hu'=>rw[hu]at hu';exact absurd (ae hu') hd2
   |bool hu'=>
    have hq:eqB (xa.ev t) (xb.ev t)=some r:=hr';unfold eqB at hq;split at hq
    ·rename_i p q hvx hvy;refine fin (by rw[hvx];trivial) (fun op=>?_) he;rw[hvx,hvy];exact cj (by simp[conc]) (by simp[conc])
    ·cases hq
   |ptr el s hu' hz=>
    have hq:eqP F M (xa.ev t) (xb.ev t)=some r:=hr';unfold eqP at hq;split at hq
    ·rename_i hvx hvy;refine fin (by rw[hvx];trivial) (fun op=>?_) he;rw[hvx,hvy];exact cj (by simp[conc]) (by simp[conc])
    ·rename_i hvx hvy;refine fin (by rw[hvx];trivial) (fun op=>?_) he;rw[hvx,hvy];exact cj (by simp[conc]) (by simp[conc])
    ·rename_i hvx hvy;refine fin (by rw[hvx];trivial) (fun op=>?_) he;rw[hvx,hvy];exact cj (by simp[conc]) (by simp[conc])
    ·rename_i hvx hvy;refine fin (by rw[hvx];trivial) (fun op=>?_) he;rw[hvx,hvy];exact cj (by simp[conc]) (by simp[conc])
    ·cases hq
   |slice el hu'=>
    have key:∀b,Ak (xa.ev t)=some b→ ∃ad n k,conc E (xa.ev t)= .slice ad n k:=by
     intro b hb;have:=gm (E:=E) hb;cases b with
     |true=>simp only[if_true]at this;exact⟨_,_,_,this⟩
     |false=>simp only[bu,if_false]at this;obtain⟨ad,n,k,e⟩:=this;exact⟨_,_,_,e⟩
    obtain⟨ad,n,k,e⟩:∃ad n k,conc E (xa.ev t)= .slice ad n k:=by
     rcases cX (show iN true (Ak (xa.ev t)) (Ak (xb.ev t))=some r from hr')with⟨g,_⟩|⟨g,_⟩|⟨g,_⟩<;>exact key _ g
    refine fin (by rw[e];trivial) (fun op=>?_) he;rw[e];exact cj (by simp) (by simp)
   |map kk el hu'=>
    have key:∀b,Al (xa.ev t)=some b→ ∃r,conc E (xa.ev t)= .map r:=by
     intro b hb;have:=gn (E:=E) hb;cases b with
     |true=>simp only[if_true]at this;exact⟨_,this⟩
     |false=>simp only[bu,if_false]at this;obtain⟨r,e⟩:=this;exact⟨_,e⟩
    obtain⟨r',e⟩:∃r,conc E (xa.ev t)= .map r:=by
     rcases cX (show iN true (Al (xa.ev t)) (Al (xb.ev t))=some r from hr')with⟨g,_⟩|⟨g,_⟩|⟨g,_⟩<;>exact key _ g
    refine fin (by rw[e];trivial) (fun op=>?_) he;rw[e];exact cj (by simp) (by simp)
   |func p rr v hu'=>
    have key:∀b,Aj (xa.ev t)=some b→conc E (xa.ev t)= .nilFunc∨ ∃f l k,conc E (xa.ev t)= .func f l k:=by
     intro b hb;have:=gk (E:=E) hb;cases b with
     |true=>simp only[if_true]at this;exact .inl this
     |false=>simp only[bu,if_false]at this;exact .inr this
    have e:conc E (xa.ev t)= .nilFunc∨ ∃f l k,conc E (xa.ev t)= .func f l k:=by
     rcases cX (show iN true (Aj (xa.ev t)) (Aj (xb.ev t))=some r from hr')with⟨g,_⟩|⟨g,_⟩|⟨g,_⟩<;>exact key _ g
    rcases e with e|⟨f,l,k,e⟩
    ·refine fin (by rw[e];trivial) (fun op=>?_) he;rw[e];exact cj (by simp) (by simp)
    ·refine fin (by rw[e];trivial) (fun op=>?_) he;rw[e];exact cj (by simp) (by simp)
   |iface ms hu'=>
    rcases cX (show iN (isConstO y||isConstO z) (yj (xa.ev t)) (yj (xb.ev t))=some r from hr')with⟨g1,g2,hlit,_⟩|⟨g1,g2,_⟩|⟨g1,g2,_⟩
    ·have a1:=bY g1;have a2:=bY g2;simp only[if_true]at a1 a2;refine fin (by rw[a1];trivial) (fun op=>?_) he;rw[a1,a2];exact zW hlit
    ·have a1:=bY g1;have a2:=bY g2;simp only[if_true,bu,if_false]at a1 a2;obtain⟨_,_,a2⟩:=a2;refine fin (by rw[a1];trivial) (fun op=>?_) he;rw[a1,a2];exact cj (by simp[conc]) (by simp[conc])
    ·have a1:=bY g1;have a2:=bY g2;simp only[if_true,bu,if_false]at a1 a2;obtain⟨_,_,a1⟩:=a1;refine fin (by rw[a1];trivial) (fun op=>?_) he;rw[a1,a2];exact cj (by simp[conc]) (by simp[conc])
 ·cases hx'
theorem Xm(h:Cx P E F M c w t a){o:Oper}{op:BinOp}{ty ty':TypeId}{y z:Operand}(hop:o.op= .binOp op ty y z ty'){q:QO}(hc:aE P o.op=some (.q q)){x:V}(hx:(cS q F M t).val=some x):qI P E c w a o x:=by
 rw[hop]at hc
 simp only[aE]at hc
 have num:∀xa xb,bf y=some xa→bf z=some xb→QO.bi op xa xb=q→qI P E c w a o x:=by
  intro xa xb h1 h2 hq;subst hq;have e1:=h.ev h1;have e2:=h.ev h2;have hb:=aO0 (P:=P) (E:=E) (c:=c) (w:=w) op ty (xv:=xa.ev t) (yv:=xb.ev t) (v:=x) hx y z;refine⟨?_,hb.2⟩;simp only[execOp,hop];refine be ?_;rw[e1.1,e2.1];exact hb.1
 split at hc
 ·rename_i k xa xb hu h1 h2;exact num xa xb h1 h2 (by simpa [Ev.q]using hc)
 ·rename_i xa xb hu h1 h2;exact num xa xb h1 h2 (by simpa [Ev.q]using hc)
 ·rename_i d xa xb hn1 hn2 hu h1 h2;split at hc
  ·obtain⟨sh,hsh,e⟩:=aW.1 hc;obtain rfl:QO.eq false (ya P (isConstO y||isConstO z) sh) (isConstO y||isConstO z) xa xb=q:=by simpa [Ev.q]using e
   exact FE h (op:= .eql) false hop hsh hu (fun k e=>hn1 k e) (fun e=>hn2 e) h1 h2 hx
  ·obtain⟨sh,hsh,e⟩:=aW.1 hc;obtain rfl:QO.eq true (ya P (isConstO y||isConstO z) sh) (isConstO y||isConstO z) xa xb=q:=by simpa [Ev.q]using e
   exact FE h (op:= .neq) true hop hsh hu (fun k e=>hn1 k e) (fun e=>hn2 e) h1 h2 hx
  ·cases hc
 ·cases hc
end
theorem dN{α:Type}{x:Array α}{l:List α}(h:x.toList=l):x=l.toArray:=by
 rw[←h]
section
variable{P:Program}{E:cU}{F:RO}{M:Mem}{c:Nat→Prop}{w:World}{t:T}{a:Act}
theorem cD{o:Oper}{cl:Call}{b:Builtin}(hop:o.op= .call cl)(hb:cl.callee= .builtin b){l:List Operand}(hl:cl.args.toList=l){r:Result Next}
 (h:(builtin b cl.argTypes o.type (cl.args.map fun| .const _=>true|_=>false) (l.map a.eval).toArray).run P w=r):(execOp a.eval o).run P w=r:=by
 have hm:cl.args.map a.eval=(l.map a.eval).toArray:=by rw[dN hl];simp
 simp only[execOp,hop,resolve,hb,hm,aT,aP,aV,invoke]
 exact h
theorem HK{v:V}{n:Nat}(h:Dr v=some n):∃ad k,conc E v= .slice ad n k:=by
 cases v<;>first|cases(show(none:Option Nat)=some n from h)|(obtain rfl:=ae h;exact⟨_,_,rfl⟩)
theorem ay8{mx:Bool}(h:Cx P E F M c w t a):∀{os:List Operand} {xs:List X} {v x:V},km os=some xs→minAll mx t v xs=some x→bd c v→
 ((os.map a.eval).foldlM (if mx then Builtin.max2 else Builtin.min2) (conc E v)).run P w= .ok (conc E x) w∧bd c x
 |[],xs,v,x,hc,hm,hb=>by
  obtain rfl:=ae hc;obtain rfl:=ae hm;exact⟨rfl,hb⟩
 |o::os,xs,v,x,hc,hm,hb=>by
  rw[km]at hc;split at hc
  ·rename_i z l h1 h2;obtain rfl:=ae hc;rw[minAll]at hm;split at hm
   ·rename_i v' hv';have e:=h.ev h1;unfold HR at hv';split at hv'
    ·rename_i k m k' n hy;rw[aA1]at hv';obtain rfl:=ae hv';have ih:=ay8 h h2 hm trivial;refine⟨?_,ih.2⟩;rw[hy]at e;rw[List.map_cons,List.foldlM_cons,aT,e.1];have hstep:((if mx then Builtin.max2 else Builtin.min2) (conc E (.i k m)) (conc E (.i k' n))).run P w= .ok (conc E (.i k (bif S6 (bif mx then m else n) (bif mx then n else m)then n else m))) w:=by
      cases mx with
      |true=>
       simp only[if_true,conc,Builtin.max2,aP,cond_true,fH,cond_eq_ite,decide_eq_true_eq]
      |false=>
       simp only[bu,if_false,conc,Builtin.min2,aP,cond_false,fH,cond_eq_ite,decide_eq_true_eq]
     rw[hstep];exact ih.1
    ·cases hv'
   ·cases hm
  ·cases hc
theorem XK{ats:Array TypeId}{ty n k:Nat}:(Builtin.unsafeSliceData_ ats ty #[.slice none n k]).run P w= .ok (.pointer none) w:=rfl
theorem G5{ats:Array TypeId}{ty n k:Nat}{ad:Addr}(hk:k≠0):(Builtin.unsafeSliceData_ ats ty #[.slice (some ad) n k]).run P w= .ok (.pointer (some ad)) w:=by
 change(if k≠0 then(pure (.pointer (some ad)):Sem Value)else _).run P w=_
 rw[ac hk];rfl
theorem I7(h:Cx P E F M c w t a){o:Oper}{cl:Call}{b:Builtin}(hop:o.op= .call cl)(hb:cl.callee= .builtin b){q:QO}(hc:dO P b cl.args.toList cl.argTypes.toList=some (.q q)){x:V}(hx:(cS q F M t).val=some x):qI P E c w a o x:=by
 unfold dO at hc
 split at hc
 ·
  rename_i y ty hargs htys;have hat:cl.argTypes[0]?=some ty:=by rw[dN htys];rfl
  split at hc
  ·rename_i z hu hz;obtain rfl:QO.ln .str z=q:=by simpa [Ev.q]using hc
   obtain⟨n,s,hv,hg⟩:=mX (show(wh (z.ev t) QR.f fun n _=>QR.v (.i .i64 (.ofNat n))).val=some x from hx);obtain rfl:=ae hg;have e:=h.ev hz;rw[hv]at e;refine⟨cD hop hb hargs ?_,trivial⟩;simp only[builtin];refine be ?_;simp[Builtin.len_,hat,e.1,aK hu,conc,i6,goInt]
  ·rename_i el z hu hz;obtain rfl:QO.ln .slice z=q:=by simpa [Ev.q]using hc
   have hx':(FM (Dr (z.ev t))).val=some x:=hx;cases hl:Dr (z.ev t)with
   |none=>rw[hl]at hx';cases(show(none:Option V)=some x from hx')
   |some n=>
    rw[hl]at hx';obtain rfl:=ae hx';obtain⟨ad,k,hcv⟩:=HK (E:=E) hl;have e:=h.ev hz;rw[hcv]at e;refine⟨cD hop hb hargs ?_,trivial⟩;simp only[builtin];refine be ?_;simp[Builtin.len_,hat,e.1,aK hu,conc,goInt]
  ·rename_i kt el z hu hz;obtain rfl:QO.ln .map z=q:=by simpa [Ev.q]using hc
   have e:=h.ev hz;have hx':(aT6 F M (z.ev t)).val=some x:=hx;unfold aT6 at hx';split at hx'
   ·rename_i hv;obtain rfl:=ae hx';rw[hv]at e;refine⟨cD hop hb hargs ?_,trivial⟩;simp only[builtin];refine be ?_;simp[Builtin.len_,hat,e.1,aK hu,conc,goInt]
   ·rename_i b' hv;obtain⟨es,k,hl,hg⟩:=vJ hx';rw[bA]at hg;obtain rfl:=ae hg;obtain⟨ho,_⟩:=h.map hl;rw[hv]at e;refine⟨cD hop hb hargs ?_,trivial⟩;simp only[builtin];refine be ?_;simp[Builtin.len_,hat,e.1,aK hu,conc,goInt,eD ho]
   ·cases hx'
  ·rename_i n el z hu hz;obtain rfl:QO.lnc n=q:=by simpa [Ev.q]using hc
   obtain rfl:=ae hx;refine⟨cD hop hb hargs ?_,trivial⟩;simp only[builtin];refine be ?_;simp[Builtin.len_,hat,aK hu,conc,goInt]
  ·rename_i ar z hu hz;split at hc
   ·rename_i n el hua;obtain rfl:QO.lnc n=q:=by simpa [Ev.q]using hc
    obtain rfl:=ae hx;refine⟨cD hop hb hargs ?_,trivial⟩;simp only[builtin];refine be ?_;simp[Builtin.len_,hat,aK hu,aK hua,conc,goInt]
   ·cases hc
  ·cases hc
 ·
  rename_i y ty hargs htys;have hat:cl.argTypes[0]?=some ty:=by rw[dN htys];rfl
  split at hc
  ·rename_i el z hu hz;obtain rfl:QO.cp z=q:=by simpa [Ev.q]using hc
   have e:=h.ev hz;have hx':(u0 z F M t).val=some x:=hx;unfold u0 at hx';split at hx'
   ·rename_i hv;obtain rfl:=ae hx';rw[hv]at e;refine⟨cD hop hb hargs ?_,trivial⟩;simp only[builtin];refine be ?_;simp[Builtin.cap_,hat,e.1,aK hu,conc,goInt]
   ·rename_i b' off n k hv;obtain rfl:=ae hx';rw[hv]at e;refine⟨cD hop hb hargs ?_,trivial⟩;simp only[builtin];refine be ?_;simp[Builtin.cap_,hat,e.1,aK hu,conc,goInt]
   ·cases hx'
  ·cases hc
 ·
  split at hc
  ·split at hc
   ·split at hc
    ·cases hc
    ·split at hc<;>cases hc
   ·cases hc
  ·cases hc
 ·split at hc
  ·split at hc
   ·split at hc<;>cases hc
   ·cases hc
  ·cases hc
 ·
  split at hc
  ·split at hc
   ·split at hc<;>cases hc
   ·cases hc
  ·cases hc
 ·
  rename_i _ y ys hargs;split at hc
  ·rename_i z zs hz hzs;obtain rfl:QO.mn false z zs=q:=by simpa [Ev.q]using hc
   have hm:=DP (show(qr (minAll false t (z.ev t) zs)).val=some x from hx);have e:=h.ev hz;have hr:=ay8 h hzs hm e.2;refine⟨cD hop hb hargs ?_,hr.2⟩;simp only[builtin];refine be ?_;simp only[Builtin.min_,List.map_cons,List.toList_toArray,e.1]
   simpa using hr.1
  ·cases hc
 ·
  rename_i _ y ys hargs;split at hc
  ·rename_i z zs hz hzs;obtain rfl:QO.mn true z zs=q:=by simpa [Ev.q]using hc
   have hm:=DP (show(qr (minAll true t (z.ev t) zs)).val=some x from hx);have e:=h.ev hz;have hr:=ay8 h hzs hm e.2;refine⟨cD hop hb hargs ?_,hr.2⟩;simp only[builtin];refine be ?_;simp only[Builtin.max_,List.map_cons,List.toList_toArray,e.1]
   simpa using hr.1
  ·cases hc
 ·
  split at hc
  ·obtain⟨sh,_,e⟩:=bn.1 hc;cases e
  ·cases hc
 ·
  split at hc
  ·split at hc<;>cases hc
  ·cases hc
 ·
  rename_i _ y hargs;obtain⟨z,hz,rfl⟩:=kl (f:=fun x=> .sd x) hc;have e:=h.ev hz;have hx':(u2 z F M t).val=some x:=hx;unfold u2 at hx';split at hx'
  ·rename_i hv;obtain rfl:=ae hx';rw[hv]at e;refine⟨cD hop hb hargs ?_,trivial⟩;simp only[builtin];refine be ?_;simp only[List.map_cons,List.map_nil,e.1,conc];exact XK
  ·rename_i b' off n k hv;rw[bR]at hx';by_cases hk:k=0
   ·rw[ah hk]at hx';cases(show(none:Option V)=some x from hx')
   ·rw[ag hk]at hx';obtain rfl:=ae hx';rw[hv]at e;refine⟨cD hop hb hargs ?_,e.2⟩;simp only[builtin];refine be ?_;simp only[List.map_cons,List.map_nil,e.1,conc];exact G5 hk
  ·rename_i b' off n el kn hv;rw[gg]at hx';by_cases hk:el<kn
   ·rw[ah hk]at hx';obtain rfl:=ae hx';rw[hv]at e;refine⟨cD hop hb hargs ?_,e.2⟩;have hne:¬(kn-el+E.κ b'=0):=by omega
    simp only[builtin];refine be ?_;simp only[List.map_cons,List.map_nil,e.1,conc];exact G5 hne
   ·rw[ag hk]at hx';cases(show(none:Option V)=some x from hx')
  ·cases hx'
 ·split at hc
  ·obtain⟨z,_,e⟩:=bn.1 hc;cases e
  ·cases hc
 ·cases hc
end
theorem pX{fn:Func}{n:String}(hn:fn.name=n)(ho:fn.origin= "")(h1:Extern.allNextRows.lookup n=none)(h2:Extern.allNextRows.lookup "" =none):Extern.findNext fn=none:=by
 unfold Extern.findNext
 dsimp only
 rw[hn,ho,h1,h2];rfl
theorem tn{fn:Func}{n:String}{e:Array Value→Sem Value}(hn:fn.name=n)(h0:Extern.allGenericRows.lookup n=none)(h1:Extern.allTypedRows.lookup n=none)(h2:Extern.allRows.lookup n=some e):Extern.find fn=some e:=by
 unfold Extern.find
 dsimp only
 rw[hn,h0,h1,h2];rfl
theorem D7{fn:Func}{n:String}{e:Extern.Typed}(hn:fn.name=n)(h0:Extern.allGenericRows.lookup n=none)(h1:Extern.allTypedRows.lookup n=some e):Extern.find fn=some (e fn.params fn.resultTypes):=by
 unfold Extern.find
 dsimp only
 rw[hn,h0,h1];rfl
theorem tQ:Extern.allNextRows.lookup "" =none:=by kernel_rfl
theorem bC7:Extern.allNextRows.lookup "internal/bytealg.IndexByteString" =none:=by kernel_rfl
theorem bC8:Extern.allNextRows.lookup "internal/abi.NoEscape" =none:=by kernel_rfl
theorem bC9:Extern.allNextRows.lookup "internal/bytealg.MakeNoZero" =none:=by kernel_rfl
theorem bz8:Extern.allGenericRows.lookup "internal/bytealg.IndexByteString" =none:=by kernel_rfl
theorem bz9:Extern.allGenericRows.lookup "internal/abi.NoEscape" =none:=by kernel_rfl
theorem bA0:Extern.allGenericRows.lookup "internal/bytealg.MakeNoZero" =none:=by kernel_rfl
theorem bI2:Extern.allTypedRows.lookup "internal/bytealg.IndexByteString" =none:=by kernel_rfl
theorem bI3:Extern.allTypedRows.lookup "internal/abi.NoEscape" =none:=by kernel_rfl
theorem bI4:Extern.allTypedRows.lookup "internal/bytealg.MakeNoZero" =some Extern.BytealgMakeNoZero.makeNoZero:=by kernel_rfl
theorem bs8:Extern.allRows.lookup "internal/bytealg.IndexByteString" =some Extern.BytealgIndexByte.indexByte:=by kernel_rfl
theorem bs9:Extern.allRows.lookup "internal/abi.NoEscape" =some Extern.AbiNoEscape.same:=by kernel_rfl
theorem ofNat_lt{a b:Nat}(ha:a<256)(hb:b<256):UInt8.ofNat a<UInt8.ofNat b↔a<b:=by
 rw[UInt8.lt_iff_toNat_lt]
 simp[UInt8.toNat_ofNat',Nat.mod_eq_of_lt ha,Nat.mod_eq_of_lt hb]
theorem qZ(c:Nat):∀(n x i:Nat),(match lT (c%256) n x i with|some j=>(j:Int)|none=> -1)=if Lib.indexByte (bl n x) (UInt8.ofNat c)= -1 then -1 else Lib.indexByte (bl n x) (UInt8.ofNat c)+i
 |0,x,i=>by simp[lT,bl,Lib.indexByte]
 |n+1,x,i=>by
  have ih:=qZ c n (x/256) (i+1);rw[lT,bR,bl,Lib.indexByte];have hg:=Lib.indexByte_ge (bl n (x/256)) (UInt8.ofNat c);by_cases hc:x%256=c%256
  ·have hb:(UInt8.ofNat (x%256)==UInt8.ofNat c)=true:=by rw[hc,wg];simp
   rw[show Nat.mod x 256=x%256 from rfl,ah hc,cond_true,hb];simp
  ·have hb:(UInt8.ofNat (x%256)==UInt8.ofNat c)=false:=by
    rw[beq_eq_false_iff_ne];intro e;apply hc;have:=congrArg UInt8.toNat e;simpa [UInt8.toNat_ofNat']using this
   rw[show Nat.mod x 256=x%256 from rfl,ag hc,cond_false,hb];show(match lT (c%256) n (x/256) (i+1)with|some j=>(j:Int)|none=> -1)=_;rw[ih];simp only[bu,if_false];by_cases h1:Lib.indexByte (bl n (x/256)) (UInt8.ofNat c)= -1
   ·rw[ac h1,h1];simp
   ·rw[ab h1];have h2:(Lib.indexByte (bl n (x/256)) (UInt8.ofNat c)== -1)=false:=by rw[beq_eq_false_iff_ne];exact h1
    simp only[h2,bu,if_false];rw[ab (by omega)];omega
section
variable{P:Program}{E:cU}{F:RO}{M:Mem}{c:Nat→Prop}{w:World}{t:T}{a:Act}
theorem lR{o:Oper}{cl:Call}{f:FuncId}{fn:Func}{e:Array Value→Sem Value}(hop:o.op= .call cl)(hcal:cl.callee= .value (.func f))(hf:P.funcs[f]?=some fn)(hb:fn.body.isNone=true)(hne:fn.name≠ "runtime.NumGoroutine")
 (hn:Extern.findNext fn=none) (he:Extern.find fn=some e) {l:List Operand} (hl:cl.args.toList=l) {v:Value} {w':World} (h:(e (l.map a.eval).toArray).run P w= .ok v w'):(execOp a.eval o).run P w= .ok (.value v) w':=by
 have hm:cl.args.map a.eval=(l.map a.eval).toArray:=by rw[dN hl];simp
 have hr:=run_callFunc_extern (P:=P) hf (by simpa using hne) hb hn he (l.map a.eval).toArray w
 simp only[execOp,hop,resolve,hcal,aT,hm,Act.eval,Deferred.ofValue,aP,aV,invoke,Array.empty_append,Array.append_empty,hr,h]
theorem zH{v:V}{n:Nat}(h:wZ v=some n):v= .i .u8 (n:Int):=by
 unfold wZ at h
 split at h
 ·obtain rfl:=ae h;rfl
 ·cases h
theorem SC(h:Cx P E F M c w t a){o:Oper}{cl:Call}{f:FuncId}{fn:Func}(hop:o.op= .call cl)(hcal:cl.callee= .value (.func f))(hf:P.funcs[f]?=some fn)(hb:fn.body.isNone=true){q:QO}(hc:fi P fn cl.args.toList=some (.q q)){x:V}(hx:(cS q F M t).val=some x):qI P E c w a o x:=by
 unfold fi at hc
 split at hc
 ·cases hc
 ·rename_i hor;have hor:fn.origin= "" :=by simpa using hor
  split at hc
  ·rename_i y z hargs;split at hc
   ·rename_i hnm;have hnm:fn.name= "internal/bytealg.IndexByteString" :=by simpa using hnm
    split at hc
    ·rename_i xa xb h1 h2;obtain rfl:QO.xib xa xb=q:=by simpa [Ev.q]using hc
     have e1:=h.ev h1;have e2:=h.ev h2;obtain⟨n,s,hv,hg⟩:=mX (show(wh (xa.ev t) QR.f fun n s=>bm7 n s (wZ (xb.ev t))).val=some x from hx);unfold bm7 at hg;split at hg
     ·rename_i k hk;rw[hv]at e1;rw[zH hk]at e2;have hfi:=qZ k n s 0;have hge:=Lib.indexByte_ge (bl n s) (UInt8.ofNat k);have hxx:conc E x= .int .i64 (Lib.indexByte (bl n s) (UInt8.ofNat k))∧bd c x:=by
       unfold DN at hg;split at hg
       ·rename_i i hi;obtain rfl:=ae hg;refine⟨?_,trivial⟩;rw[show lT (k%256) n s 0=some i from hi]at hfi;simp only at hfi;simp only[conc]
        congr 1
        show(i:Int)=_;split at hfi<;>omega
       ·rename_i hi;obtain rfl:=ae hg;refine⟨?_,trivial⟩;rw[show lT (k%256) n s 0=none from hi]at hfi;simp only at hfi;simp only[conc]
        congr 1
        show(-1:Int)=_;split at hfi<;>omega
      refine⟨?_,hxx.2⟩;refine lR hop hcal hf hb (by rw[hnm];decide) (pX hnm hor bC7 tQ) (tn hnm bz8 bI2 bs8) hargs ?_;simp only[List.map_cons,List.map_nil,e1.1,e2.1,conc];rw[Lib.run_indexByteString,mO,hxx.1];rfl
     ·cases(show(none:Option V)=some x from hg)
    ·cases hc
   ·split at hc
    ·rename_i hnm;have hnm:fn.name= "internal/bytealg.CountString" :=by simpa using hnm
     split at hc
     ·rename_i xa xb h1 h2;obtain rfl:QO.xcn xa xb=q:=by simpa [Ev.q]using hc
      cases(show(none:Option V)=some x from hx)
     ·cases hc
    ·split at hc
     ·rename_i hnm;have hnm:fn.name= "internal/bytealg.abigen_runtime_cmpstring" :=by simpa using hnm
      split at hc
      ·rename_i xa xb h1 h2;obtain rfl:QO.xcmp xa xb=q:=by simpa [Ev.q]using hc
       cases(show(none:Option V)=some x from hx)
      ·cases hc
     ·cases hc
  ·rename_i y hargs;split at hc
   ·rename_i hnm;have hnm:fn.name= "internal/abi.NoEscape" :=by simpa using hnm
    obtain⟨z,hz,rfl⟩:=kl (f:=fun x=> .mv x) hc;obtain rfl:z.ev t=x:=ae hx;have e:=h.ev hz;refine⟨?_,e.2⟩;refine lR hop hcal hf hb (by rw[hnm];decide) (pX hnm hor bC8 tQ) (tn hnm bz9 bI3 bs9) hargs ?_;simp only[List.map_cons,List.map_nil,e.1];rfl
   ·split at hc
    ·split at hc
     ·split at hc
      ·split at hc<;>cases hc
      ·cases hc
     ·cases hc
    ·cases hc
  ·cases hc
theorem DK(h:Cx P E F M c w t a){o:Oper}{d:TypeId}{y:Operand}(hop:o.op= .sliceToArrayPointer d y){q:QO}(hc:aE P o.op=some (.q q)){x:V}(hx:(cS q F M t).val=some x):qI P E c w a o x:=by
 rw[hop]at hc;simp only[aE,Ev.q]at hc
 repeat' split at hc
 all_goals first|(cases hc;done)|(cases hc;cases(show(none:Option V)=some x from hx))|(obtain⟨z,_,e⟩:=aW.1 hc;cases e;cases(show(none:Option V)=some x from hx))
theorem bE5(h:Cx P E F M c w t a){o:Oper}{q:QO}(hc:aE P o.op=some (.q q)){x:V}(hx:(cS q F M t).val=some x):qI P E c w a o x:=by
 cases hop:o.op with
 |move y=>exact SE h (.inl hop) hc hx
 |assign y=>exact SE h (.inr hop) hc hx
 |pick p y z=>exact aW2 h hop hc hx
 |alloc ty=>rw[hop]at hc;obtain⟨z,_,e⟩:=bn.1 hc;cases e
 |box ty y=>
  rw[hop]at hc;simp only[aE]at hc;split at hc<;>cases hc
 |build ty ps=>exact Xn h hop hc hx
 |buildSlice ty n ps=>
  rw[hop]at hc;simp only[aE]at hc;split at hc
  ·split at hc
   ·split at hc
    ·cases hc
    ·obtain⟨z,_,e⟩:=bn.1 hc;cases e
   ·cases hc
  ·cases hc
 |insert ty m k v=>
  rw[hop]at hc;simp only[aE]at hc;split at hc
  ·obtain⟨z,_,e⟩:=bn.1 hc;cases e
  ·cases hc
 |load ty y=>exact aW1 h hop hc hx
 |store ty y z=>
  rw[hop]at hc;simp only[aE]at hc;split at hc<;>cases hc
 |ready g=>rw[hop]at hc;cases hc
 |waits g=>rw[hop]at hc;cases hc
 |nilCheck y=>exact DM h hop hc hx
 |binOp op ty y z ty'=>exact Xm h hop hc hx
 |unOp op ty y=>exact Xy h hop hc hx
 |convert s d y=>exact I8 h hop hc hx
 |sliceToArrayPointer d y=>exact DK h hop hc hx
 |makeInterface ty y=>exact rP h hop hc hx
 |makeFunc fn l1 l2=>
  cases fn with
  |func f=>exact DL h hop hc hx
  |_=>rw[hop]at hc;cases hc
 |makeMap ty r=>
  cases r with
  |none=>rw[hop]at hc;cases hc
  |some z=>rw[hop]at hc;cases hc
 |makeChan ty y=>rw[hop]at hc;cases hc
 |makeSlice ty l k=>
  rw[hop]at hc;simp only[aE]at hc;split at hc
  ·split at hc
   ·split at hc<;>cases hc
   ·cases hc
  ·cases hc
 |slice ty y lo hi mx=>exact Xw h hop hc hx
 |fieldAddr ty y f=>exact As h hop hc hx
 |field ty y f=>exact Xr h hop hc hx
 |indexAddr ty y i=>exact Au h hop hc hx
 |index ty y i=>exact Xs h hop hc hx
 |lookup ty y i ok=>exact SD h hop hc hx
 |mapUpdate ty m k v=>
  rw[hop]at hc;simp only[aE]at hc;split at hc
  ·obtain⟨z,_,e⟩:=bn.1 hc;cases e
  ·cases hc
 |mapEntry ty m k=>rw[hop]at hc;cases hc
 |entryStore ty m s v=>rw[hop]at hc;cases hc
 |range ty y=>
  rw[hop]at hc;simp only[aE]at hc;split at hc<;>cases hc
 |next y b=>
  rw[hop]at hc;cases b<;>(obtain⟨z,_,e⟩:=bn.1 hc;cases e)
 |entry y=>rw[hop]at hc;cases hc
 |typeAssert y ty ty' ok=>exact yx h hop hc hx
 |extract y i=>exact Ia h hop hc hx
 |call cl=>
  rw[hop]at hc;simp only[aE]at hc;split at hc
  ·rename_i b hcal;exact I7 h hop hcal hc hx
  ·rename_i f hcal;split at hc
   ·rename_i fn hf;split at hc
    ·rename_i hb;exact SC h hop hcal hf hb hc hx
    ·obtain⟨z,_,e⟩:=bn.1 hc;cases e
   ·cases hc
  ·split at hc<;>cases hc
  ·cases hc
 |go cl=>rw[hop]at hc;cases hc
 |defer cl=>rw[hop]at hc;cases hc
 |panic y=>rw[hop]at hc;cases hc
 |send y z=>rw[hop]at hc;cases hc
 |recv ty y b=>rw[hop]at hc;cases hc
 |select cs b=>rw[hop]at hc;cases hc
end
theorem cV(n:Nat)(d:List V)(cs:T)(k:Nat):cell n d cs k=if k<n then(match cs.get k with|some v=>some v|none=>d[k%d.length]?)else none:=by
 show(Bool.rec (motive:=fun _=>Option V) none (Option.rec (motive:=fun _=>Option V) (oT d (Nat.mod k d.length)) (fun v=>some v) (cs.get k)) (Nat.blt k n))=_
 rw[bb,gg]
 simp only[decide_eq_true_eq]
 by_cases h:k<n
 ·rw[ac h,ac h];cases cs.get k with
  |none=>exact jl d _
  |some v=>rfl
 ·rw[ab h,ab h]
theorem mQ{l:List V}{k:Nat}{v:V}(h:cell l.length [] (bP l 0 .e) k=some v):l[k]?=some v:=by
 rw[cV,dt]at h
 by_cases hk:k<l.length
 ·rw[ac hk,ac (by omega)]at h;simp only[Nat.sub_zero]at h;rw[List.getElem?_eq_getElem hk]at h⊢;exact h
 ·rw[ab hk]at h;cases h
section
variable{P:Program}{E:cU}{F:RO}{M:Mem}{c:Nat→Prop}{w:World}{t:T}{a:Act}
theorem Ag{E':cU}{l:List V}{b ty:Nat}(he:oA c E E')(hl:fZ c l)(hβ:E'.β b=0){arr:Array Value}(ha:arr=(aI E l).toArray):
 eg P E' b (.cells ty l.length true 0 false [] (bP l 0 .e)) (.cells arr ty):=by
 refine⟨arr,(0,0),rfl,⟨fun k v hk=>?_,?_,?_,?_⟩⟩
 ·have hk:=mQ hk;rw[hβ,Nat.zero_add,ha,eT he v (eZ hl hk)];simp[fk hk]
 ·simp[hβ,ha,bM]
 ·intro o _ _ h;omega
 ·intro _;exact .inl rfl
theorem sf{l:List V}{ty:Nat}{c':Nat→Prop}{ex str:Bool}{fz:Nat}(hl:fZ c l)(hc:∀b,c b→c' b):eS c' (.cells ty l.length ex fz str [] (bP l 0 .e)):=
 fun k v hk=>eG hc v (eZ hl (mQ hk))
abbrev Vw(P:Program)(F:RO)(E:cU)(M:Mem)(c:Nat→Prop)(w:World)(a:Act)(o:Oper)(b:Nat)(c':Nat→Prop)(v:V)(blk:bJ):Prop:=
 ∃E' w',(execOp a.eval o).run P w= .ok (.value (conc E' v)) w'∧li P F E M c w E' (M.set b blk) c' w'∧oA (· ≠b) E E'∧bd c' v
theorem VN(h:Cx P E F M c w t a){o:Oper}{ty:TypeId}(hop:o.op= .alloc ty){ao:AO}(hc:aE P o.op=some (.a ao)){b:Nat}{c':Nat→Prop}(hb:¬c b)(hbc:c' b)(hcc:∀b,c b→c' b){v:V}{blk:bJ}(ha:ju ao b t=some (v,blk)):Vw P F E M c w a o b c' v blk:=by
 rw[hop]at hc
 obtain⟨z,hz,e⟩:=bn.1 hc
 obtain rfl:AO.al ty (bI z)=ao:=by simpa using e
 have ha':aM6 ty (bI z) b t=some (v,blk):=ha
 unfold aM6 at ha'
 by_cases h1:aL (bI z)=true
 ·rw[h1,cond_true]at ha';simp only[Option.some.injEq,Prod.mk.injEq]at ha';obtain⟨rfl,rfl⟩:=ha';have hz':=jW (E:=E) (c:=c) (w:=w) hz;have hcell:(conc E z).cells=(aI E (bI z)).toArray:=by rw[cM,dy]
  have hbd:fZ c (bI z):=by rw[dy];exact eA hz'.2
  obtain⟨E',hS,hE,hρ,hβ,_⟩:=h.rel.alloc (.cells ty (bI z).length true 0 false [] (bP (bI z) 0 .e)) (.cells (conc E z).cells ty) b 0 c' hb hbc hcc (sf hbd hcc) {w with heap:=w.heap.push (.cells (conc E z).cells ty)} rfl rfl rfl rfl
   (fun E' he _ hβ _=>Ag he hbd hβ hcell)
  refine⟨E',_,?_,hS,hE,hbc⟩;simp only[execOp,hop];refine be ?_;simp only[Instr.alloc,aT,hz'.1,aV,newVar,newRow,run_newObj,aP,conc,hρ,hβ,aB]
 ·rw[Bool.not_eq_true]at h1;rw[h1]at ha';cases ha'
theorem bs3(h:Cx P E F M c w t a){o:Oper}{ty:TypeId}{y:Operand}(hop:o.op= .box ty y){ao:AO}(hc:aE P o.op=some (.a ao)){b:Nat}{c':Nat→Prop}(hb:¬c b)(hbc:c' b)(hcc:∀b,c b→c' b){v:V}{blk:bJ}(ha:ju ao b t=some (v,blk)):Vw P F E M c w a o b c' v blk:=by
 rw[hop]at hc
 simp only[aE]at hc
 split at hc
 ·rename_i s x hs hx;obtain rfl:AO.bx ty s x=ao:=by simpa using hc
  have ha':GV ty s x b t=some (v,blk):=ha;unfold GV at ha';rw[bR]at ha';by_cases h1:(flatten (x.ev t)).length=s
  ·by_cases h2:aL (flatten (x.ev t))=true
   ·rw[ah h1,h2]at ha';simp only[Bool.and_self,cond_true,Option.some.injEq,Prod.mk.injEq]at ha';obtain⟨rfl,rfl⟩:=ha';subst h1;have e:=h.ev hx;have hbd:=eA e.2
    obtain⟨E',hS,hE,hρ,hβ,_⟩:=h.rel.alloc (.cells ty (flatten (x.ev t)).length true 0 false [] (bP (flatten (x.ev t)) 0 .e)) (.cells (conc E (x.ev t)).cells ty) b 0 c' hb hbc hcc (sf hbd hcc) {w with heap:=w.heap.push (.cells (conc E (x.ev t)).cells ty)} rfl rfl rfl rfl
     (fun E' he _ hβ _=>Ag he hbd hβ (cM E _))
    refine⟨E',_,?_,hS,hE,hbc⟩;simp only[execOp,hop];refine be ?_;rw[e.1];simp only[Instr.box,aT,aV,newVar,newRow,run_newObj,aP,conc,hρ,hβ,aB]
   ·rw[Bool.not_eq_true]at h2;rw[h2,Bool.and_false]at ha';cases ha'
  ·rw[ag h1]at ha';cases ha'
 ·cases hc
theorem H0(h:Cx P E F M c w t a){o:Oper}{ty:TypeId}(hop:o.op= .makeMap ty none){ao:AO}(hc:aE P o.op=some (.a ao)){b:Nat}{c':Nat→Prop}(hb:¬c b)(hbc:c' b)(hcc:∀b,c b→c' b){v:V}{blk:bJ}(ha:ju ao b t=some (v,blk)):Vw P F E M c w a o b c' v blk:=by
 rw[hop]at hc
 obtain rfl:AO.mkm=ao:=by simpa [aE]using hc
 have ha':Jv b t=some (v,blk):=ha
 simp only[Jv,Option.some.injEq,Prod.mk.injEq]at ha'
 obtain⟨rfl,rfl⟩:=ha'
 obtain⟨E',hS,hE,hρ,hβ,_⟩:=h.rel.alloc (.map [] 0) (.map #[] 0) b 0 c' hb hbc hcc (fun e he=>by cases he) {w with heap:=w.heap.push (.map #[] 0)} rfl rfl rfl rfl (fun E' _ _ _ _=>rfl)
 refine⟨E',_,?_,hS,hE,hbc⟩
 simp only[execOp,hop]
 refine be ?_
 simp[Instr.makeMap,conc,hρ]
theorem Jw(h:Cx P E F M c w t a){o:Oper}{ty:TypeId}{y:Operand}(hop:o.op= .range ty y){ao:AO}(hc:aE P o.op=some (.a ao)){b:Nat}{c':Nat→Prop}(hb:¬c b)(hbc:c' b)(hcc:∀b,c b→c' b){v:V}{blk:bJ}(ha:ju ao b t=some (v,blk)):Vw P F E M c w a o b c' v blk:=by
 rw[hop]at hc;simp only[aE]at hc
 repeat' split at hc
 all_goals first|(cases hc;done)|(cases hc;cases(show(none:Option (V×bJ))=some (v,blk)from ha))|(obtain⟨z,_,e⟩:=aW.1 hc;cases e)
theorem GW(h:Cx P E F M c w t a){o:Oper}{s d:TypeId}{y:Operand}(hop:o.op= .convert s d y){ao:AO}(hc:aE P o.op=some (.a ao)){b:Nat}{c':Nat→Prop}(hb:¬c b)(hbc:c' b)(hcc:∀b,c b→c' b){v:V}{blk:bJ}(ha:ju ao b t=some (v,blk)):Vw P F E M c w a o b c' v blk:=by
 rw[hop]at hc;simp only[aE]at hc
 repeat' split at hc
 all_goals first|(cases hc;done)|(cases hc;cases(show(none:Option (V×bJ))=some (v,blk)from ha))|(obtain⟨z,_,e⟩:=aW.1 hc;cases e)
theorem Bi(zero:Array Value)(n j:Nat)(hj:j<n)(hz:0<zero.size):((Array.range n).map (zero[· %zero.size]!))[j]?=zero[j%zero.size]?:=by
 have hm:j%zero.size<zero.size:=Nat.mod_lt _ hz
 simp[hj,hm]
structure vu(E:cU)(m:Nat)(zero:List V)(tr:T)(arr:Array Value):Prop where
 size:arr.size=m
 get:∀k v,cell m zero tr k=some v→arr[k]?=some (conc E v)
 bd:∀k v,cell m zero tr k=some v→Ev.bd c v
theorem pS(h:Cx P E F M c w t a){sz m:Nat}{zero:List V}:∀{ps:List (Nat×Operand)} {qs:List (Nat×X)} {tr r:T} {arr:Array Value},kj sz ps=some qs→fillP sz m t qs tr=some r→vu (c:=c) E m zero tr arr→
 ∃arr',Instr.fill (fun i=>some (i*sz,sz)) arr (ps.map fun p=>(p.1,a.eval p.2))=some arr'∧vu (c:=c) E m zero r arr'
 |[],qs,tr,r,arr,hc,hf,hR=>by
  obtain rfl:=ae hc;obtain rfl:=ae hf;exact⟨arr,rfl,hR⟩
 |(i,y)::ps,qs,tr,r,arr,hc,hf,hR=>by
  rw[kj]at hc;split at hc
  ·rename_i x l h1 h2;obtain rfl:=ae hc;rw[fillP,bR,cB,Tr.force_eq]at hf;have e:=h.ev h1;by_cases g1:(flatten (x.ev t)).length=sz
   ·by_cases g2:i*sz+sz≤m
    ·by_cases g3:aL (flatten (x.ev t))=true
     ·rw[ah g1,show Nat.add (i*sz) sz=i*sz+sz from rfl,ah g2,g3]at hf;simp only[Bool.and_self,cond_true]at hf;have hcells:(a.eval y).cells=(aI E (flatten (x.ev t))).toArray:=by rw[e.1,cM]
      have hlen:(aI E (flatten (x.ev t))).length=sz:=by simp[bM,g1]
      have hfold:=oO (i*sz) (aI E (flatten (x.ev t))) 0 arr
      have hR':vu (c:=c) E m zero (bP (flatten (x.ev t)) (i*sz) tr) (((aI E (flatten (x.ev t))).zipIdx 0).foldl (fun cs (p:Value×Nat)=>cs.setIfInBounds (i*sz+p.2) p.1) arr):=by
       refine⟨by rw[hfold.1,hR.size],fun k v hk=>?_,fun k v hk=>?_⟩
       ·rw[cV,dt]at hk;by_cases hkm:k<m
        ·rw[ac hkm]at hk;rw[hfold.2 k (by rw[hR.size];exact hkm),hlen,aB];rw[g1]at hk;by_cases hin:i*sz≤k∧k<i*sz+sz
         ·rw[ac hin]at hk⊢;have hlt:k-i*sz<(flatten (x.ev t)).length:=by omega
          rw[List.getElem?_eq_getElem hlt]at hk;obtain rfl:=ae hk;exact fk (List.getElem?_eq_getElem hlt)
         ·rw[ab hin]at hk⊢;exact hR.get k v (by rw[cV,ac hkm];exact hk)
        ·rw[ab hkm]at hk;cases hk
       ·rw[cV,dt]at hk;by_cases hkm:k<m
        ·rw[ac hkm]at hk;by_cases hin:i*sz≤k∧k<i*sz+(flatten (x.ev t)).length
         ·rw[ac hin]at hk;have hlt:k-i*sz<(flatten (x.ev t)).length:=by omega
          rw[List.getElem?_eq_getElem hlt]at hk;obtain rfl:=ae hk;exact eZ (eA e.2) (List.getElem?_eq_getElem hlt)
         ·rw[ab hin]at hk;exact hR.bd k v (by rw[cV,ac hkm];exact hk)
        ·rw[ab hkm]at hk;cases hk
      obtain⟨arr',ha,hR''⟩:=pS h h2 hf hR';refine⟨arr',?_,hR''⟩;simp only[List.map_cons,Instr.fill,hcells];have c1:(aI E (flatten (x.ev t))).toArray.size=sz:=by simp[bM,g1]
      rw[c1,hR.size];have c2:¬(i*sz+sz>m):=by omega
      simp only[ne_eq,not_true_eq_false,decide_false,Bool.false_or,decide_eq_true_eq,c2,if_false];rw[←ha]
      congr 1
      simp
     ·rw[Bool.not_eq_true]at g3;rw[g3,Bool.and_false]at hf;cases hf
    ·rw[show Nat.add (i*sz) sz=i*sz+sz from rfl,ag g2]at hf;simp at hf
   ·rw[ag g1]at hf;simp at hf
  ·cases hc
theorem Vg{zero:List V}{m:Nat}(hz:fZ c zero)(hpos:0<zero.length):vu (c:=c) E m zero .e ((Array.range m).map ((aI E zero).toArray[· %(aI E zero).toArray.size]!)):=by
 have hsz:(aI E zero).toArray.size=zero.length:=by simp[bM]
 refine⟨by simp,fun k v hk=>?_,fun k v hk=>?_⟩
 ·rw[cV]at hk;by_cases hkm:k<m
  ·rw[ac hkm]at hk;rw[Bi _ _ _ hkm (by rw[hsz];exact hpos),hsz];simp only[Tr.get_e]at hk;simp[fk hk]
  ·rw[ab hkm]at hk;cases hk
 ·rw[cV]at hk;by_cases hkm:k<m
  ·rw[ac hkm]at hk;simp only[Tr.get_e]at hk;exact eZ hz hk
  ·rw[ab hkm]at hk;cases hk
theorem FY{E':cU}{m b ty:Nat}{zero:List V}{tr:T}{arr:Array Value}(he:oA c E E')(hR:vu (c:=c) E m zero tr arr)(hβ:E'.β b=0):eg P E' b (.cells ty m true 0 false zero tr) (.cells arr ty):=by
 refine⟨arr,(0,0),rfl,⟨fun k v hk=>?_,?_,?_,?_⟩⟩
 ·rw[hβ,Nat.zero_add,hR.get k v hk,eT he v (hR.bd k v hk)]
 ·simp[hβ,hR.size]
 ·intro o _ _ h;omega
 ·intro _;exact .inl rfl
theorem Hk{m:Nat}(hm:m=0)(zero:List V):vu (c:=c) E m zero .e ((Array.range m).map ((#[]:Array Value)[· %(#[]:Array Value).size]!)):=by
 subst hm
 refine⟨by simp,fun k v hk=>?_,fun k v hk=>?_⟩<;>(rw[cV,ab (by omega)]at hk;cases hk)
theorem wY(h:Cx P E F M c w t a){o:Oper}{ty:TypeId}{n:Nat}{parts:Array (Nat×Operand)}(hop:o.op= .buildSlice ty n parts){ao:AO}(hc:aE P o.op=some (.a ao)){b:Nat}{c':Nat→Prop}(hb:¬c b)(hbc:c' b)(hcc:∀b,c b→c' b){v:V}{blk:bJ}(ha:ju ao b t=some (v,blk)):Vw P F E M c w a o b c' v blk:=by
 rw[hop]at hc
 simp only[aE]at hc
 have hparts:(parts.map fun(p:Nat×Operand)=>(p.1,a.eval p.2)).toList=parts.toList.map fun p=>(p.1,a.eval p.2):=by simp
 split at hc
 ·rename_i el hu;split at hc
  ·rename_i s z hs hz;split at hc
   ·cases hc
   ·rename_i hcond;simp only[Bool.or_eq_true,decide_eq_true_eq,not_or]at hcond;obtain⟨qs,hqs,e⟩:=bn.1 hc;obtain rfl:AO.bsl el n s (bI z) qs=ao:=by simpa using e
    have ha':vG el n s (bI z) qs b t=some (v,blk):=ha;unfold vG at ha';split at ha'
    ·rename_i tr htr;rw[bA]at ha';simp only[Option.some.injEq,Prod.mk.injEq]at ha';obtain⟨rfl,rfl⟩:=ha';have hz':=jW (E:=E) (c:=c) (w:=w) hz;have hcell:(conc E z).cells=(aI E (bI z)).toArray:=by rw[cM,dy]
     have hbd:fZ c (bI z):=by rw[dy];exact eA hz'.2
     by_cases hpos:0<(bI z).length
     ·by_cases hns:n*s=0
      ·obtain⟨arr,hfill,hR⟩:=pS h hqs (m:=n*s) htr (Hk (E:=E) hns (bI z))
       obtain⟨E',hS,hE,hρ,hβ,_⟩:=h.rel.alloc (.cells el (n*s) true 0 false (bI z) tr) (.cells arr el) b 0 c' hb hbc hcc (fun k v hk=>eG hcc v (hR.bd k v hk)) {w with heap:=w.heap.push (.cells arr el)} rfl rfl rfl rfl
        (fun E' he _ hβ _=>FY he hR hβ)
       refine⟨E',_,?_,hS,hE,hbc⟩;simp only[execOp,hop];refine be ?_;have hns':¬(n*s>2^24):=by omega
       simp only[Instr.buildSlice,aT,aK hu,aV,dH hs,hns',if_false,Sem.run_ite,hns,if_true,aP,hparts];rw[hns]at hfill;simp only[hfill,newRow,aT,run_newObj,aP,aV,conc,hρ,hβ,aB];rw[ab (by decide)]
      ·obtain⟨arr,hfill,hR⟩:=pS h hqs (m:=n*s) htr (Vg (E:=E) hbd hpos)
       obtain⟨E',hS,hE,hρ,hβ,_⟩:=h.rel.alloc (.cells el (n*s) true 0 false (bI z) tr) (.cells arr el) b 0 c' hb hbc hcc (fun k v hk=>eG hcc v (hR.bd k v hk)) {w with heap:=w.heap.push (.cells arr el)} rfl rfl rfl rfl
        (fun E' he _ hβ _=>FY he hR hβ)
       refine⟨E',_,?_,hS,hE,hbc⟩;simp only[execOp,hop];refine be ?_;have hns':¬(n*s>2^24):=hcond.1.2;simp only[Instr.buildSlice,aT,aK hu,aV,dH hs,hns',if_false,Sem.run_ite,hns,hz'.1,aP,hparts,hcell];simp only[hfill,newRow,aT,run_newObj,aP,aV,conc,hρ,hβ,aB]
     ·exfalso;have:=hcond.2;cases hcz:bI z with
      |nil=>rw[hcz]at this;simp at this
      |cons x l=>rw[hcz]at hpos;simp at hpos
    ·cases ha'
  ·cases hc
 ·cases hc
theorem zz(h:Cx P E F M c w t a){o:Oper}{ty:TypeId}{l k:Operand}(hop:o.op= .makeSlice ty l k){ao:AO}(hc:aE P o.op=some (.a ao)){b:Nat}{c':Nat→Prop}(hb:¬c b)(hbc:c' b)(hcc:∀b,c b→c' b){v:V}{blk:bJ}(ha:ju ao b t=some (v,blk)):Vw P F E M c w a o b c' v blk:=by
 rw[hop]at hc;simp only[aE]at hc
 repeat' split at hc
 all_goals first|(cases hc;done)|(cases hc;cases(show(none:Option (V×bJ))=some (v,blk)from ha))|(obtain⟨z,_,e⟩:=aW.1 hc;cases e)
theorem zR(n:Nat):∀(x:Nat) (acc:Array Value),(Extern.BytealgMakeNoZero.digits n x acc).size=acc.size+n:=by
 induction n with
 |zero=>intro x acc;rfl
 |succ n ih=>intro x acc;rw[Extern.BytealgMakeNoZero.digits,ih];simp;omega
theorem BR{v:V}{n:Nat}(h:F3 v=some n):v= .i .i64 (n:Int):=by
 unfold F3 at h
 split at h
 ·obtain rfl:=ae h;rfl
 ·cases h
theorem DA{ps rs:Array TypeId}{ty el n:Nat}(hr:rs[0]?=some ty)(hu:P.underlying ty=some (.slice el))(hn:n≤1099511627776):
 ∃bytes,(Extern.BytealgMakeNoZero.makeNoZero ps rs #[.int .i64 (n:Int)]).run P w= .ok (.slice (some ⟨w.heap.size,0,none⟩) n (grownCap w n 0 el))
  {w with heap:=w.heap.push (.cells (Extern.BytealgMakeNoZero.digits (grownCap w n 0 el) bytes #[]) el),drawn:=w.drawn+1+1}:=by
 have h1:¬((n:Int)<0):=by omega
 have h2:¬((n:Int)>2^48):=by
  have h48:(2:Int)^48=281474976710656:=by decide
  rw[h48];omega
 refine⟨?_,?_⟩
 rotate_left
 ·conv=>lhs;arg 2;whnf
  simp only[hr,aT,aK hu,aV,h1,h2,decide_false,Bool.or_self,bu,if_false,Sem.run_ite,Int.toNat_natCast,run_choose,Question.forced,run_askRoom,newRow,run_newObj,aP,Question.cut];rfl
theorem Ju(h:Cx P E F M c w t a){o:Oper}{cl:Call}{f:FuncId}{fn:Func}(hop:o.op= .call cl)(hcal:cl.callee= .value (.func f))(hf:P.funcs[f]?=some fn)(hb0:fn.body.isNone=true){ao:AO}(hc:fi P fn cl.args.toList=some (.a ao)){b:Nat}{c':Nat→Prop}(hb:¬c b)(hbc:c' b)(hcc:∀b,c b→c' b){v:V}{blk:bJ}(ha:ju ao b t=some (v,blk)):Vw P F E M c w a o b c' v blk:=by
 unfold fi at hc
 split at hc
 ·cases hc
 ·rename_i hor;have hor:fn.origin= "" :=by simpa using hor
  split at hc
  ·split at hc
   ·split at hc<;>cases hc
   ·split at hc
    ·split at hc<;>cases hc
    ·split at hc
     ·split at hc<;>cases hc
     ·cases hc
  ·rename_i y hargs;split at hc
   ·obtain⟨z,hz,e⟩:=aW.1 hc;cases e
   ·split at hc
    ·rename_i hnm;have hnm:fn.name= "internal/bytealg.MakeNoZero" :=by simpa using hnm
     split at hc
     ·rename_i x ty hx hres;split at hc
      ·rename_i el hu;split at hc
       ·rename_i hu8;rw[aC]at hu8;have hsz:P.cellsOf el=1:=ki (by simpa using hu8.2);obtain rfl:AO.nz el x=ao:=by simpa using hc
        have ha':H1 el x b t=some (v,blk):=ha;unfold H1 at ha';split at ha'
        ·rename_i n hn;rw[cB]at ha';by_cases g1:n≤1099511627776
         ·rw[ah g1]at ha';simp only[cond_true,Option.some.injEq,Prod.mk.injEq]at ha';obtain⟨rfl,rfl⟩:=ha';have e1:=BR hn;have v1:=h.ev hx;rw[e1]at v1;have hres0:fn.resultTypes[0]?=some ty:=by rw[dN hres];rfl
          have hgc:n≤grownCap w n 0 el:=by simp[grownCap,Question.cut]
          obtain⟨bytes,w',hrun,hheap,hos,hout,htape⟩:∃bytes w',(Extern.BytealgMakeNoZero.makeNoZero fn.params fn.resultTypes #[.int .i64 (n:Int)]).run P w= .ok (.slice (some ⟨w.heap.size,0,none⟩) n (grownCap w n 0 el)) w'∧
           w'.heap=w.heap.push (.cells (Extern.BytealgMakeNoZero.digits (grownCap w n 0 el) bytes #[]) el)∧w'.os=w.os∧w'.output=w.output∧w'.tape=w.tape:=by
           obtain⟨bytes,hb2⟩:=DA (P:=P) (w:=w) (ps:=fn.params) hres0 hu g1;exact⟨bytes,_,hb2,rfl,rfl,rfl,rfl⟩
          obtain⟨E',hS,hE,hρ,hβ,hκ⟩:=h.rel.alloc (.cells el n false 0 false [] .e) (.cells (Extern.BytealgMakeNoZero.digits (grownCap w n 0 el) bytes #[]) el) b (grownCap w n 0 el-n) c' hb hbc hcc
           (fun k v hk=>by
            rw[cV]at hk;simp only[Tr.get_e,List.getElem?_nil]at hk;split at hk<;>cases hk) w' hheap hos hout htape
           (fun E' he _ hβ hκ=>by
            refine⟨_,_,rfl,⟨fun k v hk=>?_,?_,?_,?_⟩⟩
            ·rw[cV]at hk;simp only[Tr.get_e,List.getElem?_nil]at hk;split at hk<;>cases hk
            ·simp only[bu,if_false];rw[zR,hβ,hκ,hsz];simp;omega
            ·intro o _ _ h;omega
            ·intro _;exact .inl rfl)
          refine⟨E',w',?_,hS,hE,hbc⟩;refine lR hop hcal hf hb0 (by rw[hnm];decide) (pX hnm hor bC9 tQ) (D7 hnm bA0 bI4) hargs ?_;simp only[List.map_cons,List.map_nil,v1.1,conc];rw[hrun,hρ,hβ,hκ];have e0:grownCap w n 0 el=n-0+(grownCap w n 0 el-n):=by omega
          rw[←e0]
         ·rw[ag g1]at ha';cases ha'
        ·cases ha'
       ·cases hc
      ·cases hc
     ·cases hc
    ·cases hc
  ·cases hc
theorem Yv(h:Cx P E F M c w t a){o:Oper}{ao:AO}(hc:aE P o.op=some (.a ao)){b:Nat}{c':Nat→Prop}(hb:¬c b)(hbc:c' b)(hcc:∀b,c b→c' b){v:V}{blk:bJ}(ha:ju ao b t=some (v,blk)):Vw P F E M c w a o b c' v blk:=by
 cases hop:o.op with
 |alloc ty=>exact VN h hop hc hb hbc hcc ha
 |box ty y=>exact bs3 h hop hc hb hbc hcc ha
 |buildSlice ty n ps=>exact wY h hop hc hb hbc hcc ha
 |convert s d y=>exact GW h hop hc hb hbc hcc ha
 |makeMap ty r=>
  cases r with
  |none=>exact H0 h hop hc hb hbc hcc ha
  |some z=>rw[hop]at hc;cases hc
 |makeSlice ty l k=>exact zz h hop hc hb hbc hcc ha
 |range ty y=>exact Jw h hop hc hb hbc hcc ha
 |call cl=>
  rw[hop]at hc;simp only[aE]at hc;split at hc
  ·rename_i b' hcal;exfalso;unfold dO at hc;split at hc
   ·split at hc<;>first|cases hc|(split at hc<;>cases hc)
   ·split at hc<;>cases hc
   ·split at hc
    ·split at hc
     ·split at hc
      ·cases hc
      ·split at hc<;>cases hc
     ·cases hc
    ·cases hc
   ·split at hc
    ·split at hc
     ·split at hc<;>cases hc
     ·cases hc
    ·cases hc
   ·split at hc
    ·split at hc
     ·split at hc<;>cases hc
     ·cases hc
    ·cases hc
   ·split at hc<;>cases hc
   ·split at hc<;>cases hc
   ·split at hc
    ·obtain⟨z,_,e⟩:=bn.1 hc;cases e
    ·cases hc
   ·split at hc
    ·split at hc<;>cases hc
    ·cases hc
   ·obtain⟨z,_,e⟩:=aW.1 hc;cases e
   ·split at hc
    ·obtain⟨z,_,e⟩:=bn.1 hc;cases e
    ·cases hc
   ·cases hc
  ·rename_i f hcal;split at hc
   ·rename_i fn hf;split at hc
    ·rename_i hb0;exact Ju h hop hcal hf hb0 hc hb hbc hcc ha
    ·obtain⟨z,_,e⟩:=bn.1 hc;cases e
   ·cases hc
  ·split at hc<;>cases hc
  ·cases hc
 |move y=>rw[hop]at hc;obtain⟨z,_,e⟩:=aW.1 hc;cases e
 |assign y=>rw[hop]at hc;obtain⟨z,_,e⟩:=aW.1 hc;cases e
 |pick p y z=>rw[hop]at hc;simp only[aE]at hc;split at hc<;>cases hc
 |build ty ps=>
  rw[hop]at hc;simp only[aE]at hc;split at hc
  ·split at hc
   ·obtain⟨z,_,e⟩:=aW.1 hc;cases e
   ·cases hc
  ·split at hc
   ·obtain⟨z,_,e⟩:=aW.1 hc;cases e
   ·cases hc
  ·cases hc
 |insert ty m k v=>
  rw[hop]at hc;simp only[aE]at hc;split at hc
  ·obtain⟨z,_,e⟩:=bn.1 hc;cases e
  ·cases hc
 |load ty y=>rw[hop]at hc;simp only[aE]at hc;split at hc<;>cases hc
 |store ty y z=>rw[hop]at hc;simp only[aE]at hc;split at hc<;>cases hc
 |nilCheck y=>rw[hop]at hc;obtain⟨z,_,e⟩:=aW.1 hc;cases e
 |binOp op ty y z ty'=>
  rw[hop]at hc;simp only[aE]at hc;split at hc
  ·cases hc
  ·cases hc
  ·split at hc
   ·obtain⟨z,_,e⟩:=aW.1 hc;cases e
   ·obtain⟨z,_,e⟩:=aW.1 hc;cases e
   ·cases hc
  ·cases hc
 |unOp op ty y=>rw[hop]at hc;obtain⟨z,_,e⟩:=aW.1 hc;cases e
 |makeInterface ty y=>rw[hop]at hc;simp only[aE]at hc;split at hc<;>cases hc
 |makeFunc fn l1 l2=>
  cases fn with
  |func f=>rw[hop]at hc;simp only[aE]at hc;split at hc<;>cases hc
  |_=>rw[hop]at hc;cases hc
 |slice ty y lo hi mx=>
  rw[hop]at hc;simp only[aE]at hc;split at hc
  ·split at hc
   ·split at hc<;>cases hc
   ·obtain⟨z,_,e⟩:=aW.1 hc;split at e<;>cases e
   ·obtain⟨z,_,e⟩:=aW.1 hc;split at e<;>cases e
   ·split at hc
    ·obtain⟨z,_,e⟩:=aW.1 hc;split at e<;>cases e
    ·cases hc
   ·cases hc
  ·cases hc
 |fieldAddr ty y f=>
  rw[hop]at hc;simp only[aE]at hc;split at hc
  ·split at hc
   ·split at hc<;>cases hc
   ·cases hc
  ·cases hc
 |field ty y f=>
  rw[hop]at hc;simp only[aE]at hc;split at hc
  ·split at hc
   ·split at hc<;>cases hc
   ·cases hc
  ·cases hc
 |indexAddr ty y i=>
  rw[hop]at hc;simp only[aE]at hc;split at hc
  ·obtain⟨z,_,e⟩:=aW.1 hc;cases e
  ·obtain⟨z,_,e⟩:=aW.1 hc;cases e
  ·cases hc
 |index ty y i=>
  rw[hop]at hc;simp only[aE]at hc;split at hc
  ·split at hc<;>cases hc
  ·cases hc
  ·cases hc
 |lookup ty y i ok=>
  rw[hop]at hc;simp only[aE]at hc;split at hc
  ·split at hc<;>cases hc
  ·cases hc
 |mapUpdate ty m k v=>
  rw[hop]at hc;simp only[aE]at hc;split at hc
  ·obtain⟨z,_,e⟩:=bn.1 hc;cases e
  ·cases hc
 |next y b=>
  rw[hop]at hc;cases b<;>(obtain⟨z,_,e⟩:=bn.1 hc;cases e)
 |typeAssert y ty ty' ok=>rw[hop]at hc;simp only[aE]at hc;split at hc<;>cases hc
 |extract y i=>rw[hop]at hc;obtain⟨z,_,e⟩:=aW.1 hc;cases e
 |sliceToArrayPointer d y=>rw[hop]at hc;simp only[aE]at hc;split at hc<;>cases hc
 |_=>rw[hop]at hc;cases hc
end
def NV(nx:Next)(v:Value):Prop:=nx= .value v∨(nx= .skip∧v=Go.undef)
theorem wf{h:Array Obj}{r:Nat}{x:Obj}(f:Obj→Obj)(hx:h[r]?=some x):h.modify r f=h.setIfInBounds r (f x):=by
 apply Array.ext_getElem?
 intro j
 rw[Array.getElem?_modify]
 by_cases e:r=j
 ·subst e;obtain⟨hlt,hx'⟩:=Array.getElem?_eq_some_iff.1 hx;simp[hlt,hx']
 ·rw[ab e,Array.getElem?_setIfInBounds_ne e]
theorem E8{w:World}{r o:Nat}{arr:Array Value}{ty:TypeId}{fr:Nat×Nat}(h:w.heap[r]?=some (.cells arr ty fr))(v:Value):
 w.setCell ⟨r,o,none⟩ v={w with heap:=w.heap.setIfInBounds r (.cells (arr.setIfInBounds o v) ty fr)}:=by
 unfold World.setCell
 rw[wf _ h]
 simp
def fj(arr:Array Value)(off:Nat)(vs:List Value)(k:Nat):Array Value:=(vs.zipIdx k).foldl (fun cs (p:Value×Nat)=>cs.setIfInBounds (off+p.2) p.1) arr
theorem iS{P:Program}(r off:Nat)(ty:TypeId)(fr:Nat×Nat):∀(vs:List Value) (k:Nat) (arr:Array Value) (w:World),w.heap[r]?=some (.cells arr ty fr)→
 sN fr (off+k) arr.size→off+k+vs.length≤arr.size→(∀v∈vs,v.oneCell'=true)→
 (storeCells ⟨r,off,none⟩ vs k).run P w= .ok () {w with heap:=w.heap.setIfInBounds r (.cells (fj arr off vs k) ty fr)}
 |[],k,arr,w,h,_,_,_=>by
  have hlt:=(Array.getElem?_eq_some_iff.1 h)
  simp only[storeCells,aP,fj,List.zipIdx_nil,List.foldl_nil]
  congr 1
  have:w.heap.setIfInBounds r (.cells arr ty fr)=w.heap:=by
   apply Array.ext_getElem?;intro j;by_cases e:r=j
   ·subst e;rw[h];simp[hlt.1]
   ·rw[Array.getElem?_setIfInBounds_ne e]
  rw[this]
 |v::vs,k,arr,w,h,hf,hs,h1=>by
  simp only[av]at hs
  have hc:w.cell? ⟨r,off+k,none⟩=some (arr[off+k]'(by omega)):=by
   simp only[World.cell?,h,Option.isSome_none,bu,if_false];exact Array.getElem?_eq_getElem (by omega)
  have hz:w.frozen? ⟨r,off+k,none⟩=false:=by
   simp only[World.frozen?,h];have:=hf (off+k) (aj _) (by omega);rw[Bool.and_eq_false_iff];simp only[decide_eq_false_iff_not];omega
  have hlt:=(Array.getElem?_eq_some_iff.1 h).1;rw[storeCells,aT,Addr.add_eq,run_store P w _ v _ (h1 v (by simp)),hc];simp only[hz,bu,if_false,aV];rw[E8 h]
  have h':({w with heap:=w.heap.setIfInBounds r (.cells (arr.setIfInBounds (off+k) v) ty fr)}:World).heap[r]?=some (.cells (arr.setIfInBounds (off+k) v) ty fr):=by
   simp[hlt]
  have ih:=iS (P:=P) r off ty fr vs (k+1) (arr.setIfInBounds (off+k) v) _ h' (fun o ho ho'=>hf o (by omega) (by simpa using ho')) (by simp;omega) (fun x hx=>h1 x (by simp[hx]));rw[ih];simp only[fj,List.zipIdx_cons,List.foldl_cons]
  congr 2
  apply Array.ext_getElem?;intro j;by_cases e:r=j
  ·subst e;simp[hlt]
  ·rw[Array.getElem?_setIfInBounds_ne e,Array.getElem?_setIfInBounds_ne e,Array.getElem?_setIfInBounds_ne e]
section
variable{P:Program}{E:cU}{F:RO}{M:Mem}{c:Nat→Prop}{w:World}{t:T}{a:Act}
theorem tz{v:V}(h:bO v=true):(conc E v).oneCell'=true:=by
 cases v<;>first|rfl|cases(show false=true from h)
theorem nO:∀{l:List V},aL l=true→ ∀v∈l,bO v=true
 |[],_,v,hv=>by cases hv
 |x::l,h,v,hv=>by
  have h':(Bool.rec (motive:=fun _=>Bool) false (aL l) (bO x))=true:=h;rw[bb]at h';by_cases hx:bO x=true
  ·rw[ac hx]at h';cases hv with
   |head=>exact hx
   |tail _ hm=>exact nO h' v hm
  ·rw[ab hx]at h';cases h'
theorem mC{b o:Nat}{vs:List V}{M':Mem}(h:bS M b o vs=some M'):∃ty n ex fz str d cs,M.get b=some (.cells ty n ex fz str d cs)∧o+vs.length≤n∧fz≤o∧aL vs=true∧
 M'=M.set b (.cells ty n ex fz str d (bP vs o cs)):=by
 have h':Option.rec (motive:=fun _=>Option Mem) none (fun blk=>n7 M b o vs blk) (M.get b)=some M':=h
 cases hb:M.get b with
 |none=>rw[hb]at h';cases(show(none:Option Mem)=some M' from h')
 |some blk=>
  rw[hb]at h';cases blk with
  |cells ty n ex fz str d cs=>
   have h2:(Bool.rec (motive:=fun _=>Option Mem) none (Bool.rec (motive:=fun _=>Option Mem) none (Bool.rec (motive:=fun _=>Option Mem) none (eE M b o vs ty n ex fz str d cs) (aL vs)) (Nat.ble fz o)) (Nat.ble (Nat.add o vs.length) n))=some M':=h';rw[bb,bb,bb,cB,cB]at h2;split at h2
   ·rename_i g1;split at h2
    ·rename_i g2;split at h2
     ·rename_i g3;refine⟨ty,n,ex,fz,str,d,cs,rfl,bT g1,bT g2,g3,?_⟩;unfold eE at h2;rw[Tr.force_eq,Tr.force_eq]at h2;exact(ae h2).symm
     ·cases h2
    ·cases h2
   ·cases h2
  |_=>cases(show(none:Option Mem)=some M' from h')
theorem Cx.store(h:Cx P E F M c w t a){b o:Nat}{vs:List V}{M':Mem}(hs:bS M b o vs=some M')(hb:fZ c vs):
 ∃w',(storeCells ⟨E.ρ b,E.β b+o,none⟩ (aI E vs)).run P w= .ok () w'∧li P F E M c w E M' c w':=by
 obtain⟨ty,n,ex,fz,str,d,cs,hM,h1,h2,h3,rfl⟩:=mC hs
 obtain⟨arr,fr,ho,hr⟩:=h.cells (az hM)
 have hle:=hr.le
 have hlen:(aI E vs).length=vs.length:=by simp[bM]
 have hone:∀v∈aI E vs,v.oneCell'=true:=by
  intro v hv;rw[bM,List.mem_map]at hv;obtain⟨x,hx,rfl⟩:=hv;exact tz (nO h3 x hx)
 have hrun:=iS (P:=P) (E.ρ b) (E.β b+o) ty fr (aI E vs) 0 arr w ho (fun k hk hk'=>hr.free k (by omega) hk') (by rw[hlen];omega) hone
 refine⟨_,hrun,h.rel.write b _ _ hM _ ?_ _ rfl rfl rfl rfl ?_⟩
 ·intro k v hk;rw[cV,dt]at hk;have hold:=(h.rel.has _ _ (az hM)).2.1;split at hk
  ·rename_i hkn;by_cases hin:o≤k∧k<o+vs.length
   ·rw[ac hin]at hk;have hlt:k-o<vs.length:=by omega
    rw[List.getElem?_eq_getElem hlt]at hk;obtain rfl:=ae hk;exact eZ hb (List.getElem?_eq_getElem hlt)
   ·rw[ab hin]at hk;exact hold k v (by rw[cV,ac hkn];exact hk)
  ·cases hk
 ·have hsp:=oO (E.β b+o) (aI E vs) 0 arr;refine⟨_,_,rfl,⟨fun k v hk=>?_,?_,?_,hr.plain⟩⟩
  ·rw[cV,dt]at hk;split at hk
   ·rename_i hkn;show(fj arr (E.β b+o) (aI E vs) 0)[E.β b+k]?=_;unfold fj;rw[hsp.2 (E.β b+k) (by omega),hlen,aB];by_cases hin:o≤k∧k<o+vs.length
    ·rw[ac hin]at hk;rw[ac (by omega),show E.β b+k-(E.β b+o)=k-o by omega];have hlt:k-o<vs.length:=by omega
     rw[List.getElem?_eq_getElem hlt]at hk;obtain rfl:=ae hk;exact fk (List.getElem?_eq_getElem hlt)
    ·rw[ab hin]at hk;rw[ab (by omega)];exact hr.cell k v (by rw[cV,ac hkn];exact hk)
   ·cases hk
  ·show if ex then E.β b=0∧(fj arr (E.β b+o) (aI E vs) 0).size=n else(fj arr (E.β b+o) (aI E vs) 0).size=E.β b+n+E.κ b*P.cellsOf ty
   unfold fj;rw[hsp.1];exact hr.size
  ·show sN fr (E.β b+fz) (fj arr (E.β b+o) (aI E vs) 0).size;unfold fj;rw[hsp.1];exact hr.free
structure iE(c:Nat→Prop)(ct:Nat)(c':Nat→Prop)(ct':Nat):Prop where
 le:ct≤ct'
 new:∀b,c' b→c b∨(ct≤b∧b<ct')
theorem iE.refl(c:Nat→Prop)(ct:Nat):iE c ct c ct:=⟨aj _,fun _ h=> .inl h⟩
theorem iE.trans{c c₁ c₂:Nat→Prop}{n n₁ n₂:Nat}(h:iE c n c₁ n₁)(h':iE c₁ n₁ c₂ n₂):iE c n c₂ n₂:=
 ⟨bc h.le h'.le,fun b hb=>by
  have l1:=h.le;have l2:=h'.le;rcases h'.new b hb with hb|hb
  ·rcases h.new b hb with hb|hb
   ·exact .inl hb
   ·exact .inr (by omega)
  ·exact .inr (by omega)⟩
def fw(c:Nat→Prop)(ct:Nat):Prop:=∀b,ct≤b→ ¬c b
theorem fw.grow{c c':Nat→Prop}{n n':Nat}(h:fw c n)(g:iE c n c' n'):fw c' n':=fun b hb hc=>by
 have:=g.le
 rcases g.new b hc with h1|h1
 ·exact h b (by omega) h1
 ·omega
abbrev Bo(P:Program)(F:RO)(E:cU)(M:Mem)(c:Nat→Prop)(ct:Nat)(w:World)(a:Act)(o:Oper)(v:V)(M':Mem)(ct':Nat):Prop:=
 ∃E' w' nx c',(execOp a.eval o).run P w= .ok nx w'∧NV nx (conc E' v)∧li P F E M c w E' M' c' w'∧bd c' v∧iE c ct c' ct'
theorem aU6{v:V}{g:Nat→Nat→RC}{x:V}{M':Mem}{c':Nat}(h:rL v .f g= .k x M' c'):∃b o,v= .p b o∧g b o= .k x M' c':=by
 cases v with
 |p b o=>exact⟨b,o,rfl,h⟩
 |_=>cases(show RC.f= .k x M' c' from h)
theorem Wu(h:Cx P E F M c w t a){o:Oper}{ty:TypeId}{y z:Operand}(hop:o.op= .store ty y z){eo:EO}(hc:aE P o.op=some (.e eo)){k:Kn}(hk:k.F=F){v:V}{M':Mem}{ct ct':Nat}(he:eU eo k M ct t= .k v M' ct'):Bo P F E M c ct w a o v M' ct':=by
 rw[hop]at hc
 simp only[aE]at hc
 split at hc
 ·rename_i n xa xv hs h1 h2;obtain rfl:EO.st n xa xv=eo:=by simpa using hc
  have e1:=h.ev h1;have e2:=h.ev h2;obtain⟨b,off,hv,hg⟩:=aU6 (show rL (xa.ev t) .f (fun b o=>vV n b o (flatten (xv.ev t)) M ct)= .k v M' ct' from he);unfold vV at hg;rw[bb,bR]at hg;split at hg
  ·rename_i hn;have hn:(flatten (xv.ev t)).length=n:=bT hn;unfold er at hg;cases hst:bS M b off (flatten (xv.ev t))with
   |none=>rw[hst]at hg;cases(show RC.f= .k v M' ct' from hg)
   |some M''=>
    rw[hst]at hg;have hg':RC.k undef M'' ct= .k v M' ct':=hg;injection hg' with g1 g2 g3
    subst g1 g2 g3;obtain⟨w',hrun,hS⟩:=h.store hst (eA e2.2);rw[hv]at e1;refine⟨E,w',.skip,c,?_,.inr ⟨rfl,rfl⟩,hS,trivial,.refl _ _⟩;have hcs:(a.eval z).cells.size=n:=by rw[e2.1,cM];simp[bM,hn]
    have hcl:(a.eval z).cells.toList=aI E (flatten (xv.ev t)):=by rw[e2.1,cM]
    simp only[execOp,hop,e1.1,conc,Instr.storeAt,Instr.sureAddr,storeVar,aT,aP,aV,hcs,dH hs,ne_eq,not_true_eq_false,if_false,Sem.run_ite,hcl,hrun]
  ·cases hg
 ·cases hc
end
theorem ua(E:cU)(k v:V):∀(es:List (V×V×Nat)) (i:Nat),(iQ k v es i).map (entry E)=(es.map (entry E)).modify i fun e=>{e with key:=conc E k,val:=conc E v}
 |[],i=>by simp[iQ]
 |(k',v',b)::es,0=>by simp[iQ,entry]
 |(k',v',b)::es,i+1=>by simp[iQ,ua E k v es i]
theorem ub(k v:V):∀(es:List (V×V×Nat)) (i:Nat) (e:V×V×Nat),e∈iQ k v es i→e∈es∨(e.1=k∧e.2.1=v)
 |[],i,e,h=>by simp[iQ]at h
 |(k',v',b)::es,0,e,h=>by
  simp only[iQ,bh]at h;rcases h with rfl|h
  ·exact .inr ⟨rfl,rfl⟩
  ·exact .inl (by simp[h])
 |(k',v',b)::es,i+1,e,h=>by
  simp only[iQ,bh]at h;rcases h with rfl|h
  ·exact .inl (by simp)
  ·rcases ub k v es i e h with h|h
   ·exact .inl (by simp[h])
   ·exact .inr h
theorem uh(x:V×V×Nat):∀es,ug x es=es++[x]
 |[]=>rfl
 |h::r=>by rw[ug,uh x r];rfl
section
variable{P:Program}{E:cU}{F:RO}{M:Mem}{c:Nat→Prop}{w:World}{t:T}{a:Act}
theorem Dm{sh:Sh}{x y:V}(h:jB sh x y=some true):conc E y=conc E x∧Instr.sameBits 10000 (conc E x) (conc E x)=true:=by
 unfold jB at h
 split at h
 ·rename_i k m k' n;rw[eK]at h;by_cases hk:k=k'
  ·rw[ah hk,cond_true,da]at h;have hm:m=n:=by simpa using h
   subst hk hm;exact⟨rfl,by simp[conc,Instr.sameBits]⟩
  ·rw[ag hk]at h;cases h
 ·rename_i n x m y;rw[ix]at h;have hb:bl n x=bl m y:=by simpa using h
  refine⟨by simp only[conc,ba,hb],?_⟩;have:=CK n x n x;simp only[conc,Instr.sameBits,this,decide_true]
 ·rename_i x y;have hxy:x=y:=by simpa using h
  subst hxy;exact⟨rfl,by simp[conc,Instr.sameBits]⟩
 ·cases h
theorem aU5{v:V}{g:Nat→RC}{x:V}{M':Mem}{c':Nat}(h:onM v .f g= .k x M' c'):∃b,v= .m b∧g b= .k x M' c':=by
 cases v with
 |m b=>exact⟨b,rfl,h⟩
 |_=>cases(show RC.f= .k x M' c' from h)
theorem JC{o:Option bJ}{g:List (V×V×Nat)→Nat→RC}{x:V}{M':Mem}{c':Nat}(h:qL o .f g= .k x M' c'):∃es k,o=some (.map es k)∧g es k= .k x M' c':=by
 cases o with
 |none=>cases(show RC.f= .k x M' c' from h)
 |some b=>cases b with
  |map es k=>exact⟨es,k,rfl,h⟩
  |_=>cases(show RC.f= .k x M' c' from h)
theorem sq(M:Mem)(c b:Nat)(blk:bJ)(v:V):T0 M c b blk v= .k v (M.set b blk) c:=Tr.force_eq _ _
theorem u9{r:Nat}{o o':Obj}(h:w.heap[r]?=some o)(hn:∀x y z,o≠ .cells x y z):(setObj r o').run P w= .ok () {w with heap:=w.heap.setIfInBounds r o'}:=by
 simp only[setObj,Sem.run,h]
theorem aT7(h:Cx P E F M c w t a){ty kt et:TypeId}(hu:P.underlying ty=some (.map kt et)){sh:Sh}(hks:r6 P kt=some sh){b:Nat}{es:List (V×V×Nat)}{clock:Nat}(hM:M.get b=some (.map es clock)){k v x:V}(hbk:bd c k)(hbv:bd c v){M':Mem}{ct ct':Nat}
 (he:vU M ct b es clock k v (iJ sh k es 0)= .k x M' ct'):∃w',(Instr.mapUpdate ty (.map (some (E.ρ b))) (conc E k) (conc E v)).run P w= .ok () w'∧li P F E M c w E M' c w'∧x=undef∧ct'=ct:=by
 obtain⟨d,hd,hkk⟩:=tD hks
 obtain⟨ho,hbd⟩:=h.map (az hM)
 unfold vU at he
 split at he
 ·rename_i i v0 hf;rw[sq]at he;injection he with g1 g2 g3
  subst g1 g2 g3;have hfk:=j9 (P:=P) (w:=w) (E:=E) hd hkk hf;obtain⟨_,k',b',hm,hkt⟩:=(mR (E:=E) hkk es 0 _ hf).2 (i,v0) rfl;obtain⟨hke,hsb⟩:=Dm (E:=E) hkt;have hget:((es.map (entry E)).toArray[i]?).map (·.key)=some (conc E k):=by
   simp only[Nat.sub_zero]at hm;simp[hm,entry,hke]
  refine⟨_,?_,h.rel.write b _ (.map (iQ k v es i) clock) hM (.map (((es.map (entry E)).modify i fun e=>{e with key:=conc E k,val:=conc E v}).toArray) clock) ?_ {w with heap:=w.heap.setIfInBounds (E.ρ b) (.map (((es.map (entry E)).modify i fun e=>{e with key:=conc E k,val:=conc E v}).toArray) clock)} rfl rfl rfl rfl ?_,rfl,rfl⟩
  ·have hso:=u9 (P:=P) (w:=w) (o':= .map (((es.map (entry E)).modify i fun e=>{e with key:=conc E k,val:=conc E v}).toArray) clock) ho (by intros;simp);simp only[Instr.mapUpdate,aT,aK hu,aV,eD ho,fC hd hkk,List.toList_toArray,hfk,Option.map_some,hget,Option.getD_some,Instr.keyThatStays,hsb,if_true,Sem.run_ite,aP];rw[←hso]
   congr 2
   simp
  ·intro e hemem;rcases ub k v es i e hemem with h1|⟨h1,h2⟩
   ·exact hbd e h1
   ·exact⟨h1▸hbk,h2▸hbv⟩
  ·show _=_;rw[ua]
 ·rename_i hf;rw[bA,sq]at he;injection he with g1 g2 g3
  subst g1 g2 g3;have hfk:=j9 (P:=P) (w:=w) (E:=E) hd hkk hf;refine⟨_,?_,h.rel.write b _ (.map (ug (k,v,clock) es) (clock+1)) hM (.map ((es.map (entry E)).toArray.push {key:=conc E k,val:=conc E v,born:=clock}) (clock+1)) ?_ {w with heap:=w.heap.setIfInBounds (E.ρ b) (.map ((es.map (entry E)).toArray.push {key:=conc E k,val:=conc E v,born:=clock}) (clock+1))} rfl rfl rfl rfl ?_,rfl,rfl⟩
  ·have hso:=u9 (P:=P) (w:=w) (o':= .map ((es.map (entry E)).toArray.push {key:=conc E k,val:=conc E v,born:=clock}) (clock+1)) ho (by intros;simp);simp only[Instr.mapUpdate,aT,aK hu,aV,eD ho,fC hd hkk,List.toList_toArray,hfk,Option.map_none,hso]
  ·intro e hemem;rw[uh,List.mem_append,List.mem_singleton]at hemem;rcases hemem with h1|rfl
   ·exact hbd e h1
   ·exact⟨hbk,hbv⟩
  ·show _=_;rw[uh];simp[entry]
 ·cases he
theorem qW(h:Cx P E F M c w t a){o:Oper}{ty:TypeId}{m y z:Operand}(hop:o.op= .mapUpdate ty m y z∨o.op= .insert ty m y z){eo:EO}(hc:aE P o.op=some (.e eo)){k:Kn}(hk:k.F=F){v:V}{M':Mem}{ct ct':Nat}(he:eU eo k M ct t= .k v M' ct'):Bo P F E M c ct w a o v M' ct':=by
 have hc':(match P.underlying ty,bf m,bf y,bf z with
  |some (.map kt _),some m,some k,some v=>(r6 P kt).map fun sh=>OK.e (.mu sh m k v)
  |_,_,_,_=>none)=some (.e eo):=by rcases hop with hop|hop<;>(rw[hop]at hc;exact hc)
 split at hc'
 ·rename_i kt et xm xk xv hu h1 h2 h3;obtain⟨sh,hks,e⟩:=bn.1 hc';obtain rfl:EO.mu sh xm xk xv=eo:=by simpa using e
  obtain⟨b,hv,hg⟩:=aU5 (show onM (xm.ev t) .f (fun b=>qL (M.get b) .f fun es clock=>vU M ct b es clock (xk.ev t) (xv.ev t) (iJ sh (xk.ev t) es 0))= .k v M' ct' from he);obtain⟨es,clock,hM,hg⟩:=JC hg;have e1:=h.ev h1;have e2:=h.ev h2;have e3:=h.ev h3;rw[hv]at e1;obtain⟨w',hrun,hS,rfl,rfl⟩:=aT7 h hu hks hM e2.2 e3.2 hg;refine⟨E,w',.skip,c,?_,.inr ⟨rfl,rfl⟩,hS,trivial,.refl _ _⟩;rcases hop with hop|hop<;>simp only[execOp,hop,e1.1,e2.1,e3.1,conc,aT,hrun,aV,aP]
 ·cases hc'
end
section
variable{P:Program}{E:cU}{F:RO}{M:Mem}{c:Nat→Prop}{w:World}{t:T}{a:Act}
theorem Rk(h:Cx P E F M c w t a){o:Oper}{cl:Call}(hop:o.op= .call cl)(hb:cl.callee= .builtin .delete){m y:Operand}{ty:TypeId}{ts:List TypeId}(hargs:cl.args.toList=[m,y])(htys:cl.argTypes.toList=ty::ts){kt et:TypeId}(hu:P.underlying ty=some (.map kt et)){sh:Sh}(hks:r6 P kt=some sh)
 {xm xk:X} (h1:bf m=some xm) (h2:bf y=some xk) {k:Kn} {v:V} {M':Mem} {ct ct':Nat} (he:eU (.del sh xm xk) k M ct t= .k v M' ct'):Bo P F E M c ct w a o v M' ct':=by
 cases(show RC.f=RC.k v M' ct' from he)
theorem aR2(h:Cx P E F M c w t a){o:Oper}{s:TypeId}{y:Operand}(hop:o.op= .convert s s y){el:TypeId}(hu:P.underlying s=some (.slice el))(hel:P.underlying el=some (.int .u8)){x:X}(hx:bf y=some x)
 {k:Kn} {v:V} {M':Mem} {ct ct':Nat} (he:eU (.ms x) k M ct t= .k v M' ct'):Bo P F E M c ct w a o v M' ct':=by
 cases(show RC.f=RC.k v M' ct' from he)
end
section
variable{P:Program}{E:cU}{F:RO}{M:Mem}{c:Nat→Prop}{w:World}{t:T}{a:Act}
theorem Cx.world{w':World}(h:Cx P E F M c w t a)(hh:w'.heap=w.heap):Cx P E F M c w' t a:=⟨h.rel.world hh,h.glob,h.big,h.tr,h.bt⟩
theorem kO.drop(h:kO P E F M c w)(b:Nat):li P F E M c w E (M.del b) c w:=by
 have hl:∀x y,look F (M.del b) x=some y→look F M x=some y∨(x=b∧bv F x=some y):=by
  intro x y hx;by_cases e:x=b
  ·right;refine⟨e,?_⟩
   rwa [b5 (by rw[Tr.get_del,ac e])]at hx
  ·left
   rwa [cH (M:=M) (by rw[Tr.get_del,ab e])]at hx
 have hl':∀x y,look F (M.del b) x=some y→look F M x=some y:=by
  intro x y hx;rcases hl x y hx with h1|⟨h1,h2⟩
  ·exact h1
  ·rw[b5 (h.apart x (by rw[h2];rfl))];exact h2
 have hs:∀x,(look F (M.del b) x).isSome→(look F M x).isSome:=by
  intro x hx;obtain⟨y,hy⟩:=bL.1 hx;rw[hl' x y hy];rfl
 refine⟨.refl c E,fun _ h=>h,⟨fun x y hx=>h.has x y (hl' x y hx),fun x x' hx hx' e=>h.inj x x' (hs x hx) (hs x' hx') e,fun x hx=>?_⟩,fun x hx=>?_,fun _ _ _=>rfl,aj _,rfl,rfl,rfl⟩
 ·rw[Tr.get_del];split
  ·rfl
  ·exact h.apart x hx
 ·rw[Tr.get_del]at hx;split at hx
  ·cases hx
  ·exact .inl ⟨x,hx,rfl⟩
theorem kO.take(h:kO P E F M c w)(b n:Nat)(blk blk':bJ)(hb:M.get b=some blk)(o':Obj)(β' κ':Nat)(c':Nat→Prop)(hn:¬c n)(hn':c' n)(hcc:∀b,c b→c' b)
 (hbd:eS c' blk') (w':World) (hh:w'.heap=w.heap.setIfInBounds (E.ρ b) o') (hos:w'.os=w.os) (hout:w'.output=w.output) (htape:w'.tape=w.tape)
 (hr:∀E':cU,oA c E E'→E'.ρ n=E.ρ b→E'.β n=β'→E'.κ n=κ'→eg P E' n blk' o'):
 ∃E',li P F E M c w E' ((M.del b).set n blk') c' w'∧E'.ρ n=E.ρ b∧E'.β n=β'∧E'.κ n=κ':=by
 let E':cU:=⟨fun x=>if x=n then E.ρ b else E.ρ x,fun x=>if x=n then β' else E.β x,fun x=>if x=n then κ' else E.κ x⟩
 have he:oA (· ≠n) E E':=⟨fun x hx=>ab hx,fun x hx=>ab hx,fun x hx=>ab hx⟩
 have hec:oA c E E':=he.sub fun x hx e=>hn (e▸hx)
 have hρ:E'.ρ n=E.ρ b:=ac rfl
 have hbc:=(h.has b blk (az hb)).1
 have hbn:b≠n:=fun e=>hn (e▸hbc)
 have hlt:E.ρ b<w.heap.size:=by
  obtain⟨_,_,o,ho,_⟩:=h.has b blk (az hb);exact(Array.getElem?_eq_some_iff.1 ho).1
 have hold:∀x y,look F ((M.del b).set n blk') x=some y→x≠n→x≠b∧look F M x=some y:=by
  intro x y hx hne;rw[cH (M:=M.del b) (by rw[Tr.get_set,ab hne])]at hx;by_cases e:x=b
  ·exfalso;rw[b5 (by rw[Tr.get_del,ac e])]at hx;have:=h.apart x (by rw[hx];rfl);rw[e,hb]at this;cases this
  ·exact⟨e,by rwa [cH (M:=M) (by rw[Tr.get_del,ab e])]at hx⟩
 refine⟨E',⟨hec,hcc,⟨?_,?_,?_⟩,?_,?_,?_,hos,hout,htape⟩,hρ,ac rfl,ac rfl⟩
 ·intro x y hx;by_cases hxn:x=n
  ·subst hxn;rw[az (by rw[Tr.get_set,ac rfl])]at hx;obtain rfl:blk'=y:=by simpa using hx
   exact⟨hn',hbd,o',by rw[hρ,hh];simp[hlt],hr E' hec hρ (ac rfl) (ac rfl)⟩
  ·obtain⟨hxb,hx'⟩:=hold x y hx hxn;obtain⟨h1,h2,o,h3,h4⟩:=h.has x y hx';refine⟨hcc x h1,gd hcc y h2,o,?_,h4.ext hec h1 h2⟩;have hne:E.ρ b≠E.ρ x:=fun e'=>hxb (h.inj b x (by rw[az hb];rfl) (by rw[hx'];rfl) e').symm;rw[hec.ρ x h1,hh,Array.getElem?_setIfInBounds_ne hne];exact h3
 ·have key:∀x y,look F ((M.del b).set n blk') x=some y→x≠n→E'.ρ x≠E.ρ b:=by
   intro x y hx hxn e;obtain⟨hxb,hx'⟩:=hold x y hx hxn;rw[hec.ρ x (h.has x y hx').1]at e;exact hxb (h.inj x b (by rw[hx'];rfl) (by rw[az hb];rfl) e)
  intro x x' hx hx' e;obtain⟨y,hy⟩:=bL.1 hx;obtain⟨y',hy'⟩:=bL.1 hx';by_cases h1:x=n
  ·by_cases h2:x'=n
   ·rw[h1,h2]
   ·rw[h1,hρ]at e;exact absurd e.symm (key x' y' hy' h2)
  ·by_cases h2:x'=n
   ·rw[h2,hρ]at e;exact absurd e (key x y hy h1)
   ·obtain⟨_,g1⟩:=hold x y hy h1;obtain⟨_,g2⟩:=hold x' y' hy' h2;rw[hec.ρ x (h.has x y g1).1,hec.ρ x' (h.has x' y' g2).1]at e;exact h.inj x x' (by rw[g1];rfl) (by rw[g2];rfl) e
 ·intro x hx;have hM:=h.apart x hx;obtain⟨y,hy⟩:=bL.1 hx;have hxc:=(h.has x y (by rw[b5 hM];exact hy)).1;rw[Tr.get_set,ab (fun e:x=n=>hn (e▸hxc)),Tr.get_del];split
  ·rfl
  ·exact hM
 ·intro x hx;by_cases hxn:x=n
  ·exact .inl ⟨b,by rw[hb];rfl,by rw[hxn,hρ]⟩
  ·rw[Tr.get_set,ab hxn,Tr.get_del]at hx;split at hx
   ·cases hx
   ·obtain⟨y,hy⟩:=bL.1 hx;exact .inl ⟨x,hx,(hec.ρ x (h.has x y (az hy)).1).symm⟩
 ·intro r _ hnr;have hne:E.ρ b≠r:=hnr b (by rw[hb];rfl);rw[hh,Array.getElem?_setIfInBounds_ne hne]
 ·rw[hh];simp
def mM(P:Program)(ats:Array TypeId):Prop:=(∃t2 d,ats[1]?=some t2∧P.underlying t2=some d∧ ∀k,d≠ .int k)∨ats[1]?=none
theorem rC{ats:Array TypeId}{rty ty e:TypeId}{i:TypeInfo}{z:Value}(hat:ats[0]?=some ty)(hu:P.underlying ty=some (.slice e))(hzs:mM P ats)(hi:P.info? e=some i)(hz:i.zero=some z)
 {X:Value} {base:Option Addr} {sLen sCap n:Nat} {old new:Array Value} (hlen:(Builtin.lenOf X).run P w= .ok n w) (hold:(Builtin.firstCells i.size sLen (.slice base sLen sCap)).run P w.drew= .ok old w.drew)
 (hnew:(Builtin.firstCells i.size n X).run P w.drew= .ok new w.drew) (hg:sCap<sLen+n) (h63:sLen+n≤9223372036854775807) (h48:Builtin.nextslicecap (sLen+n) sCap*i.bytes≤281474976710656):
 (Builtin.append_ ats rty #[.slice base sLen sCap,X]).run P w= .ok (.slice (some ⟨w.heap.size,0,none⟩) (sLen+n) (grownCap w (sLen+n) sCap e))
  (w.drew.alloc (.cells (old++new++Builtin.zeroCells z.cells (grownCap w (sLen+n) sCap e-(sLen+n))) e)):=by
 have hn:¬(sLen+n≤sCap):=by omega
 have h63':¬(9223372036854775807<((sLen:Int)+(n:Int))):=by omega
 have h48':¬(281474976710656<Builtin.nextslicecap (sLen+n) sCap*i.bytes):=by omega
 rcases hzs with⟨t2,d,h1,h2,h3⟩|h1
 ·have hd:(d matches .int _)=false:=by cases d<;>first|rfl|exact absurd rfl (h3 _)
  simp[Builtin.append_,hat,h1,run_underlying hu,run_underlying h2,hd,Go.sizeOf,typeInfo,zeroValue,hi,hz,hlen,hn,h63',h48',Question.forced,hold,hnew,newRow,grownCap]
 ·simp[Builtin.append_,hat,h1,run_underlying hu,Go.sizeOf,typeInfo,zeroValue,hi,hz,hlen,hn,h63',h48',Question.forced,hold,hnew,newRow,grownCap]
theorem jh{ats:Array TypeId}{rty ty e:TypeId}{i:TypeInfo}(hat:ats[0]?=some ty)(hu:P.underlying ty=some (.slice e))(hzs:mM P ats)(hi:P.info? e=some i)
 {X:Value} {ad:Addr} {sLen sCap n:Nat} {new:Array Value} {w':World} (hlen:(Builtin.lenOf X).run P w= .ok n w)
 (hnew:(Builtin.firstCells i.size n X).run P w= .ok new w) (hg:sLen+n≤sCap) (hst:(storeCells (ad.add (sLen*i.size)) new.toList).run P w= .ok () w'):
 (Builtin.append_ ats rty #[.slice (some ad) sLen sCap,X]).run P w= .ok (.slice (some ad) (sLen+n) sCap) w':=by
 rcases hzs with⟨t2,d,h1,h2,h3⟩|h1
 ·have hd:(d matches .int _)=false:=by cases d<;>first|rfl|exact absurd rfl (h3 _)
  simp[Builtin.append_,hat,h1,run_underlying hu,run_underlying h2,hd,Go.sizeOf,typeInfo,hi,hlen,hg,hnew,hst]
 ·simp[Builtin.append_,hat,h1,run_underlying hu,Go.sizeOf,typeInfo,hi,hlen,hg,hnew,hst]
theorem rD{ats:Array TypeId}{rty ty e:TypeId}{i:TypeInfo}(hat:ats[0]?=some ty)(hu:P.underlying ty=some (.slice e))(hzs:mM P ats)(hi:P.info? e=some i)
 {X:Value} {base:Option Addr} {sLen sCap:Nat} (hlen:(Builtin.lenOf X).run P w= .ok 0 w)
 (hnew:(Builtin.firstCells i.size 0 X).run P w= .ok #[] w) (hg:sLen≤sCap):
 (Builtin.append_ ats rty #[.slice base sLen sCap,X]).run P w= .ok (.slice base sLen sCap) w:=by
 rcases hzs with⟨t2,d,h1,h2,h3⟩|h1
 ·have hd:(d matches .int _)=false:=by cases d<;>first|rfl|exact absurd rfl (h3 _)
  cases base<;>simp[Builtin.append_,hat,h1,run_underlying hu,run_underlying h2,hd,Go.sizeOf,typeInfo,hi,hlen,hg,hnew,storeCells]
 ·cases base<;>simp[Builtin.append_,hat,h1,run_underlying hu,Go.sizeOf,typeInfo,hi,hlen,hg,hnew,storeCells]
theorem Te(h:Cx P E F M c w t a){sz n:Nat}{y:V}{new:List V}(hs:eY F M sz y=some (n,new)):
 (Builtin.lenOf (conc E y)).run P w= .ok n w∧(Builtin.firstCells sz n (conc E y)).run P w= .ok (aI E new).toArray w∧fZ c new:=by
 unfold eY at hs
 split at hs
 ·rename_i m x;rw[bR]at hs;by_cases h1:sz=1
  ·rw[ah h1,cond_true]at hs;simp only[Option.some.injEq,Prod.mk.injEq]at hs;obtain⟨rfl,rfl⟩:=hs;refine⟨by simp[conc,Builtin.lenOf,i6],?_,oH _ _⟩;simp only[conc,Builtin.firstCells,aP,lL]
   congr 1
   have he:(ba m x).extract 0 m=ba m x:=by
    apply ByteArray.ext;rw[ByteArray.data_extract];have h2:=Array.extract_size (xs:=(ba m x).data);have h3:(ba m x).data.size=m:=i6 m x
    rwa [h3]at h2
   rw[he];simp[ba]
  ·rw[ag h1]at hs;cases hs
 ·rename_i y' hne;split at hs
  ·rename_i k hk;unfold XO at hs;split at hs
   ·rename_i vs r hr;simp only[Option.some.injEq,Prod.mk.injEq]at hs;obtain⟨rfl,rfl⟩:=hs;obtain⟨⟨ad,len,cap,hcv,hld⟩,hb,hl⟩:=h.readL hr;rcases gi (E:=E) hk with⟨ad',cap',hcv'⟩|⟨x,hx⟩
    ·rw[hcv]at hcv';injection hcv' with e1 e2 e3
     subst e1 e2 e3;rw[hcv];refine⟨by simp[Builtin.lenOf],?_,hb⟩;cases ad with
     |none=>simp only at hld;subst hld;simp[Builtin.firstCells,aI]
     |some ad=>simp only[Builtin.firstCells];exact hld
    ·exact absurd hx (hne _ _)
   ·cases hs
  ·cases hs
theorem Vf{e sz:Nat}{i:TypeInfo}(hi:P.info? e=some i)(h:Yn P e sz=true):∃z,i.zero=some z∧z.cells.size=sz:=by
 unfold Yn at h
 split at h
 ·rename_i z hz;unfold lh at hz;rw[hi]at hz;obtain⟨zv,h1,h2⟩:=aW.1 hz;have h1':i.zero=some zv:=by simpa using h1
  have:=(mF ⟨id,id,id⟩ (fun _=>True) _ _ _ h2).1;refine⟨zv,h1',?_⟩;rw[←this,cM,←dy];simp[bM]
  simpa using h
 ·cases h
theorem uG(zero:Array Value)(n:Nat):(Builtin.zeroCells zero n).size=n*zero.size:=by simp[Builtin.zeroCells]
theorem fD(E:cU)(l r:List V):aI E (l++r)=aI E l++aI E r:=by simp[bM]
theorem gf{l r:List V}(h:fZ c l)(h':fZ c r):fZ c (l++r):=by
 rw[mP]at *
 intro v hv
 rcases List.mem_append.1 hv with hv|hv
 ·exact h v hv
 ·exact h' v hv
theorem HD{E':cU}{b e len fz cap:Nat}{str:Bool}{vs:List V}{zero:Array Value}(he:oA c E E')(hb:fZ c vs)(hβ:E'.β b=0)(hκ:E'.κ b=cap-len)(hl:vs.length=len*P.cellsOf e)(hc:len≤cap)(hz:zero.size=P.cellsOf e):
 eg P E' b (.cells e vs.length false fz str [] (bP vs 0 .e)) (.cells ((aI E vs).toArray++Builtin.zeroCells zero (cap-len)) e):=by
 refine⟨_,_,rfl,⟨fun k v hk=>?_,?_,?_,fun _=> .inl rfl⟩⟩
 ·have hk':=mQ hk;have hlt:k<vs.length:=(List.getElem?_eq_some_iff.1 hk').1;rw[hβ,Nat.zero_add,eT he v (eZ hb hk'),Array.getElem?_append_left (by simpa [bM]using hlt)];simp[fk hk']
 ·simp only[bu,if_false];rw[Array.size_append,uG,hβ,hκ,hz];simp[bM]
 ·intro o _ ho hf;have h1:=hf.1;have h2:=hf.2;simp only at h1 h2;omega
end
section
variable{P:Program}{E:cU}{F:RO}{M:Mem}{c:Nat→Prop}{w:World}{t:T}{a:Act}
abbrev zt(P:Program)(F:RO)(E:cU)(M:Mem)(c:Nat→Prop)(ct:Nat)(w:World)(s:Sem Value)(v:V)(M':Mem)(ct':Nat):Prop:=
 ∃E' w' c',s.run P w= .ok (conc E' v) w'∧li P F E M c w E' M' c' w'∧bd c' v∧iE c ct c' ct'
theorem SP{len by_:Nat}(h:mA len by_=true):(3*len+2000)*by_≤281474976710656∧len≤1099511627776:=by
 unfold mA at h
 rw[cB,cB]at h
 simpa using h
theorem tq{M0:Mem}{ct e by_ len fz:Nat}{str:Bool}{vs:List V}{v:V}{M':Mem}{ct':Nat}(h:gO M0 ct e by_ len fz str vs= .k v M' ct'):
 mA len by_=true∧v= .u ct 0 len 0 len∧M'=M0.set ct (.cells e vs.length false fz str [] (bP vs 0 .e))∧ct'=ct+1:=by
 unfold gO at h
 cases hr:mA len by_ with
 |false=>rw[hr]at h;cases h
 |true=>
  rw[hr,cond_true,Tr.force_eq,bA,bA]at h;injection h with h1 h2 h3
  exact⟨rfl,h1.symm,h2.symm,h3.symm⟩
theorem lY(c:Nat→Prop)(ct:Nat):iE c ct (fun b=>c b∨b=ct) (ct+1):=⟨by omega,fun b hb=>hb.elim .inl fun h=> .inr (by omega)⟩
theorem mT(h:Cx P E F M c w t a){ct:Nat}(hf:fw c ct){M0:Mem}(hM0:li P F E M c w E M0 c w){ats:Array TypeId}{rty ty e:TypeId}{i:TypeInfo}(hat:ats[0]?=some ty)(hu:P.underlying ty=some (.slice e))(hzs:mM P ats)(hi:P.info? e=some i)(hzo:Yn P e i.size=true)
 {X:Value} {base:Option Addr} {sLen sCap n fz:Nat} {str:Bool} {old new:List V} (hlen:(Builtin.lenOf X).run P w= .ok n w) (hold:(Builtin.firstCells i.size sLen (.slice base sLen sCap)).run P w.drew= .ok (aI E old).toArray w.drew)
 (hnew:(Builtin.firstCells i.size n X).run P w.drew= .ok (aI E new).toArray w.drew) (hbo:fZ c old) (hbn:fZ c new) (hlo:old.length=sLen*i.size) (hln:new.length=n*i.size) (hg:sCap<sLen+n)
 {v:V} {M':Mem} {ct':Nat} (hgr:gO M0 ct e i.bytes (sLen+n) fz str (old++new)= .k v M' ct'):
 zt P F E M c ct w (Builtin.append_ ats rty #[.slice base sLen sCap,X]) v M' ct':=by
 obtain⟨hr,rfl,rfl,rfl⟩:=tq hgr
 obtain⟨hr1,hr2⟩:=SP hr
 obtain⟨z,hz,hzc⟩:=Vf hi hzo
 have h2:=nextslicecap_le hg
 have h48:Builtin.nextslicecap (sLen+n) sCap*i.bytes≤281474976710656:=by
  have h3:Builtin.nextslicecap (sLen+n) sCap*i.bytes≤(3*(sLen+n)+2000)*i.bytes:=Nat.mul_le_mul_right _ (by omega);omega
 have hrun:=rC (w:=w) (rty:=rty) hat hu hzs hi hz hlen hold hnew hg (by omega) h48
 have hcap:sLen+n≤grownCap w (sLen+n) sCap e:=by simp[grownCap,Question.cut]
 have hco:P.cellsOf e=i.size:=by unfold Program.cellsOf;rw[hi];rfl
 have hbd:=gf hbo hbn
 have harr:(aI E old).toArray++(aI E new).toArray=(aI E (old++new)).toArray:=by rw[fD];simp
 rw[harr]at hrun
 obtain⟨E',hS,hE,hρ,hβ,hκ⟩:=hM0.rel.alloc (.cells e (old++new).length false fz str [] (bP (old++new) 0 .e)) (.cells ((aI E (old++new)).toArray++Builtin.zeroCells z.cells (grownCap w (sLen+n) sCap e-(sLen+n))) e) ct
  (grownCap w (sLen+n) sCap e-(sLen+n)) (fun b=>c b∨b=ct) (hf ct (aj _)) (.inr rfl) (fun _ h=> .inl h) (sf hbd fun _ h=> .inl h)
  (w.drew.alloc (.cells ((aI E (old++new)).toArray++Builtin.zeroCells z.cells (grownCap w (sLen+n) sCap e-(sLen+n))) e)) rfl rfl rfl rfl
  (fun E' he _ hβ hκ=>HD he hbd hβ hκ (by rw[aG,hlo,hln,hco,Nat.add_mul]) hcap (by rw[hzc,hco]))
 refine⟨E',_,_,?_,hM0.trans hS,.inr rfl,lY c ct⟩
 rw[hrun]
 simp only[conc,hρ,hβ,hκ]
 congr 2
 omega
theorem Ab(h:Cx P E F M c w t a){ct:Nat}(hf:fw c ct){b n' fz o kn sLen n:Nat}{str:Bool}{d:List V}{cs:T}{e:TypeId}{i:TypeInfo}(hi:P.info? e=some i)(hM:M.get b=some (.cells e n' false fz str d cs))
 (hn':n'=o+kn*i.size) (hfz:fz≤o+sLen*i.size) {old new:List V} (hold:∀j v,old[j]?=some v→cell n' d cs (o+j)=some v) (hbo:fZ c old) (hbn:fZ c new) (h1:aL new=true) (hlo:old.length=sLen*i.size) (hln:new.length=n*i.size)
 (hle:sLen+n≤kn+E.κ b) {by_:Nat} {v:V} {M':Mem} {ct':Nat} (hgr:gO (M.del b) ct e by_ (sLen+n) fz str (old++new)= .k v M' ct'):
 ∃E' w' c',(storeCells ⟨E.ρ b,E.β b+o+sLen*i.size,none⟩ (aI E new)).run P w= .ok () w'∧li P F E M c w E' M' c' w'∧bd c' v∧iE c ct c' ct'∧conc E' v= .slice (some ⟨E.ρ b,E.β b+o,none⟩) (sLen+n) (kn+E.κ b):=by
 obtain⟨hr,rfl,rfl,rfl⟩:=tq hgr
 obtain⟨arr,fr,ho,hrel⟩:=h.cells (az hM)
 have hco:P.cellsOf e=i.size:=by unfold Program.cellsOf;rw[hi];rfl
 have hsz:=hrel.size
 simp only[bu,if_false]at hsz
 rw[hco]at hsz
 have hlen:(aI E new).length=n*i.size:=by simp[bM,hln]
 have hone:∀v∈aI E new,v.oneCell'=true:=by
  intro v hv;rw[bM,List.mem_map]at hv;obtain⟨x,hx,rfl⟩:=hv;exact tz (nO h1 x hx)
 have hmul:(sLen+n)*i.size≤(kn+E.κ b)*i.size:=Nat.mul_le_mul_right _ hle
 rw[Nat.add_mul,Nat.add_mul]at hmul
 have hrun:=iS (P:=P) (E.ρ b) (E.β b+o+sLen*i.size) e fr (aI E new) 0 arr w ho (fun k hk hk'=>hrel.free k (by omega) hk') (by rw[hlen];omega) hone
 have hsp:=oO (E.β b+o+sLen*i.size) (aI E new) 0 arr
 have hbd:=gf hbo hbn
 obtain⟨E',hS,hρ,hβ,hκ⟩:=h.rel.take b ct _ (.cells e (old++new).length false fz str [] (bP (old++new) 0 .e)) hM (.cells (fj arr (E.β b+o+sLen*i.size) (aI E new) 0) e fr) (E.β b+o) (kn+E.κ b-(sLen+n)) (fun x=>c x∨x=ct)
  (hf ct (aj _)) (.inr rfl) (fun _ h=> .inl h) (sf hbd fun _ h=> .inl h) {w with heap:=w.heap.setIfInBounds (E.ρ b) (.cells (fj arr (E.β b+o+sLen*i.size) (aI E new) 0) e fr)} rfl rfl rfl rfl (fun E' he hρ hβ hκ=>by
   refine⟨_,_,rfl,⟨fun k v hk=>?_,?_,?_,?_⟩⟩
   ·have hk':=mQ hk;have hlt:k<(old++new).length:=(List.getElem?_eq_some_iff.1 hk').1;rw[aG,hlo,hln]at hlt;rw[hβ,eT he v (eZ hbd hk')];unfold fj;rw[hsp.2 (E.β b+o+k) (by omega),hlen,aB];by_cases hko:k<sLen*i.size
    ·rw[ab (by omega)];rw[List.getElem?_append_left (by omega)]at hk';rw[Nat.add_assoc];exact hrel.cell (o+k) v (hold k v hk')
    ·rw[ac (by omega),show E.β b+o+k-(E.β b+o+sLen*i.size)=k-old.length by omega];rw[List.getElem?_append_right (by omega)]at hk';exact fk hk'
   ·simp only[bu,if_false];unfold fj;rw[hsp.1,hβ,hκ,hco,aG,hlo,hln,hsz,Nat.sub_mul,Nat.add_mul,Nat.add_mul];omega
   ·unfold fj;rw[hsp.1,hβ];intro k hk hk';exact hrel.free k (by omega) hk'
   ·intro hs;rw[hβ];rcases hrel.plain hs with hp|⟨hp,hp'⟩
    ·exact .inl hp
    ·exact .inr ⟨hp,by omega⟩)
 refine⟨E',_,_,hrun,hS,.inr rfl,lY c ct,?_⟩
 simp only[conc,hρ,hβ,hκ]
 congr 1
 omega
theorem nE{b ty o e fz:Nat}{str:Bool}(h:fJ M b ty o e=some (fz,str)):∃n d cs,M.get b=some (.cells ty n false fz str d cs)∧n=e∧fz≤o∧o≤e:=by
 unfold fJ at h
 split at h
 ·rename_i ty' n fz' str' d cs hM;rw[bR,bR,cB,cB]at h;by_cases hc:(decide (ty'=ty)&&decide (n=e)&&decide (fz'≤o)&&decide (o≤e))=true
  ·rw[hc,cond_true]at h;simp only[Option.some.injEq,Prod.mk.injEq]at h;obtain⟨rfl,rfl⟩:=h;simp only[aC,decide_eq_true_eq]at hc;obtain⟨⟨⟨rfl,rfl⟩,h3⟩,h4⟩:=hc;exact⟨_,_,_,hM,rfl,h3,h4⟩
  ·rw[Bool.not_eq_true]at hc;rw[hc]at h;cases h
 ·cases h
theorem sS{ct b o sz len n:Nat}{new:List V}{f:Nat→V}{v:V}{M':Mem}{ct':Nat}(h:zF ct b o sz len n M new f= .k v M' ct'):bS M b (o+len*sz) new=some M'∧v=f (len+n)∧ct'=ct:=by
 unfold zF at h
 split at h
 ·rename_i M'' hs;rw[bA]at h;injection h with h1 h2 h3
  subst h2;exact⟨hs,h1.symm,h3.symm⟩
 ·cases h
theorem r0{M0:Mem}{ct e by_ len fz:Nat}{str:Bool}{new:List V}{r:Option (List V×Option Nat)}{v:V}{M':Mem}{ct':Nat}(h:pT M0 ct e by_ len fz str new r= .k v M' ct'):∃old q,r=some (old,q)∧gO M0 ct e by_ len fz str (old++new)= .k v M' ct':=by
 unfold pT at h
 split at h
 ·exact⟨_,_,rfl,h⟩
 ·cases h
theorem DV{sz n b o n' ty fz:Nat}{ex str:Bool}{d:List V}{cs:T}{vs:List V}{r:Option Nat}(hM:M.get b=some (.cells ty n' ex fz str d cs))(h:readB F M sz n b o=some (vs,r)):∀j v,vs[j]?=some v→cell n' d cs (o+j)=some v:=by
 unfold Ev.readB at h
 rw[bR]at h
 by_cases hn:n=0
 ·rw[ah hn,cond_true]at h;simp only[Option.some.injEq,Prod.mk.injEq]at h;obtain⟨rfl,rfl⟩:=h;intro j v hj;simp at hj
 ·rw[ag hn,cond_false]at h;split at h
  ·rename_i l hl;simp only[Option.some.injEq,Prod.mk.injEq]at h;obtain⟨rfl,rfl⟩:=h;obtain⟨ty',m,ex',fz',str',d',cs',hb,hg⟩:=hU (f:=none) hl (by simp);rw[az hM]at hb;injection hb with hb
   injection hb with h1 h2 h3 h4 h5 h6 h7
   subst h2 h6 h7;exact(j7 _ _ _ hg).2
  ·cases h
theorem kU{sz n b o len cap:Nat}(h:Cx P E F M c w t a){old:List V}{r:Option Nat}(hr:readB F M sz n b o=some (old,r)):(Builtin.firstCells sz n (.slice (some ⟨E.ρ b,E.β b+o,none⟩) len cap)).run P w.drew= .ok (aI E old).toArray w.drew:=by
 simp only[Builtin.firstCells]
 exact((h.world (w':=w.drew) rfl).readB hr).1
theorem VZ(h:Cx P E F M c w t a){ct:Nat}(hf:fw c ct){ats:Array TypeId}{rty ty e:TypeId}{i:TypeInfo}(hat:ats[0]?=some ty)(hu:P.underlying ty=some (.slice e))(hzs:mM P ats)(hi:P.info? e=some i)(hpos:i.size≠0)(hzo:Yn P e i.size=true)
 {x y:V} {n:Nat} {new:List V} (hs:eY F M i.size y=some (n,new)) (hbx:bd c x) (h1:aL new=true) (hln:new.length=n*i.size)
 {v:V} {M':Mem} {ct':Nat} (ha:app F M ct e i.size i.bytes x n new= .k v M' ct'):zt P F E M c ct w (Builtin.append_ ats rty #[conc E x,conc E y]) v M' ct':=by
 obtain⟨hlen,hfc,hbn⟩:=Te h hs
 obtain⟨_,hfcd,_⟩:=Te (h.world (w':=w.drew) rfl) hs
 unfold app at ha
 rw[bR]at ha
 by_cases hn0:n=0
 ·subst hn0;rw[ah rfl,cond_true]at ha;have hnil:new=[]:=List.eq_nil_of_length_eq_zero (by omega);subst hnil;cases hlk:wb x with
  |false=>rw[hlk]at ha;cases ha
  |true=>
   rw[hlk,cond_true]at ha;injection ha with g1 g2 g3
   subst g1 g2 g3;have hsl:∃base sLen sCap,conc E x= .slice base sLen sCap∧sLen≤sCap:=by
    cases x<;>first
     |cases(show false=true from hlk)
     |(refine⟨_,_,_,rfl,?_⟩
       first
        |exact aj _
        |exact ax _
        |(have:Nat.ble _ _=true:=hlk
          rw[cB]at this;have:=bT this
          first
           |exact this
           |exact bc this (Nat.le_add_right _ _)))
   obtain⟨base,sLen,sCap,hcx,hle⟩:=hsl;refine⟨E,w,c,?_,.refl h.rel,hbx,.refl _ _⟩;rw[hcx];exact rD hat hu hzs hi hlen hfc hle
 ·rw[ag hn0,cond_false]at ha;have fin:∀{b o len n' cap:Nat} {M'':Mem},bS M b (o+len*i.size) new=some M''→len+n≤cap→c b→ ∃w',(Builtin.append_ ats rty #[.slice (some ⟨E.ρ b,E.β b+o,none⟩) len cap,conc E y]).run P w= .ok (.slice (some ⟨E.ρ b,E.β b+o,none⟩) (len+n) cap) w'∧li P F E M c w E M'' c w':=by
   intro b o len n' cap M'' hst hcap hb;obtain⟨w',hrun,hS⟩:=h.store hst hbn;refine⟨w',jh hat hu hzs hi hlen hfc hcap ?_,hS⟩;rw[Addr.add_eq,Nat.add_assoc];exact hrun
  cases x with
  |l0=>
   exact mT h hf (.refl h.rel) hat hu hzs hi hzo (old:=[]) hlen (by simp[Builtin.firstCells,aI]) hfcd trivial hbn (by simp) hln (by omega) (by simpa using ha)
  |l b o len cap=>
   have ha':vH F M ct e i.size i.bytes b o len cap n new= .k v M' ct':=ha;unfold vH at ha';rw[cB]at ha';by_cases hcap:len+n≤cap
   ·rw[ah (show Nat.add len n≤cap from hcap),cond_true]at ha';obtain⟨hst,rfl,rfl⟩:=sS ha';obtain⟨w',hrun,hS⟩:=fin (n':=0) hst hcap hbx;exact⟨E,w',c,hrun,hS,hbx,.refl _ _⟩
   ·rw[ag (show¬Nat.add len n≤cap from hcap),cond_false]at ha';obtain⟨old,q,hr,hgr⟩:=r0 ha';have hrb:=h.readB hr;exact mT h hf (.refl h.rel) hat hu hzs hi hzo hlen (kU h hr) hfcd hrb.2.1 hbn hrb.2.2 hln (by omega) hgr
  |u b o len el kn=>
   have ha':nr F M ct e i.size i.bytes b o len el kn n new= .k v M' ct':=ha;unfold nr at ha';rw[cB]at ha';by_cases hcap:el+len+n≤kn
   ·rw[ah (show Nat.add (Nat.add el len) n≤kn from hcap),cond_true]at ha';obtain⟨hst,rfl,rfl⟩:=sS ha';obtain⟨w',hrun,hS⟩:=fin (n':=0) (cap:=kn-el+E.κ b) hst (by omega) hbx;exact⟨E,w',c,hrun,hS,hbx,.refl _ _⟩
   ·rw[ag (show¬Nat.add (Nat.add el len) n≤kn from hcap),cond_false]at ha';split at ha'
    ·rename_i fz str hmw;obtain⟨n',d,cs,hM,hn',hfz,_⟩:=nE hmw;obtain⟨old,q,hr,hgr⟩:=r0 ha';have hrb:=h.readB hr;by_cases hroom:len+n≤kn-el+E.κ b
     ·obtain⟨E',w',c',hrun,hS,hb',hG,hcv⟩:=Ab h hf hi hM (o:=o) (kn:=kn-el) (sLen:=len) hn' hfz (DV hM hr) hrb.2.1 hbn h1 hrb.2.2 hln hroom hgr;refine⟨E',w',c',?_,hS,hb',hG⟩;rw[hcv];refine jh hat hu hzs hi hlen hfc hroom ?_;rw[Addr.add_eq];exact hrun
     ·exact mT h hf (h.rel.drop b) hat hu hzs hi hzo hlen (kU h hr) hfcd hrb.2.1 hbn hrb.2.2 hln (by omega) hgr
    ·cases ha'
  |ue b o0 o=>
   have ha':(match fJ M b e o o with
    |some (fz,str)=>gO (M.del b) ct e i.bytes n fz str new
    |none=> .f)= .k v M' ct':=ha
   split at ha'
   ·rename_i fz str hmw;obtain⟨n',d,cs,hM,hn',hfz,_⟩:=nE hmw;by_cases hroom:n≤E.κ b
    ·have hκ:E.κ b≠0:=by omega
     obtain⟨E',w',c',hrun,hS,hb',hG,hcv⟩:=Ab h hf hi hM (o:=o) (kn:=0) (sLen:=0) (old:=[]) (n:=n) (by simpa using hn') (by simpa using hfz) (fun j v hj=>by simp at hj) trivial hbn h1 (by simp) hln (by omega) (by simpa using ha');refine⟨E',w',c',?_,hS,hb',hG⟩;rw[hcv];simp only[conc,ab hκ];have:=jh (w:=w) (rty:=rty) (sLen:=0) (sCap:=E.κ b) (ad:=⟨E.ρ b,E.β b+o,none⟩) hat hu hzs hi hlen hfc (by omega) (w':=w') (by rw[Addr.add_eq];exact hrun)
     simpa using this
    ·have:=mT (rty:=rty) (base:=some (if E.κ b=0 then(if o<o0 then adD b else⟨E.ρ b,E.β b+o0,none⟩)else⟨E.ρ b,E.β b+o,none⟩)) (sLen:=0) (sCap:=E.κ b) (old:=[]) h hf (h.rel.drop b) hat hu hzs hi hzo hlen (by simp[Builtin.firstCells,aI,loadCells,loadCellsFrom]) hfcd trivial hbn (by simp) hln (by omega) (by simpa using ha');exact this
   ·cases ha'
  |_=>cases(show RC.f= .k v M' ct' from ha)
end
section
variable{P:Program}{E:cU}{F:RO}{M:Mem}{c:Nat→Prop}{w:World}{t:T}{a:Act}
theorem zt.op{o:Oper}{cl:Call}{b:Builtin}(hop:o.op= .call cl)(hb:cl.callee= .builtin b){l:List Operand}(hl:cl.args.toList=l){s:Sem Value}{v:V}{M':Mem}{ct ct':Nat}
 (he:∀fs,builtin b cl.argTypes o.type fs (l.map a.eval).toArray=(s>>=fun v=>pure (Next.value v))) (h:zt P F E M c ct w s v M' ct'):Bo P F E M c ct w a o v M' ct':=by
 obtain⟨E',w',c',hr,hS,hb',hG⟩:=h
 exact⟨E',w',.value (conc E' v),c',cD hop hb hl (by rw[he];exact be hr),.inl rfl,hS,hb',hG⟩
theorem zS(h:Cx P E F M c w t a){ct:Nat}(hf:fw c ct){o:Oper}{cl:Call}(hop:o.op= .call cl)(hb:cl.callee= .builtin .append){y z:Operand}(hargs:cl.args.toList=[y,z]){ty e:TypeId}(hat:cl.argTypes[0]?=some ty)(hzs:mM P cl.argTypes)
 (hu:P.underlying ty=some (.slice e)) {sz by_:Nat} (hsz:dB P e=some sz) (hby:QP P e=some by_) (hpos:sz≠0) (hzo:Yn P e sz=true) {xx xy:X} (h1:bf y=some xx) (h2:bf z=some xy)
 {k:Kn} (hk:k.F=F) {v:V} {M':Mem} {ct':Nat} (he:eU (.app e sz by_ xx xy) k M ct t= .k v M' ct'):Bo P F E M c ct w a o v M' ct':=by
 have he':nT k.F M ct e sz by_ (xx.ev t) (eY k.F M sz (xy.ev t))= .k v M' ct':=he
 rw[hk]at he'
 obtain⟨i,hi,rfl⟩:=wF hsz
 have hby':i.bytes=by_:=by
  unfold QP at hby;rw[hi]at hby;simpa using hby
 subst hby'
 have e1:=h.ev h1
 have e2:=h.ev h2
 cases hs:eY F M i.size (xy.ev t)with
 |none=>rw[hs]at he';cases(show RC.f= .k v M' ct' from he')
 |some r=>
  obtain⟨n,new⟩:=r;rw[hs]at he';have he2:(bif aL new&&Nat.beq new.length (Nat.mul n i.size)then app F M ct e i.size i.bytes (xx.ev t) n new else .f)= .k v M' ct':=he';rw[bR]at he2;by_cases hc1:aL new=true
  ·by_cases hc2:new.length=n*i.size
   ·rw[hc1,ah (show new.length=Nat.mul n i.size from hc2)]at he2;have he3:app F M ct e i.size i.bytes (xx.ev t) n new= .k v M' ct':=he2;have:=VZ (rty:=o.type) h hf hat hu hzs hi hpos hzo hs e1.2 hc1 hc2 he3;refine zt.op hop hb hargs (s:=Builtin.append_ cl.argTypes o.type #[conc E (xx.ev t),conc E (xy.ev t)]) (fun fs=>?_) this;simp only[builtin,List.map_cons,List.map_nil,e1.1,e2.1]
   ·rw[hc1,ag (show¬new.length=Nat.mul n i.size from hc2)]at he2;cases he2
  ·rw[Bool.not_eq_true]at hc1;rw[hc1]at he2;cases he2
theorem CY(h:Cx P E F M c w t a){sz n m:Nat}{y:V}{vs:List V}(hl:oR y=some m)(hn:n≤m)(hs:t7 F M sz n y=some vs):
 (Builtin.lenOf (conc E y)).run P w= .ok m w∧(Builtin.firstCells sz n (conc E y)).run P w= .ok (aI E vs).toArray w∧fZ c vs:=by
 unfold t7 at hs
 split at hs
 ·rename_i m' x;obtain rfl:m'=m:=ae hl;rw[bR]at hs;by_cases h1:sz=1
  ·rw[ah h1,cond_true]at hs;obtain rfl:=ae hs;refine⟨by simp[conc,Builtin.lenOf,i6],?_,oH _ _⟩;simp only[conc,Builtin.firstCells,aP,lL]
   congr 1
   apply Array.ext';simp only[ba,Array.toList_map,ByteArray.data_extract,Array.toList_extract,List.extract_eq_take_drop,Nat.sub_zero,List.drop_zero]
   congr 1
   have e:=sU m' x;rw[←xM n m' _ hn];show List.take n (bl m' x)=List.take n (bl m' (x%256^m'));rw[e]
  ·rw[ag h1]at hs;cases hs
 ·rename_i y' hne;obtain⟨⟨vs',r⟩,hr,rfl⟩:=bn.1 hs;obtain⟨⟨ad,len,cap,hcv,hld⟩,hb,_⟩:=h.readL hr;rcases gi (E:=E) hl with⟨ad',cap',hcv'⟩|⟨x,hx⟩
  ·rw[hcv]at hcv';injection hcv' with e1 e2 e3
   subst e1 e2 e3;rw[hcv];refine⟨by simp[Builtin.lenOf],?_,hb⟩;cases ad with
   |none=>simp only at hld;subst hld;simp[Builtin.firstCells,aI]
   |some ad=>simp only[Builtin.firstCells];exact hld
  ·exact absurd hx (hne _ _)
theorem HL(w:World){y:V}{m:Nat}(hl:oR y=some m):(Builtin.lenOf (conc E y)).run P w= .ok m w:=by
 rcases gi (E:=E) hl with⟨ad,cap,h⟩|⟨x,rfl⟩
 ·rw[h];simp[Builtin.lenOf]
 ·simp[conc,Builtin.lenOf,i6]
theorem aR1(h:Cx P E F M c w t a){o:Oper}{cl:Call}(hop:o.op= .call cl)(hb:cl.callee= .builtin .copy){y z:Operand}(hargs:cl.args.toList=[y,z]){ty e:TypeId}(hat:cl.argTypes[0]?=some ty)
 (hu:P.underlying ty=some (.slice e)) {sz:Nat} (hsz:dB P e=some sz) {xx xy:X} (h1:bf y=some xx) (h2:bf z=some xy)
 {k:Kn} (hk:k.F=F) {v:V} {M':Mem} {ct ct':Nat} (he:eU (.cpy sz xx xy) k M ct t= .k v M' ct'):Bo P F E M c ct w a o v M' ct':=by
 have he':zT sz xx xy k.F M ct t= .k v M' ct':=he
 rw[hk]at he'
 have e1:=h.ev h1
 have e2:=h.ev h2
 unfold zT at he'
 split at he'
 ·cases he'
 ·rename_i x hne;unfold Rj at he';split at he'
  ·rename_i dn sn hd hs;rw[bA,cB]at he';have hmin:(bif decide (sn≤dn)then sn else dn)=Nat.min sn dn:=by
    by_cases hh:sn≤dn
    ·rw[ah hh,cond_true];exact(Nat.min_eq_left hh).symm
    ·rw[ag hh,cond_false];exact(Nat.min_eq_right (by omega)).symm
   rw[hmin,bR]at he';rcases gi (E:=E) hd with⟨ad,cap,hcx⟩|⟨x,hx⟩
   case inr=>exact absurd hx (hne _ _)
   refine zt.op hop hb hargs (s:=Builtin.copy_ cl.argTypes o.type #[conc E (xx.ev t),conc E (xy.ev t)]) (fun fs=>by simp only[builtin,List.map_cons,List.map_nil,e1.1,e2.1]) ?_;have hlo:=HL (P:=P) (E:=E) w hs;by_cases h0:Nat.min sn dn=0
   ·rw[ah h0,cond_true]at he';injection he' with g1 g2 g3
    subst g1 g2 g3;refine⟨E,w,c,?_,.refl h.rel,trivial,.refl _ _⟩;have hfc:(Builtin.firstCells sz 0 (conc E (xy.ev t))).run P w= .ok #[] w:=by
     rcases gi (E:=E) hs with⟨ad',cap',hcy⟩|⟨x,hx⟩
     ·rw[hcy];cases ad'<;>simp[Builtin.firstCells,loadCells,loadCellsFrom]
     ·rw[hx];simp[conc,Builtin.firstCells]
    rw[hcx];cases ad<;>simp[Builtin.copy_,hat,aK hu,hlo,h0,dH hsz,hfc,storeCells,conc,goInt]
   ·rw[ag h0,cond_false]at he';cases hsrc:t7 F M sz (Nat.min sn dn) (xy.ev t)with
    |none=>rw[hsrc]at he';cases(show RC.f= .k v M' ct' from he')
    |some vs=>
     rw[hsrc]at he';obtain⟨_,hfc,hbv⟩:=CY h hs (Nat.min_le_left _ _) hsrc;have fin:∀b off,conc E (xx.ev t)= .slice (some ⟨E.ρ b,E.β b+off,none⟩) dn cap→(match bS M b off vs with
      |some M=>RC.k (.i .i64 (.ofNat (Nat.min sn dn))) M ct
      |none=> .f)= .k v M' ct'→zt P F E M c ct w (Builtin.copy_ cl.argTypes o.type #[conc E (xx.ev t),conc E (xy.ev t)]) v M' ct':=by
      intro b off hcx' hg;split at hg
      ·rename_i M'' hst;injection hg with g1 g2 g3
       subst g1 g2 g3;obtain⟨w',hrun,hS⟩:=h.store hst hbv;refine⟨E,w',c,?_,hS,trivial,.refl _ _⟩;rw[hcx'];simp[Builtin.copy_,hat,aK hu,hlo,dH hsz,hfc,hrun,conc,goInt]
      ·cases hg
     cases hv:xx.ev t with
     |l b off len cp=>
      rw[hv]at he' hcx fin;have hcx':Value.slice (some ⟨E.ρ b,E.β b+off,none⟩) len cp= .slice ad dn cap:=hcx;injection hcx' with q1 q2 q3
      subst q1 q2 q3;exact fin b off rfl he'
     |u b off len el kn=>
      rw[hv]at he' hcx fin;have hcx':Value.slice (some ⟨E.ρ b,E.β b+off,none⟩) len (kn-el+E.κ b)= .slice ad dn cap:=hcx;injection hcx' with q1 q2 q3
      subst q1 q2 q3;exact fin b off rfl he'
     |_=>rw[hv]at he';cases(show RC.f= .k v M' ct' from he')
  ·cases he'
theorem Wr(h:Cx P E F M c w t a){o:Oper}{cl:Call}(hop:o.op= .call cl)(hb:cl.callee= .builtin .clear){y:Operand}(hargs:cl.args.toList=[y]){ty e:TypeId}(hat:cl.argTypes[0]?=some ty)
 (hu:P.underlying ty=some (.slice e)) {z:V} (hz:lh P e=some z) {xx:X} (h1:bf y=some xx)
 {k:Kn} {v:V} {M':Mem} {ct ct':Nat} (he:eU (.clr (bI z) xx) k M ct t= .k v M' ct'):Bo P F E M c ct w a o v M' ct':=by
 cases(show RC.f=RC.k v M' ct' from he)
theorem Ds{e:TypeId}(hc:P.cellsOf e=1)(count off n:Nat)(hn:off+n≤count):liesAt P P.depth e count off e n=true:=by
 have hd:P.depth=(2*(P.types.size+Made.depth)+1)+1:=rfl
 rw[hd]
 simp only[liesAt,Bool.or_eq_true]
 left
 rw[hd]
 simp[rowAt,hc,hn,sameLayout,Nat.mod_one]
theorem xZ{b o n:Nat}{M':Mem}(h:mS M b o n=some M'):∃ty m ex fz d cs,M.get b=some (.cells ty m ex fz false d cs)∧M'=M.set b (.cells ty m ex (if fz≤o+n then o+n else fz) false d cs):=by
 unfold mS at h
 split at h
 ·rename_i ty m ex fz str d cs hM;cases str with
  |true=>cases h
  |false=>
   rw[cond_false,bA,cB]at h;obtain rfl:=ae h;refine⟨_,_,_,_,_,_,hM,?_⟩
   congr 2
   by_cases hh:fz≤o+n
   ·rw[ah (show fz≤Nat.add o n from hh),ac hh];rfl
   ·rw[ag (show¬fz≤Nat.add o n from hh),ab hh];rfl
 ·cases h
theorem nB(r:Nat):∀(ns:List Nat) (off:Nat) (acc:ByteArray),(∀j (hj:j<ns.length),w.cell? ⟨r,off+j,none⟩=some (.int .u8 (ns[j]:Int)))→
 (loadBytes ⟨r,off,none⟩ acc ns.length).run P w= .ok ⟨acc.data++(ns.map fun c=>UInt8.ofNat c).toArray⟩ w
 |[],off,acc,_=>by simp[loadBytes]
 |x::l,off,acc,h=>by
  have h0:w.cell? ⟨r,off,none⟩=some (.int .u8 (x:Int)):=h 0 (by simp)
  have ih:=nB r l (off+1) (acc.push x.toUInt8) (fun j hj=>by
   have:=h (j+1) (by simpa using hj);rw[show off+1+j=off+(j+1) by omega]
   simpa using this)
  simp only[av,loadBytes,aT,run_load,h0,Result.andThen,Int.toNat_natCast,Addr.add_eq];rw[ih]
  congr 1
  apply ByteArray.ext;simp[ByteArray.push]
theorem TH{ats:Array TypeId}{rty pt:TypeId}(hat:ats[0]?=some pt)(p:Option Addr)(k:IntKind):(Builtin.unsafeString_ ats rty #[.pointer p,.int k 0]).run P w= .ok (.string .empty) w:=by
 have hmax:IntKind.i64.max=9223372036854775807:=rfl
 conv=>lhs;arg 2;whnf
 cases p<;>simp[asInt,asIntOf,hmax,hat]
theorem XZ{ats:Array TypeId}{rty pt e:TypeId}(hat:ats[0]?=some pt)(hu:P.underlying pt=some (.pointer e))(ad:Addr)(k:IntKind){n:Nat}(h0:n≠0)(hn:n≤1099511627776)(hv:(variablesAt ad e n).run P w= .ok true w){s:ByteArray}(hl:(loadBytes ad .empty n).run P w= .ok s w):
 (Builtin.unsafeString_ ats rty #[.pointer (some ad),.int k n]).run P w= .ok (.string s) (w.freeze ad n):=by
 have hmax:IntKind.i64.max=9223372036854775807:=rfl
 have h1:¬((n:Int)<0):=by omega
 have h2:¬((9223372036854775807:Int)<(n:Int)):=by omega
 have h3:¬((n:Int)=0):=by omega
 conv=>lhs;arg 2;whnf
 simp[asInt,asIntOf,hmax,hat,h1,h2,h3,h0,elemOf,aK hu,hv,hl,run_freeze]
theorem tf(h:Cx P E F M c w t a){o:Oper}{cl:Call}(hop:o.op= .call cl)(hb:cl.callee= .builtin .unsafeString){y z:Operand}(hargs:cl.args.toList=[y,z]){pt e:TypeId}(hat:cl.argTypes[0]?=some pt)
 (hu:P.underlying pt=some (.pointer e)) (hsz:dB P e=some 1) {xx xy:X} (h1:bf y=some xx) (h2:bf z=some xy)
 {k:Kn} (hk:k.F=F) {v:V} {M':Mem} {ct ct':Nat} (he:eU (.us e xx xy) k M ct t= .k v M' ct'):Bo P F E M c ct w a o v M' ct':=by
 have he':Rm e xx xy k.F M ct t= .k v M' ct':=he
 rw[hk]at he'
 have e1:=h.ev h1
 have e2:=h.ev h2
 have hmax:IntKind.i64.max=9223372036854775807:=rfl
 unfold Rm at he'
 split at he'
 ·rename_i n hn;obtain⟨ik,hy⟩:=lI hn;rw[hy]at e2;refine zt.op hop hb hargs (s:=Builtin.unsafeString_ cl.argTypes o.type #[conc E (xx.ev t),.int ik n]) (fun fs=>by simp only[builtin,List.map_cons,List.map_nil,e1.1,e2.1,conc]) ?_;have hz:(conc E (.s 0 0))= .string .empty:=by simp only[conc];rfl
  split at he'
  ·rename_i hv;rw[bR]at he';by_cases h0:n=0
   ·subst h0;rw[ah rfl,cond_true]at he';injection he' with g1 g2 g3
    subst g1 g2 g3;refine⟨E,w,c,?_,.refl h.rel,trivial,.refl _ _⟩;rw[hv,hz];exact TH hat none ik
   ·rw[ag h0]at he';cases he'
  ·rename_i b off hv;unfold Fe at he';rw[bR]at he';by_cases h0:n=0
   ·subst h0;rw[ah rfl,cond_true]at he';injection he' with g1 g2 g3
    subst g1 g2 g3;refine⟨E,w,c,?_,.refl h.rel,trivial,.refl _ _⟩;rw[hv,hz];exact TH hat _ ik
   ·rw[ag h0,cond_false,cB]at he';cases hty:TG M b e with
    |false=>rw[hty]at he';cases he'
    |true=>
     by_cases hnb:n≤1099511627776
     ·rw[hty,ah hnb]at he';simp only[Bool.and_self,cond_true]at he';split at he'
      ·rename_i vs hld;unfold Ff at he';split at he'
       ·rename_i n' s hbv;split at he'
        ·rename_i M'' hfz;rw[bA,bA]at he';injection he' with g1 g2 g3
         subst g1 g2 g3;obtain⟨ty,m,ex,fz,d,cs,hM,rfl⟩:=xZ hfz;obtain⟨arr,fr,ho,hr⟩:=h.cells (az hM);have hte:ty=e:=by
          unfold TG at hty;rw[hM]at hty;simp only[bR]at hty;exact bT hty
         subst hte;have hl:=h.loadN hld;obtain⟨ns,rfl,rfl,hbb⟩:=lN _ _ _ hbv;have hnl:ns.length=n:=by simpa using hl.2.2
         have hcells:∀j (hj:j<ns.length),w.cell? ⟨E.ρ b,E.β b+off+j,none⟩=some (.int .u8 (ns[j]:Int)):=by
          intro j hjn;obtain⟨ty',m',ex',fz',str',d',cs',hb',hg⟩:=hU (f:=none) hld (by simp);rw[az hM]at hb';injection hb' with hb'
          injection hb' with q1 q2 q3 q4 q5 q6 q7
          subst q2 q6 q7;have hcell:=(j7 _ _ _ hg).2 j (.i .u8 (.ofNat ns[j])) (by simp[hjn]);have:=hr.cell _ _ hcell;simp only[World.cell?,ho,Option.isSome_none,bu,if_false];rw[Nat.add_assoc,this];rfl
         have hsize:E.β b+off+n≤arr.size:=by
          have:=hcells (n-1) (by omega);simp only[World.cell?,ho,Option.isSome_none,bu,if_false]at this;have:=(Array.getElem?_eq_some_iff.1 this).1;omega
         have hlb:=nB (P:=P) (w:=w) (E.ρ b) ns (E.β b+off) .empty hcells
         have hba:(⟨ByteArray.empty.data++(ns.map fun c=>UInt8.ofNat c).toArray⟩:ByteArray)=ba ns.length s:=by
          unfold ba;rw[hbb];apply ByteArray.ext;simp
         rw[hba]at hlb;have hco:=ki hsz;have hva:(variablesAt ⟨E.ρ b,E.β b+off,none⟩ ty n).run P w= .ok true w:=by
          have hsh:w.shape? (E.ρ b)=some (ty,arr.size):=by simp[World.shape?,ho]
          simp[variablesAt,run_shape,hsh,hco,Ds hco arr.size (E.β b+off) n hsize]
         subst hnl;have hrun:=XZ (w:=w) (rty:=o.type) hat hu ⟨E.ρ b,E.β b+off,none⟩ ik h0 hnb hva hlb
         have hfw:w.freeze ⟨E.ρ b,E.β b+off,none⟩ ns.length={w with heap:=w.heap.setIfInBounds (E.ρ b) (.cells arr ty (if fr.1==fr.2 then(E.β b+off,E.β b+off+ns.length)else(min fr.1 (E.β b+off),max fr.2 (E.β b+off+ns.length))))}:=by
          unfold World.freeze;rw[ab h0,wf _ ho]
         rw[hfw]at hrun;generalize hnf:(if fr.1==fr.2 then(E.β b+off,E.β b+off+ns.length)else(min fr.1 (E.β b+off),max fr.2 (E.β b+off+ns.length)))=nf at hrun;refine⟨E,{w with heap:=w.heap.setIfInBounds (E.ρ b) (.cells arr ty nf)},c,?_,h.rel.write b _ _ hM (.cells arr ty nf) ?_ {w with heap:=w.heap.setIfInBounds (E.ρ b) (.cells arr ty nf)} rfl rfl rfl rfl ?_,trivial,.refl _ _⟩
         ·rw[hv];exact hrun
         ·exact(h.rel.has _ _ (az hM)).2.1
         ·subst hnf;have hhi:(if fr.1==fr.2 then(E.β b+off,E.β b+off+ns.length)else(min fr.1 (E.β b+off),max fr.2 (E.β b+off+ns.length))).2≤E.β b+(if fz≤off+ns.length then off+ns.length else fz):=by
           by_cases hfe:fr.1=fr.2
           ·rw[ac (by simpa using hfe)];simp only;split<;>omega
           ·rw[ab (by simpa using hfe)];simp only;rcases hr.plain rfl with hp|⟨hp,hp'⟩
            ·exact absurd hp hfe
            ·split<;>omega
          refine⟨arr,_,rfl,⟨hr.cell,hr.size,fun k hk hk' hf=>?_,fun _=> .inr ⟨?_,hhi⟩⟩⟩
          ·have:=hf.2;omega
          ·split<;>omega
        ·cases he'
       ·cases he'
      ·cases he'
     ·rw[ag hnb,Bool.and_false]at he';cases he'
  ·cases he'
 ·cases he'
end
section
variable{P:Program}{E:cU}{F:RO}{M:Mem}{c:Nat→Prop}{w:World}{t:T}{a:Act}
theorem Wt(h:Cx P E F M c w t a){o:Oper}{y:Operand}(hop:o.op= .next y true){x:X}(hx:bf y=some x){k:Kn}{v:V}{M':Mem}{ct ct':Nat}(he:eU (.nxs x) k M ct t= .k v M' ct'):Bo P F E M c ct w a o v M' ct':=by
 cases(show RC.f=RC.k v M' ct' from he)
theorem Rl(h:Cx P E F M c w t a){ct:Nat}(hf:fw c ct){o:Oper}{ty kt et:TypeId}{y:Operand}(hop:o.op= .range ty y)(hu:P.underlying ty=some (.map kt et)){x:X}(hx:bf y=some x){k:Kn}(hk:k.F=F){v:V}{M':Mem}{ct':Nat}(he:eU (.rgm x) k M ct t= .k v M' ct'):Bo P F E M c ct w a o v M' ct':=by
 cases(show RC.f=RC.k v M' ct' from he)
theorem Ws(h:Cx P E F M c w t a){o:Oper}{y:Operand}(hop:o.op= .next y false){x:X}(hx:bf y=some x){k:Kn}(hk:k.F=F){v:V}{M':Mem}{ct ct':Nat}(he:eU (.nxm x) k M ct t= .k v M' ct'):Bo P F E M c ct w a o v M' ct':=by
 cases(show RC.f=RC.k v M' ct' from he)
end
end
end Go.Proofs.YtmbpllipombieaaDoor.Ev
