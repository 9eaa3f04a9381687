/- What is proved here: pieces of the evaluator's soundness: if the evaluator comes to a value, the model's run comes to it, for every world and tape; no conditions beyond the hypotheses of each theorem. -/
import Derived.Test.YtmbpllipombieaaDoorEv0
import Derived.Laws.Externs
import Derived.KernelRfl
import Derived.Laws.StructEq
import Derived.Lib.Bytealg
import GoSem.Extern.BytealgCompare
import Derived.Lib.UnsafeStr
set_option linter.unusedSimpArgs false
set_option linter.unusedVariables false
set_option linter.defProp false
namespace Go.Proofs.YtmbpllipombieaaDoor.Ev
open Go
noncomputable section
section
variable{P:Program}{E:cG}{F:RO}{M:Mem}{c:Nat→Prop}{w:World}{t:T}{a:Act}
def Gj(o:Option Value)(r:Option Nat):Prop:=∃k,o=r.map fun n=>Value.int k (n:Int)
theorem Cx.optNN(h:Cx P E F M c w t a){o:Option Operand}{x:Option X}(hx:EV o=some x){r:Option Nat}(hr:Ev.optNN t x=some r):Gj (o.map a.eval) r:=by
 cases o with
 |none=>
  obtain rfl:=ae hx;obtain rfl:=ae hr;exact⟨.i64,rfl⟩
 |some y=>
  obtain⟨z,hz,rfl⟩:=bf.1 hx;have hr':(match lO (z.ev t)with|some n=>some (some n)|none=>none)=some r:=hr;split at hr'
  ·rename_i n hn;obtain rfl:=ae hr';obtain⟨k,hk⟩:=gH hn;refine⟨k,?_⟩;rw[Option.map_some,(h.ev hz).1,hk];rfl
  ·cases hr'
theorem Cx.optN(h:Cx P E F M c w t a){o:Option Operand}{x:Option X}(hx:EV o=some x){d n:Nat}(hr:Ev.optN t d x=some n):
 ∃r,Gj (o.map a.eval) r∧r.getD d=n∧(r.isSome↔x.isSome):=by
 cases o with
 |none=>
  obtain rfl:=ae hx;obtain rfl:d=n:=ae hr;exact⟨none,⟨.i64,rfl⟩,rfl,by simp⟩
 |some y=>
  obtain⟨z,hz,rfl⟩:=bf.1 hx;have hn:lO (z.ev t)=some n:=hr;obtain⟨k,hk⟩:=gH hn;refine⟨some n,⟨k,?_⟩,rfl,by simp⟩;rw[Option.map_some,(h.ev hz).1,hk];rfl
theorem lS{isS:Bool}{len cap:Nat}{lo hi mx:Option Value}{l h m:Option Nat}(hl:Gj lo l)(hh:Gj hi h)(hm:Gj mx m)
 (h1:m.getD cap≤cap) (h2:h.getD len≤m.getD cap) (h3:l.getD 0≤h.getD len) (h4:m=none∨h.isSome):
 (Instr.sliceBounds isS len cap lo hi mx).run P w= .ok (l.getD 0,h.getD len,m.getD cap) w:=by
 obtain⟨k1,rfl⟩:=hl
 obtain⟨k2,rfl⟩:=hh
 obtain⟨k3,rfl⟩:=hm
 cases l<;>cases h<;>cases m<;>
  simp_all [Instr.sliceBounds,Instr.sliceBound,asIntOf]
theorem Cn{b o n k:Nat}{x:V}(h:(Y7 b o n k).val=some x):x= .l b o n k:=by
 unfold Y7 at h;rw[bp,bp,bp]at h;exact(ae h).symm
theorem Cp{b o n el kn:Nat}{x:V}(h:(Y8 b o n el kn).val=some x):x= .u b o n el kn:=by
 unfold Y8 at h;rw[bp,bp,bp]at h;exact(ae h).symm
theorem PK{p q r:Bool}{x y:QR}{v:V}(h:(bif p&&q&&r then x else .f).val=some v):p=true∧q=true∧r=true∧x.val=some v:=by
 cases p<;>cases q<;>cases r<;>first|exact⟨rfl,rfl,rfl,h⟩|cases(show(none:Option V)=some v from h)
theorem bg8{p q:Bool}{x:QR}{v:V}(h:(bif p&&q then x else .f).val=some v):p=true∧q=true∧x.val=some v:=by
 cases p<;>cases q<;>first|exact⟨rfl,rfl,h⟩|cases(show(none:Option V)=some v from h)
theorem tU{sz b o cap l h m:Nat}{x:V}(hx:(tT sz b o cap l h m).val=some x):m≤cap∧h≤m∧l≤h∧x= .l b (if m=l then o else o+l*sz) (h-l) (m-l):=by
 unfold tT at hx
 rw[bW,bW,bW,bI]at hx
 obtain⟨h1,h2,h3,h4⟩:=PK (y:= .f) hx
 refine⟨bL h1,bL h2,bL h3,?_⟩
 rw[Cn h4]
 by_cases e:m=l<;>simp[e]
theorem PJ{r o k:Nat}{p:Prop}[Decidable p]:(if p then(⟨r,o,none⟩:Addr)else⟨r,o+k,none⟩)=⟨r,if p then o else o+k,none⟩:=by split<;>rfl
theorem Rh(h:Cx P E F M c w t a){o:Oper}{ty:TypeId}{y:Operand}{lo hi mx:Option Operand}(hop:o.op= .slice ty y lo hi mx){q:QO}(hc:ax P o.op=some (.q q)){x:V}(hx:(cE q F M t).val=some x):oM P E c w a o x:=by
 rw[hop]at hc
 simp only[ax]at hc
 split at hc
 ·rename_i xa xl xh xm h1 h2 h3 h4;have e:=h.ev h1
  have arr:∀n s el,de P el=some s→(∀ad:Addr,∀lo' hi' mx':Option Value,∀l k m:Nat,(Instr.sliceBounds false n n lo' hi' mx').run P w= .ok (l,k,m) w→
   (Instr.sliceAt ty (.pointer (some ad)) lo' hi' mx').run P w= .ok (.slice (some (if m=l then ad else ad.add (l*s))) (k-l) (m-l)) w)→
   QO.slA n s xa xl xh xm=q→oM P E c w a o x:=by
   intro n s el hs hrun hq;subst hq;have hx':(tP n s xa xl xh xm F M t).val=some x:=hx;unfold tP at hx';by_cases hg:(xm.isNone||xh.isSome)=true
   ·rw[hg,cond_true]at hx';obtain⟨b,off,hv,hg2⟩:=mY hx';unfold MM at hg2;split at hg2
    ·rename_i l k m hl hk hm;obtain⟨d1,d2,d3,rfl⟩:=tU hg2;obtain⟨rl,ol,el',_⟩:=h.optN h2 hl;obtain⟨rh,oh,eh,ih⟩:=h.optN h3 hk;obtain⟨rm,om,em,im⟩:=h.optN h4 hm;subst el' eh em;rw[hv]at e;refine⟨?_,e.2⟩;simp only[execOp,hop];refine aV ?_;rw[e.1];simp only[conc]
     rw[hrun _ _ _ _ _ _ _ (lS ol oh om d1 d2 d3 (by
      cases hxm:xm with
      |none=>left;rw[hxm]at im;simpa using im
      |some z=>right;rw[hxm]at hg;rw[ih];simpa using hg))]
     simp only[Addr.add_eq,PJ]
     congr 5
     split<;>omega
    ·cases hg2
   ·rw[Bool.not_eq_true]at hg;rw[hg]at hx';cases(show(none:Option V)=some x from hx')
  split at hc
  ·
   rename_i hu;split at hc
   ·cases hc
   ·rename_i hmx;obtain rfl:QO.slS xa xl xh=q:=by simpa [Ev.q]using hc
    obtain⟨n,s,hv,hg⟩:=kU (show(tI (xa.ev t) .f fun n s=>iC n s (optN t 0 xl) (optN t n xh)).val=some x from hx);obtain⟨l,k,hl,hk,d1,d2,rfl⟩:=D2 hg;obtain⟨rl,ol,el',_⟩:=h.optN h2 hl;obtain⟨rh,oh,eh,ih⟩:=h.optN h3 hk;subst el' eh
    have hmn:xm=none:=by cases xm with
     |none=>rfl
     |some z=>simp at hmx
    have hmx0:mx=none:=by
     rw[hmn]at h4;cases mx with
     |none=>rfl
     |some z=>rw[EV]at h4;cases hz:aZ z<;>rw[hz]at h4<;>simp at h4
    rw[hv]at e;refine⟨?_,trivial⟩;simp only[execOp,hop];refine aV ?_;rw[e.1,hmx0];have hb:=lS (P:=P) (w:=w) (isS:=false) (len:=n) (cap:=n) (mx:=none) (m:=none) ol oh ⟨.i64,rfl⟩ (by simp) (by simpa using d2) (by simpa using d1) (.inl rfl);simp only[Instr.sliceAt,Instr.slice,aI,aC hu,aN,conc,Option.map_none,Option.isSome_none,bn,if_false,Sem.run_ite,aF,gb,hb]
    congr 2
    exact zB _ _ _ _ d1 d2
  ·
   rename_i el hu;obtain⟨s,hs,hc'⟩:=aQ.1 hc;split at hc'
   ·cases hc'
   ·obtain rfl:QO.slL s xa xl xh xm=q:=by simpa [Ev.q]using hc'
    have hx':(oq s (xa.ev t) (optNN t xl) (optNN t xh) (optNN t xm)).val=some x:=hx;unfold oq at hx';split at hx'
    ·rename_i rl rh rm hl hk hm;have ol:=h.optNN h2 hl;have oh:=h.optNN h3 hk;have om:=h.optNN h4 hm;unfold pJ at hx';by_cases hg:(rm.isNone||rh.isSome)=true
     ·rw[hg,cond_true]at hx';have h4':rm=none∨rh.isSome:=by
       cases rm with
       |none=>exact .inl rfl
       |some z=>right;simpa using hg
      have fin:∀(ad:Option Addr) (len cap:Nat),conc E (xa.ev t)= .slice ad len cap→rm.getD cap≤cap→rh.getD len≤rm.getD cap→rl.getD 0≤rh.getD len→
       (Instr.sliceAt ty (conc E (xa.ev t)) (lo.map a.eval) (hi.map a.eval) (mx.map a.eval)).run P w=
        .ok (.slice (if rm.getD cap=rl.getD 0 then ad else ad.map (·.add (rl.getD 0*s))) (rh.getD len-rl.getD 0) (rm.getD cap-rl.getD 0)) w:=by
       intro ad len cap hcv d1 d2 d3;rw[hcv];have hb:=lS (P:=P) (w:=w) (isS:=true) ol oh om d1 d2 d3 h4';simp only[Instr.sliceAt,Instr.slice,aI,aC hu,aN,hb,d6 hs,aF]
      split at hx'
      ·rename_i b off len cap hv;obtain⟨d1,d2,d3,rfl⟩:=tU hx';rw[hv]at e;refine⟨?_,e.2⟩;simp only[execOp,hop];refine aV ?_;rw[(h.ev h1).1,fin _ len cap (by rw[hv];rfl) d1 d2 d3];simp only[conc,Option.map_some,Addr.add_eq]
       congr 2
       split
       ·rename_i e0;simp[e0]
       ·rename_i e0;simp[e0,Nat.add_assoc]
      ·rename_i hv;rw[bI,bI,bI]at hx';obtain⟨g1,g2,g3,g4⟩:=PK (y:= .f) hx';obtain rfl:=ae g4;have g1:=bL g1;have g2:=bL g2;have g3:=bL g3;refine⟨?_,trivial⟩;simp only[execOp,hop];refine aV ?_;rw[e.1,fin none 0 0 (by rw[hv];rfl) (by omega) (by omega) (by omega),g1,g2,g3];rfl
      ·rename_i b off len el' kn hv;rw[hv]at e;split at hx'
       ·unfold lI at hx';rw[bW,bW,bI,fu]at hx';obtain⟨g1,g2,g3⟩:=bg8 hx';have g1:el'+rh.getD len≤kn:=bL g1;have g2:rl.getD 0≤rh.getD len:=bL g2;have hr:=fin _ len _ (by rw[hv];rfl) (by simp) (show rh.getD len≤kn-el'+E.κ b by omega) g2;simp only[Option.getD_none]at hr;by_cases hl0:rl.getD 0=0
        ·rw[aj (p:=rl.getD 0=0) hl0,cond_true]at g3;obtain rfl:=Cp g3;refine⟨?_,e.2⟩;simp only[execOp,hop];refine aV ?_;rw[(h.ev h1).1,hr,hl0];simp[conc,Addr.add_eq]
        ·rw[ak (p:=rl.getD 0=0) hl0,cond_false]at g3;by_cases hlt:el'+rl.getD 0<kn
         ·rw[show Nat.add el' (rl.getD 0)=el'+rl.getD 0 from rfl,aj hlt,cond_true]at g3;obtain rfl:=Cp g3;refine⟨?_,e.2⟩;simp only[execOp,hop];refine aV ?_;rw[(h.ev h1).1,hr];have hne:¬(kn-el'+E.κ b=rl.getD 0):=by omega
          simp only[conc,hne,if_false,Option.map_some,Addr.add_eq]
          congr 2
          ·rw[Nat.add_assoc];rfl
          ·show _=kn-(el'+rl.getD 0)+E.κ b;omega
         ·rw[show Nat.add el' (rl.getD 0)=el'+rl.getD 0 from rfl,ak hlt,cond_false,bp]at g3;obtain rfl:=ae g3;refine⟨?_,e.2⟩;simp only[execOp,hop];refine aV ?_;rw[(h.ev h1).1,hr];have e1:rh.getD len-rl.getD 0=0:=by omega
          have e2:kn-el'+E.κ b-rl.getD 0=E.κ b:=by omega
          rw[e1,e2];simp only[conc,Option.map_some,Addr.add_eq]
          congr 2
          by_cases hk0:E.κ b=0
          ·rw[ac (by omega),ac hk0,ab (show¬(Nat.add off (Nat.mul (rl.getD 0) s)<off)from Nat.not_lt.2 (Nat.le_add_right _ _))]
          ·rw[ab (by omega),ab hk0,Nat.add_assoc];rfl
       ·rename_i m;unfold Nq at hx';rw[bW,bW,bW,bI]at hx';obtain⟨g1,g2,g3,g4⟩:=PK (y:= .f) hx';have g1:el'+m≤kn:=bL g1;have g2:rh.getD len≤m:=bL g2;have g3:rl.getD 0≤rh.getD len:=bL g3;obtain rfl:=Cn g4;refine⟨?_,e.2⟩;simp only[execOp,hop];refine aV ?_;rw[(h.ev h1).1,fin _ len _ (by rw[hv];rfl) (by simp;omega) (by simpa using g2) g3];simp only[conc,Option.getD_some,Option.map_some,Addr.add_eq]
        congr 2
        by_cases e0:m=rl.getD 0
        ·simp[e0]
        ·simp[e0,Nat.add_assoc]
      ·rename_i b o0 off hv;rw[hv]at e;rw[bI,bI]at hx';obtain⟨g1,g2,g3,g4⟩:=PK (y:= .f) hx';obtain rfl:=ae g4;have g2:=bL g2;have g3:=bL g3;have hrm:rm=none:=by simpa using g1
       subst hrm;refine⟨?_,e.2⟩;simp only[execOp,hop];refine aV ?_;rw[(h.ev h1).1,fin _ 0 _ (by rw[hv];rfl) (by simp) (by rw[g2];omega) (by rw[g3];omega),g2,g3];simp[conc,Addr.add,hv]
      ·cases hx'
     ·rw[Bool.not_eq_true]at hg;rw[hg]at hx';cases(show(none:Option V)=some x from hx')
    ·cases hx'
  ·
   rename_i n el hu;obtain⟨s,hs,hc'⟩:=aQ.1 hc;split at hc'
   ·cases hc'
   ·refine arr n s el hs ?_ (by simpa [Ev.q]using hc');intro ad lo' hi' mx' l k m hb;simp only[Instr.sliceAt,aI,aC hu,aN,Instr.sureAddr,aF,hb,d6 hs]
  ·
   rename_i ar hu;split at hc
   ·rename_i n el hua;obtain⟨s,hs,hc'⟩:=aQ.1 hc;split at hc'
    ·cases hc'
    ·refine arr n s el hs ?_ (by simpa [Ev.q]using hc');intro ad lo' hi' mx' l k m hb;simp only[Instr.sliceAt,Instr.slice,aI,aC hu,aC hua,aN,asAddr,aF,hb,d6 hs]
   ·cases hc
  ·cases hc
 ·cases hc
end
theorem sW{o:Option bw}{g:List (V×V×Nat)→Nat→QR}{x:V}(h:(oN o .f g).val=some x):∃es k,o=some (.map es k)∧(g es k).val=some x:=by
 cases o with
 |none=>cases(show(none:Option V)=some x from h)
 |some b=>cases b with
  |map es k=>exact⟨es,k,rfl,h⟩
  |_=>cases(show(none:Option V)=some x from h)
theorem zA(n x m y:Nat):(ba n x==ba m y)=decide (bl n x=bl m y):=by
 show((ba n x).data==(ba m y).data)=_
 rw[Bool.eq_iff_iff,beq_iff_eq,decide_eq_true_iff]
 constructor
 ·intro e;have:=congrArg Array.toList e
  simpa [kJ]using this
 ·intro e;simp only[ba,e]
inductive ib:Sh→TypeDesc→Prop
 |bool:ib .bool .bool
 |int (k:IntKind):ib .int (.int k)
 |str:ib .str .string
section
variable{P:Program}{E:cG}{F:RO}{M:Mem}{c:Nat→Prop}{w:World}{t:T}{a:Act}
theorem r5{ty:TypeId}{sh:Sh}(h:pc P ty=some sh):∃d,P.underlying ty=some d∧ib sh d:=by
 unfold pc at h
 split at h
 ·rename_i hu;obtain rfl:=ae h;exact⟨_,hu,.bool⟩
 ·rename_i hu;obtain rfl:=ae h;exact⟨_,hu,.int _⟩
 ·rename_i hu;obtain rfl:=ae h;exact⟨_,hu,.str⟩
 ·cases h
theorem eV{ty:TypeId}{sh:Sh}{d:TypeDesc}(hu:P.underlying ty=some d)(hk:ib sh d)(e:Bool)(n:Nat)(v:Value):(Instr.checkKey e (n+1) ty v).run P w= .ok () w:=by
 cases hk<;>cases v<;>simp[Instr.checkKey,aC hu]
theorem tz{sh:Sh}{d:TypeDesc}(hk:ib sh d){x y:V}{r:Bool}(h:iP sh x y=some r):Instr.sameNow d (conc E x) (conc E y)=some r:=by
 cases hk with
 |bool=>
  cases x<;>cases y<;>first|(simp[iP]at h;done)|skip
  rename_i x y;simp only[iP]at h;simp only[conc,Instr.sameNow,h]
 |int k=>
  cases x<;>cases y<;>first|(simp[iP]at h;done)|skip
  rename_i k1 m k2 n;simp only[iP,e9]at h;by_cases hk:k1=k2
  ·rw[aj hk,cond_true,cS]at h;simp only[conc,Instr.sameNow,hk,if_true];rw[←h]
   congr 1
  ·rw[ak hk]at h;cases h
 |str=>
  cases x<;>cases y<;>first|(simp[iP]at h;done)|skip
  rename_i n x m y;simp only[iP,gv]at h;simp only[conc,Instr.sameNow];rw[←h,zA]
theorem kO{sh:Sh}{d:TypeDesc}(hk:ib sh d){k:V}:∀(es:List (V×V×Nat)) (i:Nat) (r:Option (Nat×V)),gJ sh k es i=some r→
 Instr.findNow d (conc E k) (es.map (entry E)) i=some (r.map fun p=>(p.1,conc E p.2))∧(∀p,r=some p→i≤p.1∧ ∃k' b,es[p.1-i]?=some (k',p.2,b)∧iP sh k k'=some true)
 |[],i,r,h=>by
  obtain rfl:=ae h;exact⟨rfl,fun p hp=>by cases hp⟩
 |(k',v,b)::es,i,r,h=>by
  rw[gJ]at h;split at h
  ·rename_i hk';obtain rfl:=ae h;refine⟨?_,fun p hp=>?_⟩
   ·simp only[List.map_cons,Instr.findNow,entry,tz hk hk',Option.map_some]
   ·obtain rfl:=ae hp;exact⟨ah _,k',b,by simp,hk'⟩
  ·rename_i hk';have ih:=kO hk es (i+1) r h;refine⟨?_,fun p hp=>?_⟩
   ·simp only[List.map_cons,Instr.findNow,entry,tz hk hk'];exact ih.1
   ·obtain⟨h1,k2,b2,h2,h3⟩:=ih.2 p hp;refine⟨by omega,k2,b2,?_,h3⟩;rw[show p.1-i=(p.1-(i+1))+1 by omega,List.getElem?_cons_succ];exact h2
  ·cases h
theorem ij{ty:TypeId}{sh:Sh}{d:TypeDesc}(hu:P.underlying ty=some d)(hk:ib sh d){k:V}{es:List (V×V×Nat)}{r:Option (Nat×V)}(h:gJ sh k es 0=some r):
 (Instr.findKey ty (conc E k) (es.map (entry E))).run P w= .ok (r.map fun p=>(p.1,conc E p.2)) w:=by
 simp only[Instr.findKey,aI,aC hu,aN,(kO hk es 0 r h).1,aF]
theorem gz{ty:TypeId}{z:V}(h:jG P ty=some z):(zeroValue ty).run P w= .ok (conc E z) w∧bd c z:=by
 unfold jG at h
 obtain⟨v,hv,hz⟩:=aQ.1 h
 obtain⟨i,hi,hv'⟩:=aQ.1 hv
 have:=ky E c _ v z hz
 refine⟨?_,this.2⟩
 simp[zeroValue,typeInfo,hi,hv',this.1]
theorem Cx.map(h:Cx P E F M c w t a){b:Nat}{es:List (V×V×Nat)}{k:Nat}(hb:look F M b=some (.map es k)):w.heap[E.ρ b]?=some (.map (es.map (entry E)).toArray k)∧ ∀e∈es,bd c e.1∧bd c e.2.1:=by
 obtain⟨_,hv,o,ho,rfl⟩:=h.rel.has _ _ hb
 exact⟨ho,hv⟩
theorem dT{r:Nat}{es:Array MapEntry}{k:Nat}(h:w.heap[r]?=some (.map es k)):(getObj r).run P w= .ok (.map es k) w:=by
 simp[getObj,Sem.run,h]
theorem MK(h:Cx P E F M c w t a){o:Oper}{ty:TypeId}{y i:Operand}{ok:Bool}(hop:o.op= .lookup ty y i ok){q:QO}(hc:ax P o.op=some (.q q)){x:V}(hx:(cE q F M t).val=some x):oM P E c w a o x:=by
 rw[hop]at hc
 simp only[ax]at hc
 split at hc
 ·rename_i kt et xa xi hu h1 h2;split at hc
  ·rename_i sh z hks hz;obtain rfl:QO.lk sh z ok xa xi=q:=by simpa [Ev.q]using hc
   obtain⟨d,hd,hkk⟩:=r5 hks;have e1:=h.ev h1;have e2:=h.ev h2;have hz':=gz (E:=E) (c:=c) (w:=w) hz;have hx':(Fc sh z ok xa xi F M t).val=some x:=hx;unfold Fc at hx';split at hx'
   ·rename_i hv;obtain rfl:=ae hx';rw[hv]at e1;refine⟨?_,by cases ok<;>simp[bd,eU,hz'.2]⟩;simp only[execOp,hop];refine aV ?_;rw[e1.1,e2.1];simp only[Instr.lookup,conc,aI,aC hu,aN,aF,eV hd hkk,Instr.findKey,aC hd,Instr.findNow,hz'.1];cases ok<;>simp[Instr.findNow,hz'.1,conc,aB]
   ·rename_i b hv;obtain⟨es,k,hl,hg⟩:=sW hx';obtain⟨ho,hbd⟩:=h.map hl;rw[hv]at e1;unfold CK at hg;split at hg
    ·rename_i j v hf;obtain rfl:=ae hg;have hfk:=ij (P:=P) (w:=w) (E:=E) hd hkk hf;obtain⟨_,k',b',hm,_⟩:=(kO (E:=E) hkk es 0 _ hf).2 (j,v) rfl;have hbv:bd c v:=(hbd _ (List.mem_of_getElem? hm)).2;refine⟨?_,by cases ok<;>simp[bd,eU,hbv]⟩;simp only[execOp,hop];refine aV ?_;rw[e1.1,e2.1];simp only[Instr.lookup,conc,aI,aC hu,aN,dT ho,aF,eV hd hkk,List.toList_toArray,hfk,Option.map_some];cases ok<;>simp[conc,aB]
    ·rename_i hf;obtain rfl:=ae hg;have hfk:=ij (P:=P) (w:=w) (E:=E) hd hkk hf;refine⟨?_,by cases ok<;>simp[bd,eU,hz'.2]⟩;simp only[execOp,hop];refine aV ?_;rw[e1.1,e2.1];simp only[Instr.lookup,conc,aI,aC hu,aN,dT ho,aF,eV hd hkk,List.toList_toArray,hfk,Option.map_none,hz'.1];cases ok<;>simp[conc,aB]
    ·cases hg
   ·cases hx'
  ·cases hc
 ·cases hc
theorem Fb(h:Cx P E F M c w t a){o:Oper}{y:Operand}{i:Nat}(hop:o.op= .extract y i){q:QO}(hc:ax P o.op=some (.q q)){x:V}(hx:(cE q F M t).val=some x):oM P E c w a o x:=by
 rw[hop]at hc
 obtain⟨z,hz,rfl⟩:=ja (f:=fun x=> .ex i x) hc
 have e:=h.ev hz
 have hx':(rz i z F M t).val=some x:=hx
 unfold rz at hx'
 cases hv:z.ev t with
 |t vs=>
  rw[hv]at hx' e;have hr:=AF hx';rw[iB]at hr;refine⟨?_,eD (l:=vs) e.2 hr⟩;simp only[execOp,hop];refine aV ?_;rw[e.1];simp[Instr.extract,conc,eI hr]
 |_=>rw[hv]at hx';cases(show(none:Option V)=some x from hx')
theorem vk(h:Cx P E F M c w t a){o:Oper}{y:Operand}{xt ty:TypeId}{ok:Bool}(hop:o.op= .typeAssert y xt ty ok){q:QO}(hc:ax P o.op=some (.q q)){x:V}(hx:(cE q F M t).val=some x):oM P E c w a o x:=by
 rw[hop]at hc;simp only[ax,Ev.q]at hc
 repeat' split at hc
 all_goals first|(cases hc;done)|(cases hc;cases(show(none:Option V)=some x from hx))|(obtain⟨z,_,e⟩:=aQ.1 hc;cases e;cases(show(none:Option V)=some x from hx))
end
theorem bY(E:cG)(v:V):(conc E v).cells=(aB E (flatten v)).toArray:=by
 cases v<;>rfl
theorem dE{c:Nat→Prop}{v:V}(h:bd c v):eU c (flatten v):=by
 cases v<;>first|exact⟨h,trivial⟩|exact h
theorem jk{α:Type}:∀(l:List α) (o:Nat) (vs r:List α),eA l o vs=some r→o+vs.length≤l.length∧r.length=l.length∧ ∀j,r[j]?=if o≤j∧j<o+vs.length then vs[j-o]? else l[j]?
 |l,0,[],r,h=>by
  have:r=l:=by rw[eA.eq_def]at h;exact(ae h).symm
  subst this;refine⟨by simp,rfl,fun j=>by rw[ab (by simp)]⟩
 |[],0,v::vs,r,h=>by rw[eA.eq_def]at h;cases h
 |x::l,0,v::vs,r,h=>by
  rw[eA.eq_def]at h;dsimp only at h;split at h
  ·rename_i t' ht;obtain rfl:=ae h;obtain⟨h1,h2,h3⟩:=jk l 0 vs t' ht;refine⟨by simp at h1⊢;omega,by simp[h2],fun j=>?_⟩;cases j with
   |zero=>simp
   |succ j=>
    rw[List.getElem?_cons_succ,h3 j];simp only[az,true_and,Nat.sub_zero,aw,List.getElem?_cons_succ,Nat.zero_add];by_cases hj:j<vs.length
    ·rw[ac hj,ac (by omega)]
    ·rw[ab hj,ab (by omega)]
  ·cases h
 |[],o+1,vs,r,h=>by rw[eA.eq_def]at h;cases vs<;>cases h
 |x::l,o+1,vs,r,h=>by
  have h':(match eA l o vs with|some t=>some (x::t)|none=>none)=some r:=by
   rw[eA.eq_def]at h;cases vs<;>exact h
  split at h'
  ·rename_i t' ht;obtain rfl:=ae h';obtain⟨h1,h2,h3⟩:=jk l o vs t' ht;refine⟨by simp;omega,by simp[h2],fun j=>?_⟩;cases j with
   |zero=>rw[ab (by omega)];rfl
   |succ j=>
    rw[List.getElem?_cons_succ,List.getElem?_cons_succ,h3 j,show j+1-(o+1)=j-o by omega];by_cases hj:o≤j∧j<o+vs.length
    ·rw[ac hj,ac (by omega)]
    ·rw[ab hj,ab (by omega)]
  ·cases h'
theorem mR(off:Nat):∀(vs:List Value) (k:Nat) (cs:Array Value),
 ((vs.zipIdx k).foldl (fun cs (p:Value×Nat)=>cs.setIfInBounds (off+p.2) p.1) cs).size=cs.size∧
 ∀j,j<cs.size→((vs.zipIdx k).foldl (fun cs (p:Value×Nat)=>cs.setIfInBounds (off+p.2) p.1) cs)[j]?=if off+k≤j∧j<off+k+vs.length then vs[j-(off+k)]? else cs[j]?
 |[],k,cs=>⟨rfl,fun j _=>by simp only[List.zipIdx_nil,List.foldl_nil];rw[ab (by simp)]⟩
 |v::vs,k,cs=>by
  simp only[List.zipIdx_cons,List.foldl_cons];have ih:=mR off vs (k+1) (cs.setIfInBounds (off+k) v);refine⟨by rw[ih.1];simp,fun j hj=>?_⟩;rw[ih.2 j (by simpa using hj)];by_cases h1:off+(k+1)≤j∧j<off+(k+1)+vs.length
  ·rw[ac h1,ac (by simp;omega),show j-(off+k)=(j-(off+(k+1)))+1 by omega,List.getElem?_cons_succ]
  ·rw[ab h1];by_cases h2:j=off+k
   ·subst h2;rw[ac (by simp),Nat.sub_self,List.getElem?_cons_zero];simp[hj]
   ·rw[ab (by simp;omega),Array.getElem?_setIfInBounds_ne (by omega)]
section
variable{P:Program}{E:cG}{F:RO}{M:Mem}{c:Nat→Prop}{w:World}{t:T}{a:Act}
theorem Ep{cs r:List V}{o:Nat}{vs:List V}(h:eA cs o vs=some r):
 (((aB E vs).toArray).zipIdx.foldl (fun cs (p:Value×Nat)=>cs.setIfInBounds (o+p.2) p.1) (aB E cs).toArray)=(aB E r).toArray:=by
 obtain⟨h1,h2,h3⟩:=jk _ _ _ _ h
 have hz:((aB E vs).toArray).zipIdx.foldl (fun cs (p:Value×Nat)=>cs.setIfInBounds (o+p.2) p.1) (aB E cs).toArray=
  ((aB E vs).zipIdx 0).foldl (fun cs (p:Value×Nat)=>cs.setIfInBounds (o+p.2) p.1) (aB E cs).toArray:=by
  simp
 rw[hz]
 have hf:=mR o (aB E vs) 0 (aB E cs).toArray
 apply Array.ext_getElem?
 intro j
 by_cases hj:j<cs.length
 ·rw[hf.2 j (by simp[bB,hj])];simp only[List.getElem?_toArray,bB,List.getElem?_map,List.length_map,aW];rw[h3 j];by_cases hc:o≤j∧j<o+vs.length
  ·rw[ac hc,ac hc]
  ·rw[ab hc,ab hc]
 ·rw[Array.getElem?_eq_none (by rw[hf.1];simp[bB];omega),Array.getElem?_eq_none (by simp[bB];omega)]
theorem qV(h:Cx P E F M c w t a){place:Nat→Option (Nat×Nat)}:∀{ps:List (Nat×Operand)} {qs:List (Nat×Nat×X)} {cs r:List V},iJ place ps=some qs→fillParts t cs qs=some r→eU c cs→
 Instr.fill place (aB E cs).toArray (ps.map fun p=>(p.1,a.eval p.2))=some (aB E r).toArray∧eU c r
 |[],qs,cs,r,hc,hf,hb=>by
  obtain rfl:=ae hc;obtain rfl:=ae hf;exact⟨rfl,hb⟩
 |(i,y)::ps,qs,cs,r,hc,hf,hb=>by
  rw[iJ]at hc;split at hc
  ·rename_i o s x l h1 h2 h3;obtain rfl:=ae hc;rw[fillParts,bI]at hf;have e:=h.ev h2;by_cases hs:(flatten (x.ev t)).length=s
   ·rw[aj hs,cond_true]at hf;split at hf
    ·rename_i cs' hr;obtain⟨g1,g2,g3⟩:=jk _ _ _ _ hr;have hb':eU c cs':=by
      refine(kK c cs').2 fun v hv=>?_;obtain⟨j,hj⟩:=List.mem_iff_getElem?.1 hv;rw[g3 j]at hj;split at hj
      ·exact eD (dE e.2) hj
      ·exact eD hb hj
     have ih:=qV h h3 hf hb';refine⟨?_,ih.2⟩;have hcells:(a.eval y).cells=(aB E (flatten (x.ev t))).toArray:=by rw[e.1,bY]
     simp only[List.map_cons,Instr.fill,h1,hcells];have c1:(aB E (flatten (x.ev t))).toArray.size=s:=by simp[bB,hs]
     have c2:¬(o+s>(aB E cs).toArray.size):=by simp[bB];omega
     rw[c1];simp only[ne_eq,not_true_eq_false,decide_false,Bool.false_or,decide_eq_true_eq,c2,if_false];rw[Ep hr];exact ih.1
    ·cases hf
   ·rw[ak hs]at hf;cases hf
  ·cases hc
theorem jZ:∀{fs:List Field} {ps:List (Nat×Nat)},jd P fs=some ps→(fs.mapM fun f=>do pure (f.offset,←Go.sizeOf f.type):Sem (List (Nat×Nat))).run P w= .ok ps w
 |[],ps,h=>by obtain rfl:=ae h;simp
 |f::fs,ps,h=>by
  rw[jd]at h;split at h
  ·rename_i s l h1 h2;obtain rfl:=ae h;simp only[List.mapM_cons,aI,d6 h1,aN,aF,jZ h2]
  ·cases h
theorem cJ(v:V):bg v=flatten v:=by cases v<;>rfl
theorem R8(h:Cx P E F M c w t a){o:Oper}{ty:TypeId}{parts:Array (Nat×Operand)}(hop:o.op= .build ty parts){q:QO}(hc:ax P o.op=some (.q q)){x:V}(hx:(cE q F M t).val=some x):oM P E c w a o x:=by
 rw[hop]at hc
 simp only[ax]at hc
 have hparts:(parts.map fun(p:Nat×Operand)=>(p.1,a.eval p.2)).toList=parts.toList.map fun p=>(p.1,a.eval p.2):=by simp
 split at hc
 ·rename_i z fs hz hu;split at hc
  ·rename_i ps hps;obtain⟨qs,hqs,e⟩:=aQ.1 hc;obtain rfl:QO.bld (bg z) qs=q:=by simpa [Ev.q]using e
   obtain⟨r,hr,rfl⟩:=AE (show(qg (fillParts t (bg z) qs)).val=some x from hx);have hz':=gz (E:=E) (c:=c) (w:=w) hz;have hf:=qV h hqs hr (by rw[cJ];exact dE hz'.2);refine⟨?_,hf.2⟩;simp only[execOp,hop];refine aV ?_
   have hm:(fs.mapM fun f=>do pure (f.offset,←Go.sizeOf f.type):Sem (Array (Nat×Nat))).run P w= .ok ps.toArray w:=by
    rw[Array.mapM_eq_mapM_toList];simp only[Sem.run_map,jZ hps,aN]
   have hcz:(conc E z).cells=(aB E (bg z)).toArray:=by rw[bY,cJ]
   have hpl:(fun(i:Nat)=>ps.toArray[i]?)=fun(i:Nat)=>ps[i]?:=by funext i;simp
   simp only[Instr.build,aI,hz'.1,aN,aC hu,hm,hparts,hcz,hpl,hf.1,aF,conc]
  ·cases hc
 ·rename_i z n el hz hu;split at hc
  ·rename_i s hs;obtain⟨qs,hqs,e⟩:=aQ.1 hc;obtain rfl:QO.bld (bg z) qs=q:=by simpa [Ev.q]using e
   obtain⟨r,hr,rfl⟩:=AE (show(qg (fillParts t (bg z) qs)).val=some x from hx);have hz':=gz (E:=E) (c:=c) (w:=w) hz;have hf:=qV h hqs hr (by rw[cJ];exact dE hz'.2);refine⟨?_,hf.2⟩;simp only[execOp,hop];refine aV ?_;have hcz:(conc E z).cells=(aB E (bg z)).toArray:=by rw[bY,cJ]
   simp only[Instr.build,aI,hz'.1,aN,aC hu,d6 hs,hparts,hcz,hf.1,aF,conc]
  ·cases hc
 ·cases hc
end
section
variable{P:Program}{E:cG}{F:RO}{M:Mem}{c:Nat→Prop}{w:World}{t:T}{a:Act}
theorem xU(h:Cx P E F M c w t a){b:Nat}(hp:iR F M b=true):∃ty n,w.shape? (E.ρ b)=some (ty,n)∧E.β b≤n∧(∀o,E.β b≤o→w.frozen? ⟨E.ρ b,o,none⟩=false)∧(look F M b).isSome:=by
 unfold iR at hp
 split at hp
 ·rename_i ty n ex fz str d cs hl;obtain⟨arr,fr,ho,hr⟩:=h.cells hl;rw[bI]at hp;simp only[aX,decide_eq_true_eq,Bool.not_eq_true']at hp;obtain⟨⟨rfl,rfl⟩,_⟩:=hp;have hle:=hr.le;refine⟨ty,arr.size,by simp[World.shape?,ho],by omega,fun o hob=>?_,by rw[hl];rfl⟩;simp only[World.frozen?,ho];rw[Bool.and_eq_false_iff];simp only[decide_eq_false_iff_not];rcases hr.plain rfl with e|⟨hz,e⟩<;>omega
 ·cases hp
theorem F6(h:Cx P E F M c w t a){b o b' o':Nat}{r:Bool}(hr:xq F M b o b' o'=some r):
 (sameAddr ⟨E.ρ b,E.β b+o,none⟩ ⟨E.ρ b',E.β b'+o',none⟩).run P w= .ok r w:=by
 unfold xq at hr
 rw[bI]at hr
 by_cases hb:b=b'
 ·subst hb;rw[aj rfl,cond_true]at hr;obtain rfl:=ae hr;rw[bI];by_cases ho:o=o'
  ·subst ho;simp[sameAddr]
  ·have:¬(E.β b+o=E.β b+o'):=by omega
   simp[sameAddr,ho,this]
 ·rw[ak hb,cond_false]at hr;by_cases hp:(iR F M b&&iR F M b')=true
  ·rw[hp,cond_true]at hr;obtain rfl:=ae hr;rw[aX]at hp;obtain⟨ty,n,hs,hn,hf,hl⟩:=xU h hp.1;obtain⟨ty',n',hs',hn',hf',hl'⟩:=xU h hp.2;have hne:¬(E.ρ b=E.ρ b'):=fun e=>hb (h.rel.inj b b' hl hl' e);have f1:=hf (E.β b+o) (by omega);have f2:=hf' (E.β b'+o') (by omega);have f3:=hf n hn;have f4:=hf' n' hn';simp[sameAddr,hne,f1,f2,noView,viewAt,hs,hs',mayBeOne,stringish,f3,f4]
  ·rw[Bool.not_eq_true]at hp;rw[hp]at hr;cases hr
inductive jy(P:Program)(ty:TypeId):Sh→Prop
 |bool:P.underlying ty=some .bool→jy P ty .bool
 |int (k:IntKind):P.underlying ty=some (.int k)→jy P ty .int
 |str:P.underlying ty=some .string→jy P ty .str
 |ptr (e s:Nat):P.underlying ty=some (.pointer e)→de P e=some (s+1)→jy P ty .ptr
 |slice (e:Nat):P.underlying ty=some (.slice e)→jy P ty .slice
 |map (k e:Nat):P.underlying ty=some (.map k e)→jy P ty .map
 |func (p r:Array TypeId) (v:Bool):P.underlying ty=some (.func p r v)→jy P ty .func
 |iface (ms:Array (String×TypeId)):P.underlying ty=some (.interface ms)→jy P ty .iface
theorem oA{ty:TypeId}{sh:Sh}(h:D1 P ty=some sh):jy P ty sh:=by
 unfold D1 at h
 split at h
 ·rename_i hu;obtain rfl:=ae h;exact .bool hu
 ·rename_i hu;obtain rfl:=ae h;exact .int _ hu
 ·rename_i hu;obtain rfl:=ae h;exact .str hu
 ·rename_i e hu;split at h
  ·cases h
  ·rename_i hs;obtain rfl:=ae h;cases hz:de P e with
   |none=>rw[hz]at hs;simp at hs
   |some k=>cases k with
    |zero=>rw[hz]at hs;simp at hs
    |succ k=>exact .ptr e k hu hz
 ·rename_i hu;obtain rfl:=ae h;exact .slice _ hu
 ·rename_i hu;obtain rfl:=ae h;exact .map _ _ hu
 ·rename_i hu;obtain rfl:=ae h;exact .func _ _ _ hu
 ·rename_i hu;obtain rfl:=ae h;exact .iface _ hu
 ·cases h
theorem fC{v:V}{b:Bool}(h:wZ v=some b):if b then conc E v= .slice none 0 0 else∃ad n k,conc E v= .slice (some ad) n k:=by
 cases v<;>first|cases(show(none:Option Bool)=some b from h)|(obtain rfl:=ae h;first|rfl|exact⟨_,_,_,rfl⟩)
theorem fD{v:V}{b:Bool}(h:xd v=some b):if b then conc E v= .map none else∃r,conc E v= .map (some r):=by
 cases v<;>first|cases(show(none:Option Bool)=some b from h)|(obtain rfl:=ae h;first|rfl|exact⟨_,rfl⟩)
theorem fA{v:V}{b:Bool}(h:wY v=some b):if b then conc E v= .nilFunc else∃f l k,conc E v= .func f l k:=by
 cases v<;>first|cases(show(none:Option Bool)=some b from h)|(obtain rfl:=ae h;first|rfl|exact⟨_,_,_,rfl⟩)
theorem bR{v:V}{b:Bool}(h:va v=some b):if b then v= .a0 else∃ty z,v= .a ty z:=by
 cases v<;>first|cases(show(none:Option Bool)=some b from h)|(obtain rfl:=ae h;first|rfl|exact⟨_,_,rfl⟩)
theorem cL{lit:Bool}{p q:Option Bool}{r:Bool}(h:gO lit p q=some r):
 (p=some true∧q=some true∧lit=true∧r=true)∨(p=some true∧q=some false∧r=false)∨(p=some false∧q=some true∧r=false):=by
 unfold gO at h
 split at h
 ·cases lit with
  |false=>cases h
  |true=>exact .inl ⟨rfl,rfl,rfl,(ae h).symm⟩
 ·exact .inr (.inl ⟨rfl,rfl,(ae h).symm⟩)
 ·exact .inr (.inr ⟨rfl,rfl,(ae h).symm⟩)
 ·cases h
theorem uL(h:Cx P E F M c w t a){ty:TypeId}{sh:Sh}(hs:jy P ty sh){lit:Bool}{x y:V}{r:Bool}(hr:Cb F M sh lit x y=some r)(d:Nat):
 (Op.equalIn (d+1) ty (conc E x) (conc E y)).run P w= .ok r w:=by
 cases hs with
 |bool hu=>
  have hr':eqB x y=some r:=hr;unfold eqB at hr';split at hr'
  ·obtain rfl:=ae hr';simp[Op.equalIn,aC hu,conc]
  ·cases hr'
 |int k hu=>
  have hr':Ql x y=some r:=hr;unfold Ql at hr';split at hr'
  ·rename_i k1 m k2 n;rw[e9]at hr';by_cases hk:k1=k2
   ·rw[aj hk,cond_true,cS]at hr';obtain rfl:=ae hr';simp[Op.equalIn,aC hu,conc,hk];rw[Bool.eq_iff_iff];simp
   ·rw[ak hk]at hr';cases hr'
  ·cases hr'
 |str hu=>
  have hr':eqS x y=some r:=hr;unfold eqS at hr';split at hr'
  ·obtain rfl:=ae hr';simp[Op.equalIn,aC hu,conc,zA,gv]
  ·cases hr'
 |ptr e s hu hz=>
  have hr':eqP F M x y=some r:=hr;unfold eqP at hr';split at hr'
  ·obtain rfl:=ae hr';simp[Op.equalIn,aC hu,conc]
  ·obtain rfl:=ae hr';simp[Op.equalIn,aC hu,conc]
  ·obtain rfl:=ae hr';simp[Op.equalIn,aC hu,conc]
  ·have hp:=F6 h hr';simp[Op.equalIn,aC hu,conc,d6 hz,hp]
  ·cases hr'
 |slice e hu=>
  rcases cL (show gO true (wZ x) (wZ y)=some r from hr)with⟨h1,h2,_,rfl⟩|⟨h1,h2,rfl⟩|⟨h1,h2,rfl⟩
  ·have e1:=fC (E:=E) h1;have e2:=fC (E:=E) h2;simp only[if_true]at e1 e2;rw[e1,e2];simp[Op.equalIn,aC hu]
  ·have e1:=fC (E:=E) h1;have e2:=fC (E:=E) h2;simp only[if_true,bn,if_false]at e1 e2;obtain⟨_,_,_,e2⟩:=e2;rw[e1,e2];simp[Op.equalIn,aC hu]
  ·have e1:=fC (E:=E) h1;have e2:=fC (E:=E) h2;simp only[if_true,bn,if_false]at e1 e2;obtain⟨_,_,_,e1⟩:=e1;rw[e1,e2];simp[Op.equalIn,aC hu]
 |map k e hu=>
  rcases cL (show gO true (xd x) (xd y)=some r from hr)with⟨h1,h2,_,rfl⟩|⟨h1,h2,rfl⟩|⟨h1,h2,rfl⟩
  ·have e1:=fD (E:=E) h1;have e2:=fD (E:=E) h2;simp only[if_true]at e1 e2;rw[e1,e2];simp[Op.equalIn,aC hu]
  ·have e1:=fD (E:=E) h1;have e2:=fD (E:=E) h2;simp only[if_true,bn,if_false]at e1 e2;obtain⟨_,e2⟩:=e2;rw[e1,e2];simp[Op.equalIn,aC hu]
  ·have e1:=fD (E:=E) h1;have e2:=fD (E:=E) h2;simp only[if_true,bn,if_false]at e1 e2;obtain⟨_,e1⟩:=e1;rw[e1,e2];simp[Op.equalIn,aC hu]
 |func p r' v hu=>
  rcases cL (show gO true (wY x) (wY y)=some r from hr)with⟨h1,h2,_,rfl⟩|⟨h1,h2,rfl⟩|⟨h1,h2,rfl⟩
  ·have e1:=fA (E:=E) h1;have e2:=fA (E:=E) h2;simp only[if_true]at e1 e2;rw[e1,e2];simp[Op.equalIn,aC hu]
  ·have e1:=fA (E:=E) h1;have e2:=fA (E:=E) h2;simp only[if_true,bn,if_false]at e1 e2;obtain⟨_,_,_,e2⟩:=e2;rw[e1,e2];simp[Op.equalIn,aC hu]
  ·have e1:=fA (E:=E) h1;have e2:=fA (E:=E) h2;simp only[if_true,bn,if_false]at e1 e2;obtain⟨_,_,_,e1⟩:=e1;rw[e1,e2];simp[Op.equalIn,aC hu]
 |iface ms hu=>
  rcases cL (show gO lit (va x) (va y)=some r from hr)with⟨h1,h2,_,rfl⟩|⟨h1,h2,rfl⟩|⟨h1,h2,rfl⟩
  ·have e1:=bR h1;have e2:=bR h2;simp only[if_true]at e1 e2;rw[e1,e2];simp[Op.equalIn,aC hu,conc]
  ·have e1:=bR h1;have e2:=bR h2;simp only[if_true,bn,if_false]at e1 e2;obtain⟨_,_,e2⟩:=e2;rw[e1,e2];simp[Op.equalIn,aC hu,conc]
  ·have e1:=bR h1;have e2:=bR h2;simp only[if_true,bn,if_false]at e1 e2;obtain⟨_,_,e1⟩:=e1;rw[e1,e2];simp[Op.equalIn,aC hu,conc]
end
section
variable{P:Program}{E:cG}{F:RO}{M:Mem}{c:Nat→Prop}{w:World}{t:T}{a:Act}
theorem jy.noAgg{ty:TypeId}{sh:Sh}(h:jy P ty sh):pB P ty=some false:=by
 cases h with
 |ptr e s hu _=>simp only[pB,hu]
 |_=>rename_i hu;simp only[pB,hu]
theorem tj(h:Cx P E F M c w t a){xs ys:List V}:∀{fs:List Field} {ks:List (Nat×Sh)} {r:Bool},ny P fs=some ks→jA F M xs ys ks=some r→ ∀d,(Op.eqFields (d+1) (aB E xs).toArray (aB E ys).toArray fs).run P w= .ok r w
 |[],ks,r,hs,hr,d=>by
  obtain rfl:=ae hs;obtain rfl:=ae hr;rfl
 |f::fs,ks,r,hs,hr,d=>by
  rw[ny]at hs;split at hs
  ·rename_i sh l h1 h2;split at hs
   ·rename_i hn;obtain rfl:=ae hs;have hsh:=oA h1;rw[jA]at hr;split at hr
    ·rename_i x y hx hy;rw[iB]at hx hy;have hag:=hsh.noAgg;have p1:=na (P:=P) (w:=w) (E:=E) hag hx;have p2:=na (P:=P) (w:=w) (E:=E) hag hy;split at hr
     ·rename_i he;have e1:=uL h hsh he d;simp only[Op.eqFields,hn,ne_eq,not_false_eq_true,if_true,aI,p1,p2,aN,e1,Sem.run_ite,Bool.not_true,bn,if_false];exact tj h h2 hr d
     ·rename_i hne;have e1:=uL h hsh hr d;cases r with
      |true=>exact absurd hr hne
      |false=>simp only[Op.eqFields,hn,ne_eq,not_false_eq_true,if_true,aI,p1,p2,aN,e1,Sem.run_ite,Bool.not_false,if_true,aF]
    ·cases hr
   ·cases hs
  ·cases hs
theorem E7{ty:TypeId}{x y:Value}(h1:∀k m k' n,¬(x= .int k m∧y= .int k' n))(h2:∀m n,¬(x= .string m∧y= .string n))(h3:∀k m,x≠ .float k m)(h4:∀k m n,x≠ .complex k m n):
 (binOp .eql ty x y)=(do pure (.bool (←Op.equal ty x y)))∧(binOp .neq ty x y)=(do pure (.bool (!(←Op.equal ty x y)))):=by
 cases x<;>first
  |exact absurd rfl (h3 _ _)
  |exact absurd rfl (h4 _ _ _)
  |exact⟨rfl,rfl⟩
  |(cases y<;>first
   |exact(h1 _ _ _ _ ⟨rfl,rfl⟩).elim
   |exact(h2 _ _ ⟨rfl,rfl⟩).elim
   |exact⟨rfl,rfl⟩)
def Odd:Value→Prop
 | .int _ _| .string _| .float _ _| .complex _ _ _=>False
 |_=>True
theorem ad6{ty:TypeId}{A B:Operand}{x y:Value}{r:Bool}(hodd:Odd x)(hg:∀op,(eqGuard op ty A B x y).run P w= .ok () w)(he:(Op.equalIn 10000 ty x y).run P w= .ok r w)(neg:Bool):
 (eqGuard (if neg then .neq else .eql) ty A B x y>>=fun _=>binOp (if neg then .neq else .eql) ty x y).run P w= .ok (.bool (if neg then !r else r)) w:=by
 have hb:=E7 (ty:=ty) (x:=x) (y:=y) (fun k m k' n e=>by rw[e.1]at hodd;exact hodd) (fun m n e=>by rw[e.1]at hodd;exact hodd) (fun k m e=>by rw[e]at hodd;exact hodd) (fun k m n e=>by rw[e]at hodd;exact hodd)
 have he':(Op.equal ty x y).run P w= .ok r w:=he
 simp only[aI,hg,aN]
 cases neg with
 |true=>simp[hb.2,he']
 |false=>simp[hb.1,he']
theorem bU{op:BinOp}{ty:TypeId}{A B:Operand}{x y:Value}(h1:¬(x= .nilIface∧y= .nilIface))(h2:∀l m,¬(x= .agg l∧y= .agg m)):(eqGuard op ty A B x y).run P w= .ok () w:=by
 unfold eqGuard
 split
 all_goals simp only[Bool.not_true,bn,if_false,Bool.not_false,if_true]
 all_goals try rfl
 all_goals
  split
  ·exact absurd ⟨rfl,rfl⟩ h1
  ·exact absurd ⟨rfl,rfl⟩ (h2 _ _)
  ·rfl
theorem wH{op:BinOp}{ty:TypeId}{A B:Operand}(h:(isConstO A||isConstO B)=true):(eqGuard op ty A B .nilIface .nilIface).run P w= .ok () w:=by
 cases A<;>cases B<;>first|(simp[isConstO]at h;done)|(cases op<;>simp[eqGuard])
theorem Cl(k:Nat):∀l:List Nat,Ap k l=l.contains k
 |[]=>rfl
 |h::r=>by
  have:Ap k (h::r)=(bif Nat.beq h k then true else Ap k r):=rfl;rw[this,bI,Cl k r,List.contains_cons];by_cases e:h=k
  ·subst e;simp
  ·rw[ak e,cond_false,show(k==h)=false by simp;exact fun e'=>e e'.symm];rfl
theorem LU{L:List Nat}(hL:L=lW P){t:Nat}(h:Ap t L=true):∃i k,P.info? t=some i∧i.comparable=true∧P.underlying t=some (.int k):=by
 rw[Cl,List.contains_iff_mem,hL]at h
 unfold lW at h
 rw[List.mem_filter]at h
 have h2:=h.2
 unfold Y3 at h2
 split at h2
 ·rename_i i k h3 h4;exact⟨i,k,h3,h2,h4⟩
 ·cases h2
theorem Lx{ty:TypeId}{ms:Array (String×TypeId)}(hu:P.underlying ty=some (.interface ms)){x y:V}{r:Bool}(hr:wJ (lW P) x y=some r)(d:Nat):
 (Op.equalIn (d+2) ty (conc E x) (conc E y)).run P w= .ok r w:=by
 unfold wJ at hr
 split at hr
 ·rename_i t1 v1 t2 v2;rw[bI]at hr;by_cases ht:t1=t2
  ·subst ht;rw[aj rfl,cond_true]at hr;by_cases hm:Ap t1 (lW P)=true
   ·rw[hm,cond_true]at hr;obtain⟨i,k,h1,h2,h3⟩:=LU rfl hm;unfold Ql at hr;split at hr
    ·rename_i k1 m k2 n;rw[e9]at hr;by_cases hk:k1=k2
     ·rw[aj hk,cond_true,cS]at hr;obtain rfl:=ae hr;subst hk;have inner:(Op.equalIn (d+1) t1 (.int k1 m) (.int k1 n)).run P w= .ok (m==n) w:=by
       simp[Op.equalIn,aC h3]
      have hti:(typeInfo t1).run P w= .ok i w:=by simp[typeInfo,h1]
      have hmn:decide (m=n)=(m==n):=by rw[Bool.eq_iff_iff];simp
      rw[hmn];simp only[conc];rw[Op.equalIn.eq_2];simp only[aI,aC hu,aN,ne_eq,not_true_eq_false,if_false,hti,h2,Bool.not_true,bn,inner]
     ·rw[ak hk]at hr;cases hr
    ·cases hr
   ·rw[Bool.not_eq_true]at hm;rw[hm]at hr;cases hr
  ·rw[ak ht,cond_false]at hr;obtain rfl:=ae hr;simp[Op.equalIn,aC hu,conc,ht]
 ·rcases cL hr with⟨_,_,h3,_⟩|⟨h1,h2,rfl⟩|⟨h1,h2,rfl⟩
  ·cases h3
  ·have e1:=bR h1;have e2:=bR h2;simp only[if_true,bn,if_false]at e1 e2;obtain⟨_,_,e2⟩:=e2;rw[e1,e2];simp[Op.equalIn,aC hu,conc]
  ·have e1:=bR h1;have e2:=bR h2;simp only[if_true,bn,if_false]at e1 e2;obtain⟨_,_,e1⟩:=e1;rw[e1,e2];simp[Op.equalIn,aC hu,conc]
theorem En{L:List Nat}{x y:V}{r:Bool}(hr:wJ L x y=some r):(x= .a0∨ ∃t v,x= .a t v)∧ ¬(x= .a0∧y= .a0):=by
 unfold wJ at hr
 split at hr
 ·exact⟨.inr ⟨_,_,rfl⟩,fun h=>by cases h.1⟩
 ·rcases cL hr with⟨_,_,h3,_⟩|⟨h1,h2,rfl⟩|⟨h1,h2,rfl⟩
  ·cases h3
  ·have e1:=bR h1;have e2:=bR h2;simp only[if_true,bn,if_false]at e1 e2;obtain⟨_,_,e2⟩:=e2;exact⟨.inl e1,fun h=>by rw[e2]at h;cases h.2⟩
  ·have e1:=bR h1;simp only[bn,if_false]at e1;obtain⟨_,_,e1⟩:=e1;exact⟨.inr ⟨_,_,e1⟩,fun h=>by rw[e1]at h;cases h.1⟩
theorem zS{L:List Nat}{x y:V}{r:Bool}(hr:wJ L x y=some r):y= .a0∨ ∃t v,y= .a t v:=by
 unfold wJ at hr
 split at hr
 ·exact .inr ⟨_,_,rfl⟩
 ·rcases cL hr with⟨_,_,h3,_⟩|⟨h1,h2,rfl⟩|⟨h1,h2,rfl⟩
  ·cases h3
  ·have e2:=bR h2;simp only[bn,if_false]at e2;exact .inr e2
  ·have e2:=bR h2;simp only[if_true]at e2;exact .inl e2
theorem A9(P:Program)(lit:Bool)(sh:Sh):uU P lit sh=sh∨(sh= .iface∧lit=false∧uU P lit sh= .ifs (lW P)):=by
 unfold uU
 split
 ·exact .inr ⟨rfl,rfl,rfl⟩
 ·exact .inl rfl
theorem CA(h:Cx P E F M c w t a){o:Oper}{op:BinOp}{ty ty':TypeId}{y z:Operand}(neg:Bool)(hop:o.op= .binOp (if neg then .neq else .eql) ty y z ty'){sh:Sh}(hsh:Ng P ty=some sh){d:TypeDesc}(hu:P.underlying ty=some d)(hd1:∀k,d≠ .int k)(hd2:d≠ .string)
 {xa xb:X} (h1:aZ y=some xa) (h2:aZ z=some xb) {x:V} (hx:(cE (.eq neg (uU P (isConstO y||isConstO z) sh) (isConstO y||isConstO z) xa xb) F M t).val=some x):oM P E c w a o x:=by
 have e1:=h.ev h1
 have e2:=h.ev h2
 have hx':(tO neg (vX F M (uU P (isConstO y||isConstO z) sh) (isConstO y||isConstO z) (xa.ev t) (xb.ev t))).val=some x:=hx
 unfold tO at hx'
 split at hx'
 ·rename_i r hr;obtain rfl:=pu hx';refine⟨?_,trivial⟩
  have fin:∀(hodd:Odd (conc E (xa.ev t))),(∀op,(eqGuard op ty y z (conc E (xa.ev t)) (conc E (xb.ev t))).run P w= .ok () w)→(Op.equalIn 10000 ty (conc E (xa.ev t)) (conc E (xb.ev t))).run P w= .ok r w→
   (execOp a.eval o).run P w= .ok (.value (conc E (.b (bif neg then !r else r)))) w:=by
   intro hodd hg he;simp only[execOp,hop];refine aV ?_;rw[e1.1,e2.1,ad6 hodd hg he neg];cases neg<;>rfl
  rcases A9 P (isConstO y||isConstO z) sh with hif|⟨rfl,hlit,hif⟩
  rotate_left
  ·rw[hif]at hr;have hr':wJ (lW P) (xa.ev t) (xb.ev t)=some r:=hr;have hui:∃ms,P.underlying ty=some (.interface ms):=by
    unfold Ng at hsh;split at hsh
    ·split at hsh
     ·cases hsh
     ·obtain⟨_,_,hh⟩:=bf.1 hsh;cases hh
    ·have:=oA hsh;cases this with
     |iface ms hu'=>exact⟨ms,hu'⟩
   obtain⟨ms,hui⟩:=hui;obtain⟨k1,k2⟩:=En hr';refine fin ?_ (fun op=>?_) (Lx hui hr' 9998)
   ·rcases k1 with e|⟨_,_,e⟩<;>(rw[e];trivial)
   ·refine bU ?_ ?_
    ·rintro⟨g1,g2⟩;refine k2 ⟨?_,?_⟩
     ·rcases k1 with e|⟨_,_,e⟩
      ·exact e
      ·rw[e]at g1;cases g1
     ·rcases zS hr' with e|⟨_,_,e⟩
      ·exact e
      ·rw[e]at g2;cases g2
    ·rintro l m ⟨g1,g2⟩;rcases k1 with e|⟨_,_,e⟩<;>(rw[e]at g1;cases g1)
  rw[hif]at hr;unfold Ng at hsh;split at hsh
  ·rename_i fs hus;split at hsh
   ·cases hsh
   ·rename_i hcond;simp only[Bool.or_eq_true,not_or,Bool.not_eq_true]at hcond;obtain⟨ks,hks,rfl⟩:=bf.1 hsh;have hr':ti F M ks (xa.ev t) (xb.ev t)=some r:=hr;unfold ti at hr';split at hr'
    ·rename_i xs ys hvx hvy;have hf:P.fieldsOf ty=fs:=by simp[Program.fieldsOf,hus]
     refine fin (by rw[hvx];trivial) (fun op=>?_) ?_
     ·rw[hvx,hvy];exact run_eqGuard_agg w op ty y z _ _ hcond.2
     ·rw[hvx,hvy];simp only[conc];rw[run_equalIn_struct (P:=P) w 9999 ty _ _ (by rw[hf];exact hus) hcond.1,hf];exact tj h hks hr' 9998
    ·cases hr'
  ·rename_i hns;have hrel:=oA hsh;have hr':Cb F M sh (isConstO y||isConstO z) (xa.ev t) (xb.ev t)=some r:=by
    cases hrel<;>exact hr
   have he:=uL h hrel hr' 9999;cases hrel with
   |int k hu'=>rw[hu]at hu';exact absurd (ae hu') (hd1 k)
   |str hu'=>rw[hu]at hu';exact absurd (ae hu') hd2
   |bool hu'=>
    have hq:eqB (xa.ev t) (xb.ev t)=some r:=hr';unfold eqB at hq;split at hq
    ·rename_i p q hvx hvy;refine fin (by rw[hvx];trivial) (fun op=>?_) he;rw[hvx,hvy];exact bU (by simp[conc]) (by simp[conc])
    ·cases hq
   |ptr el s hu' hz=>
    have hq:eqP F M (xa.ev t) (xb.ev t)=some r:=hr';unfold eqP at hq;split at hq
    ·rename_i hvx hvy;refine fin (by rw[hvx];trivial) (fun op=>?_) he;rw[hvx,hvy];exact bU (by simp[conc]) (by simp[conc])
    ·rename_i hvx hvy;refine fin (by rw[hvx];trivial) (fun op=>?_) he;rw[hvx,hvy];exact bU (by simp[conc]) (by simp[conc])
    ·rename_i hvx hvy;refine fin (by rw[hvx];trivial) (fun op=>?_) he;rw[hvx,hvy];exact bU (by simp[conc]) (by simp[conc])
    ·rename_i hvx hvy;refine fin (by rw[hvx];trivial) (fun op=>?_) he;rw[hvx,hvy];exact bU (by simp[conc]) (by simp[conc])
    ·cases hq
   |slice el hu'=>
    have key:∀b,wZ (xa.ev t)=some b→ ∃ad n k,conc E (xa.ev t)= .slice ad n k:=by
     intro b hb;have:=fC (E:=E) hb;cases b with
     |true=>simp only[if_true]at this;exact⟨_,_,_,this⟩
     |false=>simp only[bn,if_false]at this;obtain⟨ad,n,k,e⟩:=this;exact⟨_,_,_,e⟩
    obtain⟨ad,n,k,e⟩:∃ad n k,conc E (xa.ev t)= .slice ad n k:=by
     rcases cL (show gO true (wZ (xa.ev t)) (wZ (xb.ev t))=some r from hr')with⟨g,_⟩|⟨g,_⟩|⟨g,_⟩<;>exact key _ g
    refine fin (by rw[e];trivial) (fun op=>?_) he;rw[e];exact bU (by simp) (by simp)
   |map kk el hu'=>
    have key:∀b,xd (xa.ev t)=some b→ ∃r,conc E (xa.ev t)= .map r:=by
     intro b hb;have:=fD (E:=E) hb;cases b with
     |true=>simp only[if_true]at this;exact⟨_,this⟩
     |false=>simp only[bn,if_false]at this;obtain⟨r,e⟩:=this;exact⟨_,e⟩
    obtain⟨r',e⟩:∃r,conc E (xa.ev t)= .map r:=by
     rcases cL (show gO true (xd (xa.ev t)) (xd (xb.ev t))=some r from hr')with⟨g,_⟩|⟨g,_⟩|⟨g,_⟩<;>exact key _ g
    refine fin (by rw[e];trivial) (fun op=>?_) he;rw[e];exact bU (by simp) (by simp)
   |func p rr v hu'=>
    have key:∀b,wY (xa.ev t)=some b→conc E (xa.ev t)= .nilFunc∨ ∃f l k,conc E (xa.ev t)= .func f l k:=by
     intro b hb;have:=fA (E:=E) hb;cases b with
     |true=>simp only[if_true]at this;exact .inl this
     |false=>simp only[bn,if_false]at this;exact .inr this
    have e:conc E (xa.ev t)= .nilFunc∨ ∃f l k,conc E (xa.ev t)= .func f l k:=by
     rcases cL (show gO true (wY (xa.ev t)) (wY (xb.ev t))=some r from hr')with⟨g,_⟩|⟨g,_⟩|⟨g,_⟩<;>exact key _ g
    rcases e with e|⟨f,l,k,e⟩
    ·refine fin (by rw[e];trivial) (fun op=>?_) he;rw[e];exact bU (by simp) (by simp)
    ·refine fin (by rw[e];trivial) (fun op=>?_) he;rw[e];exact bU (by simp) (by simp)
   |iface ms hu'=>
    rcases cL (show gO (isConstO y||isConstO z) (va (xa.ev t)) (va (xb.ev t))=some r from hr')with⟨g1,g2,hlit,_⟩|⟨g1,g2,_⟩|⟨g1,g2,_⟩
    ·have a1:=bR g1;have a2:=bR g2;simp only[if_true]at a1 a2;refine fin (by rw[a1];trivial) (fun op=>?_) he;rw[a1,a2];exact wH hlit
    ·have a1:=bR g1;have a2:=bR g2;simp only[if_true,bn,if_false]at a1 a2;obtain⟨_,_,a2⟩:=a2;refine fin (by rw[a1];trivial) (fun op=>?_) he;rw[a1,a2];exact bU (by simp[conc]) (by simp[conc])
    ·have a1:=bR g1;have a2:=bR g2;simp only[if_true,bn,if_false]at a1 a2;obtain⟨_,_,a1⟩:=a1;refine fin (by rw[a1];trivial) (fun op=>?_) he;rw[a1,a2];exact bU (by simp[conc]) (by simp[conc])
 ·cases hx'
theorem R7(h:Cx P E F M c w t a){o:Oper}{op:BinOp}{ty ty':TypeId}{y z:Operand}(hop:o.op= .binOp op ty y z ty'){q:QO}(hc:ax P o.op=some (.q q)){x:V}(hx:(cE q F M t).val=some x):oM P E c w a o x:=by
 rw[hop]at hc
 simp only[ax]at hc
 have num:∀xa xb,aZ y=some xa→aZ z=some xb→QO.bi op xa xb=q→oM P E c w a o x:=by
  intro xa xb h1 h2 hq;subst hq;have e1:=h.ev h1;have e2:=h.ev h2;have hb:=aa0 (P:=P) (E:=E) (c:=c) (w:=w) op ty (xv:=xa.ev t) (yv:=xb.ev t) (v:=x) hx y z;refine⟨?_,hb.2⟩;simp only[execOp,hop];refine aV ?_;rw[e1.1,e2.1];exact hb.1
 split at hc
 ·rename_i k xa xb hu h1 h2;exact num xa xb h1 h2 (by simpa [Ev.q]using hc)
 ·rename_i xa xb hu h1 h2;exact num xa xb h1 h2 (by simpa [Ev.q]using hc)
 ·rename_i d xa xb hn1 hn2 hu h1 h2;split at hc
  ·obtain⟨sh,hsh,e⟩:=aQ.1 hc;obtain rfl:QO.eq false (uU P (isConstO y||isConstO z) sh) (isConstO y||isConstO z) xa xb=q:=by simpa [Ev.q]using e
   exact CA h (op:= .eql) false hop hsh hu (fun k e=>hn1 k e) (fun e=>hn2 e) h1 h2 hx
  ·obtain⟨sh,hsh,e⟩:=aQ.1 hc;obtain rfl:QO.eq true (uU P (isConstO y||isConstO z) sh) (isConstO y||isConstO z) xa xb=q:=by simpa [Ev.q]using e
   exact CA h (op:= .neq) true hop hsh hu (fun k e=>hn1 k e) (fun e=>hn2 e) h1 h2 hx
  ·cases hc
 ·cases hc
end
theorem dx{α:Type}{x:Array α}{l:List α}(h:x.toList=l):x=l.toArray:=by
 rw[←h]
section
variable{P:Program}{E:cG}{F:RO}{M:Mem}{c:Nat→Prop}{w:World}{t:T}{a:Act}
theorem bZ{o:Oper}{cl:Call}{b:Builtin}(hop:o.op= .call cl)(hb:cl.callee= .builtin b){l:List Operand}(hl:cl.args.toList=l){r:Result Next}
 (h:(builtin b cl.argTypes o.type (cl.args.map fun| .const _=>true|_=>false) (l.map a.eval).toArray).run P w=r):(execOp a.eval o).run P w=r:=by
 have hm:cl.args.map a.eval=(l.map a.eval).toArray:=by rw[dx hl];simp
 simp only[execOp,hop,resolve,hb,hm,aI,aF,aN,invoke]
 exact h
theorem EM{v:V}{n:Nat}(h:Ah v=some n):∃ad k,conc E v= .slice ad n k:=by
 cases v<;>first|cases(show(none:Option Nat)=some n from h)|(obtain rfl:=ae h;exact⟨_,_,rfl⟩)
theorem Rw{ats:Array TypeId}{ty n k:Nat}:(Builtin.unsafeSliceData_ ats ty #[.slice none n k]).run P w= .ok (.pointer none) w:=rfl
theorem CZ{ats:Array TypeId}{ty n k:Nat}{ad:Addr}(hk:k≠0):(Builtin.unsafeSliceData_ ats ty #[.slice (some ad) n k]).run P w= .ok (.pointer (some ad)) w:=by
 change(if k≠0 then(pure (.pointer (some ad)):Sem Value)else _).run P w=_
 rw[ac hk];rfl
theorem F8(h:Cx P E F M c w t a){o:Oper}{cl:Call}{b:Builtin}(hop:o.op= .call cl)(hb:cl.callee= .builtin b){q:QO}(hc:dy P b cl.args.toList cl.argTypes.toList=some (.q q)){x:V}(hx:(cE q F M t).val=some x):oM P E c w a o x:=by
 unfold dy at hc
 split at hc
 ·
  rename_i y ty hargs htys;have hat:cl.argTypes[0]?=some ty:=by rw[dx htys];rfl
  split at hc
  ·rename_i z hu hz;obtain rfl:QO.ln .str z=q:=by simpa [Ev.q]using hc
   obtain⟨n,s,hv,hg⟩:=kU (show(tI (z.ev t) QR.f fun n _=>QR.v (.i .i64 (.ofNat n))).val=some x from hx);obtain rfl:=ae hg;have e:=h.ev hz;rw[hv]at e;refine⟨bZ hop hb hargs ?_,trivial⟩;simp only[builtin];refine aV ?_;simp[Builtin.len_,hat,e.1,aC hu,conc,gb,goInt]
  ·rename_i el z hu hz;obtain rfl:QO.ln .slice z=q:=by simpa [Ev.q]using hc
   have hx':(CL (Ah (z.ev t))).val=some x:=hx;cases hl:Ah (z.ev t)with
   |none=>rw[hl]at hx';cases(show(none:Option V)=some x from hx')
   |some n=>
    rw[hl]at hx';obtain rfl:=ae hx';obtain⟨ad,k,hcv⟩:=EM (E:=E) hl;have e:=h.ev hz;rw[hcv]at e;refine⟨bZ hop hb hargs ?_,trivial⟩;simp only[builtin];refine aV ?_;simp[Builtin.len_,hat,e.1,aC hu,conc,goInt]
  ·rename_i kt el z hu hz;obtain rfl:QO.ln .map z=q:=by simpa [Ev.q]using hc
   have e:=h.ev hz;have hx':(ae9 F M (z.ev t)).val=some x:=hx;unfold ae9 at hx';split at hx'
   ·rename_i hv;obtain rfl:=ae hx';rw[hv]at e;refine⟨bZ hop hb hargs ?_,trivial⟩;simp only[builtin];refine aV ?_;simp[Builtin.len_,hat,e.1,aC hu,conc,goInt]
   ·rename_i b' hv;obtain⟨es,k,hl,hg⟩:=sW hx';rw[bp]at hg;obtain rfl:=ae hg;obtain⟨ho,_⟩:=h.map hl;rw[hv]at e;refine⟨bZ hop hb hargs ?_,trivial⟩;simp only[builtin];refine aV ?_;simp[Builtin.len_,hat,e.1,aC hu,conc,goInt,dT ho]
   ·cases hx'
  ·rename_i n el z hu hz;obtain rfl:QO.lnc n=q:=by simpa [Ev.q]using hc
   obtain rfl:=ae hx;refine⟨bZ hop hb hargs ?_,trivial⟩;simp only[builtin];refine aV ?_;simp[Builtin.len_,hat,aC hu,conc,goInt]
  ·rename_i ar z hu hz;split at hc
   ·rename_i n el hua;obtain rfl:QO.lnc n=q:=by simpa [Ev.q]using hc
    obtain rfl:=ae hx;refine⟨bZ hop hb hargs ?_,trivial⟩;simp only[builtin];refine aV ?_;simp[Builtin.len_,hat,aC hu,aC hua,conc,goInt]
   ·cases hc
  ·cases hc
 ·
  rename_i y ty hargs htys;have hat:cl.argTypes[0]?=some ty:=by rw[dx htys];rfl
  split at hc
  ·rename_i el z hu hz;obtain rfl:QO.cp z=q:=by simpa [Ev.q]using hc
   have e:=h.ev hz;have hx':(ry z F M t).val=some x:=hx;unfold ry at hx';split at hx'
   ·rename_i hv;obtain rfl:=ae hx';rw[hv]at e;refine⟨bZ hop hb hargs ?_,trivial⟩;simp only[builtin];refine aV ?_;simp[Builtin.cap_,hat,e.1,aC hu,conc,goInt]
   ·rename_i b' off n k hv;obtain rfl:=ae hx';rw[hv]at e;refine⟨bZ hop hb hargs ?_,trivial⟩;simp only[builtin];refine aV ?_;simp[Builtin.cap_,hat,e.1,aC hu,conc,goInt]
   ·cases hx'
  ·cases hc
 ·
  split at hc
  ·split at hc
   ·split at hc
    ·cases hc
    ·split at hc<;>cases hc
   ·cases hc
  ·cases hc
 ·split at hc
  ·split at hc
   ·split at hc<;>cases hc
   ·cases hc
  ·cases hc
 ·
  split at hc
  ·split at hc
   ·split at hc<;>cases hc
   ·cases hc
  ·cases hc
 ·
  rename_i _ y ys hargs;split at hc
  ·rename_i z zs hz hzs;obtain rfl:QO.mn false z zs=q:=by simpa [Ev.q]using hc
   cases(show(none:Option V)=some x from hx)
  ·cases hc
 ·
  rename_i _ y ys hargs;split at hc
  ·rename_i z zs hz hzs;obtain rfl:QO.mn true z zs=q:=by simpa [Ev.q]using hc
   cases(show(none:Option V)=some x from hx)
  ·cases hc
 ·
  split at hc
  ·obtain⟨sh,_,e⟩:=bf.1 hc;cases e
  ·cases hc
 ·
  split at hc
  ·split at hc<;>cases hc
  ·cases hc
 ·
  rename_i _ y hargs;obtain⟨z,hz,rfl⟩:=ja (f:=fun x=> .sd x) hc;have e:=h.ev hz;have hx':(rA z F M t).val=some x:=hx;unfold rA at hx';split at hx'
  ·rename_i hv;obtain rfl:=ae hx';rw[hv]at e;refine⟨bZ hop hb hargs ?_,trivial⟩;simp only[builtin];refine aV ?_;simp only[List.map_cons,List.map_nil,e.1,conc];exact Rw
  ·rename_i b' off n k hv;rw[bI]at hx';by_cases hk:k=0
   ·rw[aj hk]at hx';cases(show(none:Option V)=some x from hx')
   ·rw[ak hk]at hx';obtain rfl:=ae hx';rw[hv]at e;refine⟨bZ hop hb hargs ?_,e.2⟩;simp only[builtin];refine aV ?_;simp only[List.map_cons,List.map_nil,e.1,conc];exact CZ hk
  ·rename_i b' off n el kn hv;rw[fu]at hx';by_cases hk:el<kn
   ·rw[aj hk]at hx';obtain rfl:=ae hx';rw[hv]at e;refine⟨bZ hop hb hargs ?_,e.2⟩;have hne:¬(kn-el+E.κ b'=0):=by omega
    simp only[builtin];refine aV ?_;simp only[List.map_cons,List.map_nil,e.1,conc];exact CZ hne
   ·rw[ak hk]at hx';cases(show(none:Option V)=some x from hx')
  ·cases hx'
 ·split at hc
  ·obtain⟨z,_,e⟩:=bf.1 hc;cases e
  ·cases hc
 ·cases hc
end
theorem o8{fn:Func}{n:String}(hn:fn.name=n)(ho:fn.origin= "")(h1:Extern.allNextRows.lookup n=none)(h2:Extern.allNextRows.lookup "" =none):Extern.findNext fn=none:=by
 unfold Extern.findNext
 dsimp only
 rw[hn,ho,h1,h2];rfl
theorem qW{fn:Func}{n:String}{e:Array Value→Sem Value}(hn:fn.name=n)(h0:Extern.allGenericRows.lookup n=none)(h1:Extern.allTypedRows.lookup n=none)(h2:Extern.allRows.lookup n=some e):Extern.find fn=some e:=by
 unfold Extern.find
 dsimp only
 rw[hn,h0,h1,h2];rfl
theorem zT{fn:Func}{n:String}{e:Extern.Typed}(hn:fn.name=n)(h0:Extern.allGenericRows.lookup n=none)(h1:Extern.allTypedRows.lookup n=some e):Extern.find fn=some (e fn.params fn.resultTypes):=by
 unfold Extern.find
 dsimp only
 rw[hn,h0,h1];rfl
theorem rc:Extern.allNextRows.lookup "" =none:=by kernel_rfl
theorem aW2:Extern.allNextRows.lookup "internal/bytealg.IndexByteString" =none:=by kernel_rfl
theorem aW3:Extern.allNextRows.lookup "internal/abi.NoEscape" =none:=by kernel_rfl
theorem aW4:Extern.allNextRows.lookup "internal/bytealg.MakeNoZero" =none:=by kernel_rfl
theorem aT5:Extern.allGenericRows.lookup "internal/bytealg.IndexByteString" =none:=by kernel_rfl
theorem aT6:Extern.allGenericRows.lookup "internal/abi.NoEscape" =none:=by kernel_rfl
theorem aT7:Extern.allGenericRows.lookup "internal/bytealg.MakeNoZero" =none:=by kernel_rfl
theorem b18:Extern.allTypedRows.lookup "internal/bytealg.IndexByteString" =none:=by kernel_rfl
theorem b19:Extern.allTypedRows.lookup "internal/abi.NoEscape" =none:=by kernel_rfl
theorem b20:Extern.allTypedRows.lookup "internal/bytealg.MakeNoZero" =some Extern.BytealgMakeNoZero.makeNoZero:=by kernel_rfl
theorem aM7:Extern.allRows.lookup "internal/bytealg.IndexByteString" =some Extern.BytealgIndexByte.indexByte:=by kernel_rfl
theorem aM8:Extern.allRows.lookup "internal/abi.NoEscape" =some Extern.AbiNoEscape.same:=by kernel_rfl
theorem ofNat_lt{a b:Nat}(ha:a<256)(hb:b<256):UInt8.ofNat a<UInt8.ofNat b↔a<b:=by
 rw[UInt8.lt_iff_toNat_lt]
 simp[UInt8.toNat_ofNat',Nat.mod_eq_of_lt ha,Nat.mod_eq_of_lt hb]
theorem p7(c:Nat):∀(n x i:Nat),(match k7 (c%256) n x i with|some j=>(j:Int)|none=> -1)=if Lib.indexByte (bl n x) (UInt8.ofNat c)= -1 then -1 else Lib.indexByte (bl n x) (UInt8.ofNat c)+i
 |0,x,i=>by simp[k7,bl,Lib.indexByte]
 |n+1,x,i=>by
  have ih:=p7 c n (x/256) (i+1);rw[k7,bI,bl,Lib.indexByte];have hg:=Lib.indexByte_ge (bl n (x/256)) (UInt8.ofNat c);by_cases hc:x%256=c%256
  ·have hb:(UInt8.ofNat (x%256)==UInt8.ofNat c)=true:=by rw[hc,tH];simp
   rw[show Nat.mod x 256=x%256 from rfl,aj hc,cond_true,hb];simp
  ·have hb:(UInt8.ofNat (x%256)==UInt8.ofNat c)=false:=by
    rw[beq_eq_false_iff_ne];intro e;apply hc;have:=congrArg UInt8.toNat e;simpa [UInt8.toNat_ofNat']using this
   rw[show Nat.mod x 256=x%256 from rfl,ak hc,cond_false,hb];show(match k7 (c%256) n (x/256) (i+1)with|some j=>(j:Int)|none=> -1)=_;rw[ih];simp only[bn,if_false];by_cases h1:Lib.indexByte (bl n (x/256)) (UInt8.ofNat c)= -1
   ·rw[ac h1,h1];simp
   ·rw[ab h1];have h2:(Lib.indexByte (bl n (x/256)) (UInt8.ofNat c)== -1)=false:=by rw[beq_eq_false_iff_ne];exact h1
    simp only[h2,bn,if_false];rw[ab (by omega)];omega
section
variable{P:Program}{E:cG}{F:RO}{M:Mem}{c:Nat→Prop}{w:World}{t:T}{a:Act}
theorem jY{o:Oper}{cl:Call}{f:FuncId}{fn:Func}{e:Array Value→Sem Value}(hop:o.op= .call cl)(hcal:cl.callee= .value (.func f))(hf:P.funcs[f]?=some fn)(hb:fn.body.isNone=true)(hne:fn.name≠ "runtime.NumGoroutine")
 (hn:Extern.findNext fn=none) (he:Extern.find fn=some e) {l:List Operand} (hl:cl.args.toList=l) {v:Value} {w':World} (h:(e (l.map a.eval).toArray).run P w= .ok v w'):(execOp a.eval o).run P w= .ok (.value v) w':=by
 have hm:cl.args.map a.eval=(l.map a.eval).toArray:=by rw[dx hl];simp
 have hr:=run_callFunc_extern (P:=P) hf (by simpa using hne) hb hn he (l.map a.eval).toArray w
 simp only[execOp,hop,resolve,hcal,aI,hm,Act.eval,Deferred.ofValue,aF,aN,invoke,Array.empty_append,Array.append_empty,hr,h]
theorem wt{v:V}{n:Nat}(h:ur v=some n):v= .i .u8 (n:Int):=by
 unfold ur at h
 split at h
 ·obtain rfl:=ae h;rfl
 ·cases h
theorem MJ(h:Cx P E F M c w t a){o:Oper}{cl:Call}{f:FuncId}{fn:Func}(hop:o.op= .call cl)(hcal:cl.callee= .value (.func f))(hf:P.funcs[f]?=some fn)(hb:fn.body.isNone=true){q:QO}(hc:eF P fn cl.args.toList=some (.q q)){x:V}(hx:(cE q F M t).val=some x):oM P E c w a o x:=by
 unfold eF at hc
 split at hc
 ·cases hc
 ·rename_i hor;have hor:fn.origin= "" :=by simpa using hor
  split at hc
  ·rename_i y z hargs;split at hc
   ·rename_i hnm;have hnm:fn.name= "internal/bytealg.IndexByteString" :=by simpa using hnm
    split at hc
    ·rename_i xa xb h1 h2;obtain rfl:QO.xib xa xb=q:=by simpa [Ev.q]using hc
     have e1:=h.ev h1;have e2:=h.ev h2;obtain⟨n,s,hv,hg⟩:=kU (show(tI (xa.ev t) QR.f fun n s=>ay1 n s (ur (xb.ev t))).val=some x from hx);unfold ay1 at hg;split at hg
     ·rename_i k hk;rw[hv]at e1;rw[wt hk]at e2;have hfi:=p7 k n s 0;have hge:=Lib.indexByte_ge (bl n s) (UInt8.ofNat k);have hxx:conc E x= .int .i64 (Lib.indexByte (bl n s) (UInt8.ofNat k))∧bd c x:=by
       unfold AD at hg;split at hg
       ·rename_i i hi;obtain rfl:=ae hg;refine⟨?_,trivial⟩;rw[show k7 (k%256) n s 0=some i from hi]at hfi;simp only at hfi;simp only[conc]
        congr 1
        show(i:Int)=_;split at hfi<;>omega
       ·rename_i hi;obtain rfl:=ae hg;refine⟨?_,trivial⟩;rw[show k7 (k%256) n s 0=none from hi]at hfi;simp only at hfi;simp only[conc]
        congr 1
        show(-1:Int)=_;split at hfi<;>omega
      refine⟨?_,hxx.2⟩;refine jY hop hcal hf hb (by rw[hnm];decide) (o8 hnm hor aW2 rc) (qW hnm aT5 b18 aM7) hargs ?_;simp only[List.map_cons,List.map_nil,e1.1,e2.1,conc];rw[Lib.run_indexByteString,kJ,hxx.1];rfl
     ·cases(show(none:Option V)=some x from hg)
    ·cases hc
   ·split at hc
    ·rename_i hnm;have hnm:fn.name= "internal/bytealg.CountString" :=by simpa using hnm
     split at hc
     ·rename_i xa xb h1 h2;obtain rfl:QO.xcn xa xb=q:=by simpa [Ev.q]using hc
      cases(show(none:Option V)=some x from hx)
     ·cases hc
    ·split at hc
     ·rename_i hnm;have hnm:fn.name= "internal/bytealg.abigen_runtime_cmpstring" :=by simpa using hnm
      split at hc
      ·rename_i xa xb h1 h2;obtain rfl:QO.xcmp xa xb=q:=by simpa [Ev.q]using hc
       cases(show(none:Option V)=some x from hx)
      ·cases hc
     ·cases hc
  ·rename_i y hargs;split at hc
   ·rename_i hnm;have hnm:fn.name= "internal/abi.NoEscape" :=by simpa using hnm
    obtain⟨z,hz,rfl⟩:=ja (f:=fun x=> .mv x) hc;obtain rfl:z.ev t=x:=ae hx;have e:=h.ev hz;refine⟨?_,e.2⟩;refine jY hop hcal hf hb (by rw[hnm];decide) (o8 hnm hor aW3 rc) (qW hnm aT6 b19 aM8) hargs ?_;simp only[List.map_cons,List.map_nil,e.1];rfl
   ·split at hc
    ·split at hc
     ·split at hc
      ·split at hc<;>cases hc
      ·cases hc
     ·cases hc
    ·cases hc
  ·cases hc
theorem AA(h:Cx P E F M c w t a){o:Oper}{d:TypeId}{y:Operand}(hop:o.op= .sliceToArrayPointer d y){q:QO}(hc:ax P o.op=some (.q q)){x:V}(hx:(cE q F M t).val=some x):oM P E c w a o x:=by
 rw[hop]at hc;simp only[ax,Ev.q]at hc
 repeat' split at hc
 all_goals first|(cases hc;done)|(cases hc;cases(show(none:Option V)=some x from hx))|(obtain⟨z,_,e⟩:=aQ.1 hc;cases e;cases(show(none:Option V)=some x from hx))
theorem aY8(h:Cx P E F M c w t a){o:Oper}{q:QO}(hc:ax P o.op=some (.q q)){x:V}(hx:(cE q F M t).val=some x):oM P E c w a o x:=by
 cases hop:o.op with
 |move y=>exact ML h (.inl hop) hc hx
 |assign y=>exact ML h (.inr hop) hc hx
 |pick p y z=>exact ah6 h hop hc hx
 |alloc ty=>rw[hop]at hc;obtain⟨z,_,e⟩:=bf.1 hc;cases e
 |box ty y=>
  rw[hop]at hc;simp only[ax]at hc;split at hc<;>cases hc
 |build ty ps=>exact R8 h hop hc hx
 |buildSlice ty n ps=>
  rw[hop]at hc;simp only[ax]at hc;split at hc
  ·split at hc
   ·split at hc
    ·cases hc
    ·obtain⟨z,_,e⟩:=bf.1 hc;cases e
   ·cases hc
  ·cases hc
 |insert ty m k v=>
  rw[hop]at hc;simp only[ax]at hc;split at hc
  ·obtain⟨z,_,e⟩:=bf.1 hc;cases e
  ·cases hc
 |load ty y=>exact ah5 h hop hc hx
 |store ty y z=>
  rw[hop]at hc;simp only[ax]at hc;split at hc<;>cases hc
 |ready g=>rw[hop]at hc;cases hc
 |waits g=>rw[hop]at hc;cases hc
 |nilCheck y=>exact AC h hop hc hx
 |binOp op ty y z ty'=>exact R7 h hop hc hx
 |unOp op ty y=>exact Rj h hop hc hx
 |convert s d y=>exact F9 h hop hc hx
 |sliceToArrayPointer d y=>exact AA h hop hc hx
 |makeInterface ty y=>exact pF h hop hc hx
 |makeFunc fn l1 l2=>
  cases fn with
  |func f=>exact AB h hop hc hx
  |_=>rw[hop]at hc;cases hc
 |makeMap ty r=>
  cases r with
  |none=>rw[hop]at hc;cases hc
  |some z=>rw[hop]at hc;cases hc
 |makeChan ty y=>rw[hop]at hc;cases hc
 |makeSlice ty l k=>
  rw[hop]at hc;simp only[ax]at hc;split at hc
  ·split at hc
   ·split at hc<;>cases hc
   ·cases hc
  ·cases hc
 |slice ty y lo hi mx=>exact Rh h hop hc hx
 |fieldAddr ty y f=>exact xz h hop hc hx
 |field ty y f=>exact Rc h hop hc hx
 |indexAddr ty y i=>exact xG h hop hc hx
 |index ty y i=>exact Rd h hop hc hx
 |lookup ty y i ok=>exact MK h hop hc hx
 |mapUpdate ty m k v=>
  rw[hop]at hc;simp only[ax]at hc;split at hc
  ·obtain⟨z,_,e⟩:=bf.1 hc;cases e
  ·cases hc
 |mapEntry ty m k=>rw[hop]at hc;cases hc
 |entryStore ty m s v=>rw[hop]at hc;cases hc
 |range ty y=>
  rw[hop]at hc;simp only[ax]at hc;split at hc<;>cases hc
 |next y b=>
  rw[hop]at hc;cases b<;>(obtain⟨z,_,e⟩:=bf.1 hc;cases e)
 |entry y=>rw[hop]at hc;cases hc
 |typeAssert y ty ty' ok=>exact vk h hop hc hx
 |extract y i=>exact Fb h hop hc hx
 |call cl=>
  rw[hop]at hc;simp only[ax]at hc;split at hc
  ·rename_i b hcal;exact F8 h hop hcal hc hx
  ·rename_i f hcal;split at hc
   ·rename_i fn hf;split at hc
    ·rename_i hb;exact MJ h hop hcal hf hb hc hx
    ·obtain⟨z,_,e⟩:=bf.1 hc;cases e
   ·cases hc
  ·split at hc<;>cases hc
  ·cases hc
 |go cl=>rw[hop]at hc;cases hc
 |defer cl=>rw[hop]at hc;cases hc
 |panic y=>rw[hop]at hc;cases hc
 |send y z=>rw[hop]at hc;cases hc
 |recv ty y b=>rw[hop]at hc;cases hc
 |select cs b=>rw[hop]at hc;cases hc
end
theorem cw(n:Nat)(d:List V)(cs:T)(k:Nat):cell n d cs k=if k<n then(match cs.get k with|some v=>some v|none=>d[k%d.length]?)else none:=by
 show(Bool.rec (motive:=fun _=>Option V) none (Option.rec (motive:=fun _=>Option V) (mX d (Nat.mod k d.length)) (fun v=>some v) (cs.get k)) (Nat.blt k n))=_
 rw[bb,fu]
 simp only[decide_eq_true_eq]
 by_cases h:k<n
 ·rw[ac h,ac h];cases cs.get k with
  |none=>exact iB d _
  |some v=>rfl
 ·rw[ab h,ab h]
theorem kN{l:List V}{k:Nat}{v:V}(h:cell l.length [] (bG l 0 .e) k=some v):l[k]?=some v:=by
 rw[cw,cN]at h
 by_cases hk:k<l.length
 ·rw[ac hk,ac (by omega)]at h;simp only[Nat.sub_zero]at h;rw[List.getElem?_eq_getElem hk]at h⊢;exact h
 ·rw[ab hk]at h;cases h
section
variable{P:Program}{E:cG}{F:RO}{M:Mem}{c:Nat→Prop}{w:World}{t:T}{a:Act}
theorem wV{E':cG}{l:List V}{b ty:Nat}(he:mD c E E')(hl:eU c l)(hβ:E'.β b=0){arr:Array Value}(ha:arr=(aB E l).toArray):
 dP P E' b (.cells ty l.length true 0 false [] (bG l 0 .e)) (.cells arr ty):=by
 refine⟨arr,(0,0),rfl,⟨fun k v hk=>?_,?_,?_,?_⟩⟩
 ·have hk:=kN hk;rw[hβ,Nat.zero_add,ha,eu he v (eD hl hk)];simp[eI hk]
 ·simp[hβ,ha,bB]
 ·intro o _ _ h;omega
 ·intro _;exact .inl rfl
theorem pQ{l:List V}{ty:Nat}{c':Nat→Prop}{ex str:Bool}{fz:Nat}(hl:eU c l)(hc:∀b,c b→c' b):ep c' (.cells ty l.length ex fz str [] (bG l 0 .e)):=
 fun k v hk=>dD hc v (eD hl (kN hk))
abbrev Pf(P:Program)(F:RO)(E:cG)(M:Mem)(c:Nat→Prop)(w:World)(a:Act)(o:Oper)(b:Nat)(c':Nat→Prop)(v:V)(blk:bw):Prop:=
 ∃E' w',(execOp a.eval o).run P w= .ok (.value (conc E' v)) w'∧jH P F E M c w E' (M.set b blk) c' w'∧mD (· ≠b) E E'∧bd c' v
theorem PB(h:Cx P E F M c w t a){o:Oper}{ty:TypeId}(hop:o.op= .alloc ty){ao:AO}(hc:ax P o.op=some (.a ao)){b:Nat}{c':Nat→Prop}(hb:¬c b)(hbc:c' b)(hcc:∀b,c b→c' b){v:V}{blk:bw}(ha:iE ao b t=some (v,blk)):Pf P F E M c w a o b c' v blk:=by
 rw[hop]at hc
 obtain⟨z,hz,e⟩:=bf.1 hc
 obtain rfl:AO.al ty (bg z)=ao:=by simpa using e
 have ha':ZU ty (bg z) b t=some (v,blk):=ha
 unfold ZU at ha'
 by_cases h1:aE (bg z)=true
 ·rw[h1,cond_true]at ha';simp only[Option.some.injEq,Prod.mk.injEq]at ha';obtain⟨rfl,rfl⟩:=ha';have hz':=gz (E:=E) (c:=c) (w:=w) hz;have hcell:(conc E z).cells=(aB E (bg z)).toArray:=by rw[bY,cJ]
  have hbd:eU c (bg z):=by rw[cJ];exact dE hz'.2
  obtain⟨E',hS,hE,hρ,hβ,_⟩:=h.rel.alloc (.cells ty (bg z).length true 0 false [] (bG (bg z) 0 .e)) (.cells (conc E z).cells ty) b 0 c' hb hbc hcc (pQ hbd hcc) {w with heap:=w.heap.push (.cells (conc E z).cells ty)} rfl rfl rfl rfl
   (fun E' he _ hβ _=>wV he hbd hβ hcell)
  refine⟨E',_,?_,hS,hE,hbc⟩;simp only[execOp,hop];refine aV ?_;simp only[Instr.alloc,aI,hz'.1,aN,newVar,newRow,run_newObj,aF,conc,hρ,hβ,aW]
 ·rw[Bool.not_eq_true]at h1;rw[h1]at ha';cases ha'
theorem aM3(h:Cx P E F M c w t a){o:Oper}{ty:TypeId}{y:Operand}(hop:o.op= .box ty y){ao:AO}(hc:ax P o.op=some (.a ao)){b:Nat}{c':Nat→Prop}(hb:¬c b)(hbc:c' b)(hcc:∀b,c b→c' b){v:V}{blk:bw}(ha:iE ao b t=some (v,blk)):Pf P F E M c w a o b c' v blk:=by
 rw[hop]at hc
 simp only[ax]at hc
 split at hc
 ·rename_i s x hs hx;obtain rfl:AO.bx ty s x=ao:=by simpa using hc
  have ha':DR ty s x b t=some (v,blk):=ha;unfold DR at ha';rw[bI]at ha';by_cases h1:(flatten (x.ev t)).length=s
  ·by_cases h2:aE (flatten (x.ev t))=true
   ·rw[aj h1,h2]at ha';simp only[Bool.and_self,cond_true,Option.some.injEq,Prod.mk.injEq]at ha';obtain⟨rfl,rfl⟩:=ha';subst h1;have e:=h.ev hx;have hbd:=dE e.2
    obtain⟨E',hS,hE,hρ,hβ,_⟩:=h.rel.alloc (.cells ty (flatten (x.ev t)).length true 0 false [] (bG (flatten (x.ev t)) 0 .e)) (.cells (conc E (x.ev t)).cells ty) b 0 c' hb hbc hcc (pQ hbd hcc) {w with heap:=w.heap.push (.cells (conc E (x.ev t)).cells ty)} rfl rfl rfl rfl
     (fun E' he _ hβ _=>wV he hbd hβ (bY E _))
    refine⟨E',_,?_,hS,hE,hbc⟩;simp only[execOp,hop];refine aV ?_;rw[e.1];simp only[Instr.box,aI,aN,newVar,newRow,run_newObj,aF,conc,hρ,hβ,aW]
   ·rw[Bool.not_eq_true]at h2;rw[h2,Bool.and_false]at ha';cases ha'
  ·rw[ak h1]at ha';cases ha'
 ·cases hc
theorem DU(h:Cx P E F M c w t a){o:Oper}{ty:TypeId}(hop:o.op= .makeMap ty none){ao:AO}(hc:ax P o.op=some (.a ao)){b:Nat}{c':Nat→Prop}(hb:¬c b)(hbc:c' b)(hcc:∀b,c b→c' b){v:V}{blk:bw}(ha:iE ao b t=some (v,blk)):Pf P F E M c w a o b c' v blk:=by
 rw[hop]at hc
 obtain rfl:AO.mkm=ao:=by simpa [ax]using hc
 have ha':Gx b t=some (v,blk):=ha
 simp only[Gx,Option.some.injEq,Prod.mk.injEq]at ha'
 obtain⟨rfl,rfl⟩:=ha'
 obtain⟨E',hS,hE,hρ,hβ,_⟩:=h.rel.alloc (.map [] 0) (.map #[] 0) b 0 c' hb hbc hcc (fun e he=>by cases he) {w with heap:=w.heap.push (.map #[] 0)} rfl rfl rfl rfl (fun E' _ _ _ _=>rfl)
 refine⟨E',_,?_,hS,hE,hbc⟩
 simp only[execOp,hop]
 refine aV ?_
 simp[Instr.makeMap,conc,hρ]
theorem Gz(h:Cx P E F M c w t a){o:Oper}{ty:TypeId}{y:Operand}(hop:o.op= .range ty y){ao:AO}(hc:ax P o.op=some (.a ao)){b:Nat}{c':Nat→Prop}(hb:¬c b)(hbc:c' b)(hcc:∀b,c b→c' b){v:V}{blk:bw}(ha:iE ao b t=some (v,blk)):Pf P F E M c w a o b c' v blk:=by
 rw[hop]at hc;simp only[ax]at hc
 repeat' split at hc
 all_goals first|(cases hc;done)|(cases hc;cases(show(none:Option (V×bw))=some (v,blk)from ha))|(obtain⟨z,_,e⟩:=aQ.1 hc;cases e)
theorem DT(h:Cx P E F M c w t a){o:Oper}{s d:TypeId}{y:Operand}(hop:o.op= .convert s d y){ao:AO}(hc:ax P o.op=some (.a ao)){b:Nat}{c':Nat→Prop}(hb:¬c b)(hbc:c' b)(hcc:∀b,c b→c' b){v:V}{blk:bw}(ha:iE ao b t=some (v,blk)):Pf P F E M c w a o b c' v blk:=by
 rw[hop]at hc;simp only[ax]at hc
 repeat' split at hc
 all_goals first|(cases hc;done)|(cases hc;cases(show(none:Option (V×bw))=some (v,blk)from ha))|(obtain⟨z,_,e⟩:=aQ.1 hc;cases e)
theorem yu(zero:Array Value)(n j:Nat)(hj:j<n)(hz:0<zero.size):((Array.range n).map (zero[· %zero.size]!))[j]?=zero[j%zero.size]?:=by
 have hm:j%zero.size<zero.size:=Nat.mod_lt _ hz
 simp[hj,hm]
structure sN(E:cG)(m:Nat)(zero:List V)(tr:T)(arr:Array Value):Prop where
 size:arr.size=m
 get:∀k v,cell m zero tr k=some v→arr[k]?=some (conc E v)
 bd:∀k v,cell m zero tr k=some v→Ev.bd c v
theorem nZ(h:Cx P E F M c w t a){sz m:Nat}{zero:List V}:∀{ps:List (Nat×Operand)} {qs:List (Nat×X)} {tr r:T} {arr:Array Value},j9 sz ps=some qs→fillP sz m t qs tr=some r→sN (c:=c) E m zero tr arr→
 ∃arr',Instr.fill (fun i=>some (i*sz,sz)) arr (ps.map fun p=>(p.1,a.eval p.2))=some arr'∧sN (c:=c) E m zero r arr'
 |[],qs,tr,r,arr,hc,hf,hR=>by
  obtain rfl:=ae hc;obtain rfl:=ae hf;exact⟨arr,rfl,hR⟩
 |(i,y)::ps,qs,tr,r,arr,hc,hf,hR=>by
  rw[j9]at hc;split at hc
  ·rename_i x l h1 h2;obtain rfl:=ae hc;rw[fillP,bI,bW,Tr.force_eq]at hf;have e:=h.ev h1;by_cases g1:(flatten (x.ev t)).length=sz
   ·by_cases g2:i*sz+sz≤m
    ·by_cases g3:aE (flatten (x.ev t))=true
     ·rw[aj g1,show Nat.add (i*sz) sz=i*sz+sz from rfl,aj g2,g3]at hf;simp only[Bool.and_self,cond_true]at hf;have hcells:(a.eval y).cells=(aB E (flatten (x.ev t))).toArray:=by rw[e.1,bY]
      have hlen:(aB E (flatten (x.ev t))).length=sz:=by simp[bB,g1]
      have hfold:=mR (i*sz) (aB E (flatten (x.ev t))) 0 arr
      have hR':sN (c:=c) E m zero (bG (flatten (x.ev t)) (i*sz) tr) (((aB E (flatten (x.ev t))).zipIdx 0).foldl (fun cs (p:Value×Nat)=>cs.setIfInBounds (i*sz+p.2) p.1) arr):=by
       refine⟨by rw[hfold.1,hR.size],fun k v hk=>?_,fun k v hk=>?_⟩
       ·rw[cw,cN]at hk;by_cases hkm:k<m
        ·rw[ac hkm]at hk;rw[hfold.2 k (by rw[hR.size];exact hkm),hlen,aW];rw[g1]at hk;by_cases hin:i*sz≤k∧k<i*sz+sz
         ·rw[ac hin]at hk⊢;have hlt:k-i*sz<(flatten (x.ev t)).length:=by omega
          rw[List.getElem?_eq_getElem hlt]at hk;obtain rfl:=ae hk;exact eI (List.getElem?_eq_getElem hlt)
         ·rw[ab hin]at hk⊢;exact hR.get k v (by rw[cw,ac hkm];exact hk)
        ·rw[ab hkm]at hk;cases hk
       ·rw[cw,cN]at hk;by_cases hkm:k<m
        ·rw[ac hkm]at hk;by_cases hin:i*sz≤k∧k<i*sz+(flatten (x.ev t)).length
         ·rw[ac hin]at hk;have hlt:k-i*sz<(flatten (x.ev t)).length:=by omega
          rw[List.getElem?_eq_getElem hlt]at hk;obtain rfl:=ae hk;exact eD (dE e.2) (List.getElem?_eq_getElem hlt)
         ·rw[ab hin]at hk;exact hR.bd k v (by rw[cw,ac hkm];exact hk)
        ·rw[ab hkm]at hk;cases hk
      obtain⟨arr',ha,hR''⟩:=nZ h h2 hf hR';refine⟨arr',?_,hR''⟩;simp only[List.map_cons,Instr.fill,hcells];have c1:(aB E (flatten (x.ev t))).toArray.size=sz:=by simp[bB,g1]
      rw[c1,hR.size];have c2:¬(i*sz+sz>m):=by omega
      simp only[ne_eq,not_true_eq_false,decide_false,Bool.false_or,decide_eq_true_eq,c2,if_false];rw[←ha]
      congr 1
      simp
     ·rw[Bool.not_eq_true]at g3;rw[g3,Bool.and_false]at hf;cases hf
    ·rw[show Nat.add (i*sz) sz=i*sz+sz from rfl,ak g2]at hf;simp at hf
   ·rw[ak g1]at hf;simp at hf
  ·cases hc
theorem yw{zero:List V}{m:Nat}(hz:eU c zero)(hpos:0<zero.length):sN (c:=c) E m zero .e ((Array.range m).map ((aB E zero).toArray[· %(aB E zero).toArray.size]!)):=by
 have hsz:(aB E zero).toArray.size=zero.length:=by simp[bB]
 refine⟨by simp,fun k v hk=>?_,fun k v hk=>?_⟩
 ·rw[cw]at hk;by_cases hkm:k<m
  ·rw[ac hkm]at hk;rw[yu _ _ _ hkm (by rw[hsz];exact hpos),hsz];simp only[Tr.get_e]at hk;simp[eI hk]
  ·rw[ab hkm]at hk;cases hk
 ·rw[cw]at hk;by_cases hkm:k<m
  ·rw[ac hkm]at hk;simp only[Tr.get_e]at hk;exact eD hz hk
  ·rw[ab hkm]at hk;cases hk
theorem pT{E':cG}{m b ty:Nat}{zero:List V}{tr:T}{arr:Array Value}(he:mD c E E')(hR:sN (c:=c) E m zero tr arr)(hβ:E'.β b=0):dP P E' b (.cells ty m true 0 false zero tr) (.cells arr ty):=by
 refine⟨arr,(0,0),rfl,⟨fun k v hk=>?_,?_,?_,?_⟩⟩
 ·rw[hβ,Nat.zero_add,hR.get k v hk,eu he v (hR.bd k v hk)]
 ·simp[hβ,hR.size]
 ·intro o _ _ h;omega
 ·intro _;exact .inl rfl
theorem th{m:Nat}(hm:m=0)(zero:List V):sN (c:=c) E m zero .e ((Array.range m).map ((#[]:Array Value)[· %(#[]:Array Value).size]!)):=by
 subst hm
 refine⟨by simp,fun k v hk=>?_,fun k v hk=>?_⟩<;>(rw[cw,ab (by omega)]at hk;cases hk)
theorem uo(h:Cx P E F M c w t a){o:Oper}{ty:TypeId}{n:Nat}{parts:Array (Nat×Operand)}(hop:o.op= .buildSlice ty n parts){ao:AO}(hc:ax P o.op=some (.a ao)){b:Nat}{c':Nat→Prop}(hb:¬c b)(hbc:c' b)(hcc:∀b,c b→c' b){v:V}{blk:bw}(ha:iE ao b t=some (v,blk)):Pf P F E M c w a o b c' v blk:=by
 rw[hop]at hc
 simp only[ax]at hc
 have hparts:(parts.map fun(p:Nat×Operand)=>(p.1,a.eval p.2)).toList=parts.toList.map fun p=>(p.1,a.eval p.2):=by simp
 split at hc
 ·rename_i el hu;split at hc
  ·rename_i s z hs hz;split at hc
   ·cases hc
   ·rename_i hcond;simp only[Bool.or_eq_true,decide_eq_true_eq,not_or]at hcond;obtain⟨qs,hqs,e⟩:=bf.1 hc;obtain rfl:AO.bsl el n s (bg z) qs=ao:=by simpa using e
    have ha':sT el n s (bg z) qs b t=some (v,blk):=ha;unfold sT at ha';split at ha'
    ·rename_i tr htr;rw[bp]at ha';simp only[Option.some.injEq,Prod.mk.injEq]at ha';obtain⟨rfl,rfl⟩:=ha';have hz':=gz (E:=E) (c:=c) (w:=w) hz;have hcell:(conc E z).cells=(aB E (bg z)).toArray:=by rw[bY,cJ]
     have hbd:eU c (bg z):=by rw[cJ];exact dE hz'.2
     by_cases hpos:0<(bg z).length
     ·by_cases hns:n*s=0
      ·obtain⟨arr,hfill,hR⟩:=nZ h hqs (m:=n*s) htr (th (E:=E) hns (bg z))
       obtain⟨E',hS,hE,hρ,hβ,_⟩:=h.rel.alloc (.cells el (n*s) true 0 false (bg z) tr) (.cells arr el) b 0 c' hb hbc hcc (fun k v hk=>dD hcc v (hR.bd k v hk)) {w with heap:=w.heap.push (.cells arr el)} rfl rfl rfl rfl
        (fun E' he _ hβ _=>pT he hR hβ)
       refine⟨E',_,?_,hS,hE,hbc⟩;simp only[execOp,hop];refine aV ?_;have hns':¬(n*s>2^24):=by omega
       simp only[Instr.buildSlice,aI,aC hu,aN,d6 hs,hns',if_false,Sem.run_ite,hns,if_true,aF,hparts];rw[hns]at hfill;simp only[hfill,newRow,aI,run_newObj,aF,aN,conc,hρ,hβ,aW];rw[ab (by decide)]
      ·obtain⟨arr,hfill,hR⟩:=nZ h hqs (m:=n*s) htr (yw (E:=E) hbd hpos)
       obtain⟨E',hS,hE,hρ,hβ,_⟩:=h.rel.alloc (.cells el (n*s) true 0 false (bg z) tr) (.cells arr el) b 0 c' hb hbc hcc (fun k v hk=>dD hcc v (hR.bd k v hk)) {w with heap:=w.heap.push (.cells arr el)} rfl rfl rfl rfl
        (fun E' he _ hβ _=>pT he hR hβ)
       refine⟨E',_,?_,hS,hE,hbc⟩;simp only[execOp,hop];refine aV ?_;have hns':¬(n*s>2^24):=hcond.1.2;simp only[Instr.buildSlice,aI,aC hu,aN,d6 hs,hns',if_false,Sem.run_ite,hns,hz'.1,aF,hparts,hcell];simp only[hfill,newRow,aI,run_newObj,aF,aN,conc,hρ,hβ,aW]
     ·exfalso;have:=hcond.2;cases hcz:bg z with
      |nil=>rw[hcz]at this;simp at this
      |cons x l=>rw[hcz]at hpos;simp at hpos
    ·cases ha'
  ·cases hc
 ·cases hc
theorem wm(h:Cx P E F M c w t a){o:Oper}{ty:TypeId}{l k:Operand}(hop:o.op= .makeSlice ty l k){ao:AO}(hc:ax P o.op=some (.a ao)){b:Nat}{c':Nat→Prop}(hb:¬c b)(hbc:c' b)(hcc:∀b,c b→c' b){v:V}{blk:bw}(ha:iE ao b t=some (v,blk)):Pf P F E M c w a o b c' v blk:=by
 rw[hop]at hc
 simp only[ax]at hc
 split at hc
 ·rename_i el xl xk hu h1 h2;split at hc
  ·rename_i s by_ z hs hby hz;split at hc
   ·cases hc
   ·rename_i hcond;simp only[Bool.or_eq_true,decide_eq_true_eq,not_or]at hcond;obtain rfl:AO.mks el s by_ (bg z) xl xk=ao:=by simpa using hc
    have ha':uq el s by_ (bg z) b (lO (xl.ev t)) (lO (xk.ev t))=some (v,blk):=ha;unfold uq at ha';split at ha'
    ·rename_i ln cp hl hk;rw[bW,bW]at ha';by_cases g1:ln≤cp
     ·by_cases g2:cp*(by_+1)≤1099511627776
      ·rw[aj g1,show Nat.mul cp (Nat.succ by_)=cp*(by_+1)from rfl,aj g2,bp]at ha';simp only[Bool.and_self,cond_true,Option.some.injEq,Prod.mk.injEq]at ha';obtain⟨rfl,rfl⟩:=ha';obtain⟨k1,e1⟩:=gH hl;obtain⟨k2,e2⟩:=gH hk;have v1:=h.ev h1;have v2:=h.ev h2;rw[e1]at v1;rw[e2]at v2;have hz':=gz (E:=E) (c:=c) (w:=w) hz;have hcell:(conc E z).cells=(aB E (bg z)).toArray:=by rw[bY,cJ]
       have hbd:eU c (bg z):=by rw[cJ];exact dE hz'.2
       have hpos:0<(bg z).length:=by
        cases hcz:bg z with
        |nil=>exact absurd (by rw[hcz];rfl) hcond.2
        |cons x l=>exact Nat.succ_pos _
       have hcp:cp≤1099511627776:=by
        have:cp*1≤cp*(by_+1):=Nat.mul_le_mul_left cp (by omega);omega
       have hbc2:by_*cp≤1099511627776:=by
        have:cp*by_≤cp*(by_+1):=Nat.mul_le_mul_left cp (by omega);rw[Nat.mul_comm];omega
       have w1:IntKind.i64.wrap (ln:Int)=ln:=by
        rw[mo .i64 _ 18446744073709551616 9223372036854775808 rfl (by decide) (by decide),ab (by omega)];omega
       have w2:IntKind.i64.wrap (cp:Int)=cp:=by
        rw[mo .i64 _ 18446744073709551616 9223372036854775808 rfl (by decide) (by decide),ab (by omega)];omega
       obtain⟨i,hi,hib⟩:∃i,P.info? el=some i∧i.bytes=by_:=by
        obtain⟨i,hi,e⟩:=bf.1 hby;exact⟨i,hi,e⟩
       have hti:(typeInfo el).run P w= .ok i w:=by simp[typeInfo,hi]
       have hbig:¬((by_:Int)*(cp:Int)>2^48):=by
        have:((by_*cp:Nat):Int)≤((1099511627776:Nat):Int):=Int.ofNat_le.2 hbc2;rw[Int.natCast_mul]at this;have h48:(2:Int)^48=281474976710656:=by decide
        rw[h48];omega
       have htest:(decide ((cp:Int)<0)||decide ((by_:Int)*(cp:Int)>2^48)||decide ((ln:Int)<0)||decide ((ln:Int)>(cp:Int)))=false:=by
        simp only[Bool.or_eq_false_iff,decide_eq_false_iff_not];exact⟨⟨⟨by omega,hbig⟩,by omega⟩,by omega⟩
       by_cases hns:cp*s=0
       ·have hR:=th (E:=E) (c:=c) hns (bg z)
        obtain⟨E',hS,hE,hρ,hβ,_⟩:=h.rel.alloc (.cells el (cp*s) true 0 false (bg z) .e) (.cells _ el) b 0 c' hb hbc hcc (fun k v hk=>dD hcc v (hR.bd k v hk)) {w with heap:=w.heap.push (.cells _ el)} rfl rfl rfl rfl
         (fun E' he _ hβ _=>pT he hR hβ)
        refine⟨E',_,?_,hS,hE,hbc⟩;simp only[execOp,hop];refine aV ?_;rw[v1.1,v2.1];simp only[Instr.makeSlice,aI,aC hu,aN,conc,asInt,asIntOf,aF,hti,hib,w1,w2,htest,bn,if_false,Sem.run_ite,run_askRoom,Int.toNat_natCast,d6 hs,hns,if_true,newRow,run_newObj,hρ,hβ,aW]
       ·have hR:=yw (E:=E) (c:=c) (m:=cp*s) hbd hpos
        obtain⟨E',hS,hE,hρ,hβ,_⟩:=h.rel.alloc (.cells el (cp*s) true 0 false (bg z) .e) (.cells _ el) b 0 c' hb hbc hcc (fun k v hk=>dD hcc v (hR.bd k v hk)) {w with heap:=w.heap.push (.cells _ el)} rfl rfl rfl rfl
         (fun E' he _ hβ _=>pT he hR hβ)
        refine⟨E',_,?_,hS,hE,hbc⟩;simp only[execOp,hop];refine aV ?_;rw[v1.1,v2.1];simp only[Instr.makeSlice,aI,aC hu,aN,conc,asInt,asIntOf,aF,hti,hib,w1,w2,htest,bn,if_false,Sem.run_ite,run_askRoom,Int.toNat_natCast,d6 hs,hns,hz'.1,hcell,newRow,run_newObj,hρ,hβ,aW]
      ·rw[show Nat.mul cp (Nat.succ by_)=cp*(by_+1)from rfl,ak g2,Bool.and_false]at ha';cases ha'
     ·rw[ak g1]at ha';cases ha'
    ·cases ha'
  ·cases hc
 ·cases hc
theorem wC(n:Nat):∀(x:Nat) (acc:Array Value),(Extern.BytealgMakeNoZero.digits n x acc).size=acc.size+n:=by
 induction n with
 |zero=>intro x acc;rfl
 |succ n ih=>intro x acc;rw[Extern.BytealgMakeNoZero.digits,ih];simp;omega
theorem zb{v:V}{n:Nat}(h:BZ v=some n):v= .i .i64 (n:Int):=by
 unfold BZ at h
 split at h
 ·obtain rfl:=ae h;rfl
 ·cases h
theorem Aq{ps rs:Array TypeId}{ty el n:Nat}(hr:rs[0]?=some ty)(hu:P.underlying ty=some (.slice el))(hn:n≤1099511627776):
 ∃bytes,(Extern.BytealgMakeNoZero.makeNoZero ps rs #[.int .i64 (n:Int)]).run P w= .ok (.slice (some ⟨w.heap.size,0,none⟩) n (grownCap w n 0 el))
  {w with heap:=w.heap.push (.cells (Extern.BytealgMakeNoZero.digits (grownCap w n 0 el) bytes #[]) el),drawn:=w.drawn+1+1}:=by
 have h1:¬((n:Int)<0):=by omega
 have h2:¬((n:Int)>2^48):=by
  have h48:(2:Int)^48=281474976710656:=by decide
  rw[h48];omega
 refine⟨?_,?_⟩
 rotate_left
 ·conv=>lhs;arg 2;whnf
  simp only[hr,aI,aC hu,aN,h1,h2,decide_false,Bool.or_self,bn,if_false,Sem.run_ite,Int.toNat_natCast,run_choose,Question.forced,run_askRoom,newRow,run_newObj,aF,Question.cut];rfl
theorem Gw(h:Cx P E F M c w t a){o:Oper}{cl:Call}{f:FuncId}{fn:Func}(hop:o.op= .call cl)(hcal:cl.callee= .value (.func f))(hf:P.funcs[f]?=some fn)(hb0:fn.body.isNone=true){ao:AO}(hc:eF P fn cl.args.toList=some (.a ao)){b:Nat}{c':Nat→Prop}(hb:¬c b)(hbc:c' b)(hcc:∀b,c b→c' b){v:V}{blk:bw}(ha:iE ao b t=some (v,blk)):Pf P F E M c w a o b c' v blk:=by
 unfold eF at hc
 split at hc
 ·cases hc
 ·rename_i hor;have hor:fn.origin= "" :=by simpa using hor
  split at hc
  ·split at hc
   ·split at hc<;>cases hc
   ·split at hc
    ·split at hc<;>cases hc
    ·split at hc
     ·split at hc<;>cases hc
     ·cases hc
  ·rename_i y hargs;split at hc
   ·obtain⟨z,hz,e⟩:=aQ.1 hc;cases e
   ·split at hc
    ·rename_i hnm;have hnm:fn.name= "internal/bytealg.MakeNoZero" :=by simpa using hnm
     split at hc
     ·rename_i x ty hx hres;split at hc
      ·rename_i el hu;split at hc
       ·rename_i hu8;rw[aX]at hu8;have hsz:P.cellsOf el=1:=j8 (by simpa using hu8.2);obtain rfl:AO.nz el x=ao:=by simpa using hc
        have ha':DV el x b t=some (v,blk):=ha;unfold DV at ha';split at ha'
        ·rename_i n hn;rw[bW]at ha';by_cases g1:n≤1099511627776
         ·rw[aj g1]at ha';simp only[cond_true,Option.some.injEq,Prod.mk.injEq]at ha';obtain⟨rfl,rfl⟩:=ha';have e1:=zb hn;have v1:=h.ev hx;rw[e1]at v1;have hres0:fn.resultTypes[0]?=some ty:=by rw[dx hres];rfl
          have hgc:n≤grownCap w n 0 el:=by simp[grownCap,Question.cut]
          obtain⟨bytes,w',hrun,hheap,hos,hout,htape⟩:∃bytes w',(Extern.BytealgMakeNoZero.makeNoZero fn.params fn.resultTypes #[.int .i64 (n:Int)]).run P w= .ok (.slice (some ⟨w.heap.size,0,none⟩) n (grownCap w n 0 el)) w'∧
           w'.heap=w.heap.push (.cells (Extern.BytealgMakeNoZero.digits (grownCap w n 0 el) bytes #[]) el)∧w'.os=w.os∧w'.output=w.output∧w'.tape=w.tape:=by
           obtain⟨bytes,hb2⟩:=Aq (P:=P) (w:=w) (ps:=fn.params) hres0 hu g1;exact⟨bytes,_,hb2,rfl,rfl,rfl,rfl⟩
          obtain⟨E',hS,hE,hρ,hβ,hκ⟩:=h.rel.alloc (.cells el n false 0 false [] .e) (.cells (Extern.BytealgMakeNoZero.digits (grownCap w n 0 el) bytes #[]) el) b (grownCap w n 0 el-n) c' hb hbc hcc
           (fun k v hk=>by
            rw[cw]at hk;simp only[Tr.get_e,List.getElem?_nil]at hk;split at hk<;>cases hk) w' hheap hos hout htape
           (fun E' he _ hβ hκ=>by
            refine⟨_,_,rfl,⟨fun k v hk=>?_,?_,?_,?_⟩⟩
            ·rw[cw]at hk;simp only[Tr.get_e,List.getElem?_nil]at hk;split at hk<;>cases hk
            ·simp only[bn,if_false];rw[wC,hβ,hκ,hsz];simp;omega
            ·intro o _ _ h;omega
            ·intro _;exact .inl rfl)
          refine⟨E',w',?_,hS,hE,hbc⟩;refine jY hop hcal hf hb0 (by rw[hnm];decide) (o8 hnm hor aW4 rc) (zT hnm aT7 b20) hargs ?_;simp only[List.map_cons,List.map_nil,v1.1,conc];rw[hrun,hρ,hβ,hκ];have e0:grownCap w n 0 el=n-0+(grownCap w n 0 el-n):=by omega
          rw[←e0]
         ·rw[ak g1]at ha';cases ha'
        ·cases ha'
       ·cases hc
      ·cases hc
     ·cases hc
    ·cases hc
  ·cases hc
theorem Sq(h:Cx P E F M c w t a){o:Oper}{ao:AO}(hc:ax P o.op=some (.a ao)){b:Nat}{c':Nat→Prop}(hb:¬c b)(hbc:c' b)(hcc:∀b,c b→c' b){v:V}{blk:bw}(ha:iE ao b t=some (v,blk)):Pf P F E M c w a o b c' v blk:=by
 cases hop:o.op with
 |alloc ty=>exact PB h hop hc hb hbc hcc ha
 |box ty y=>exact aM3 h hop hc hb hbc hcc ha
 |buildSlice ty n ps=>exact uo h hop hc hb hbc hcc ha
 |convert s d y=>exact DT h hop hc hb hbc hcc ha
 |makeMap ty r=>
  cases r with
  |none=>exact DU h hop hc hb hbc hcc ha
  |some z=>rw[hop]at hc;cases hc
 |makeSlice ty l k=>exact wm h hop hc hb hbc hcc ha
 |range ty y=>exact Gz h hop hc hb hbc hcc ha
 |call cl=>
  rw[hop]at hc;simp only[ax]at hc;split at hc
  ·rename_i b' hcal;exfalso;unfold dy at hc;split at hc
   ·split at hc<;>first|cases hc|(split at hc<;>cases hc)
   ·split at hc<;>cases hc
   ·split at hc
    ·split at hc
     ·split at hc
      ·cases hc
      ·split at hc<;>cases hc
     ·cases hc
    ·cases hc
   ·split at hc
    ·split at hc
     ·split at hc<;>cases hc
     ·cases hc
    ·cases hc
   ·split at hc
    ·split at hc
     ·split at hc<;>cases hc
     ·cases hc
    ·cases hc
   ·split at hc<;>cases hc
   ·split at hc<;>cases hc
   ·split at hc
    ·obtain⟨z,_,e⟩:=bf.1 hc;cases e
    ·cases hc
   ·split at hc
    ·split at hc<;>cases hc
    ·cases hc
   ·obtain⟨z,_,e⟩:=aQ.1 hc;cases e
   ·split at hc
    ·obtain⟨z,_,e⟩:=bf.1 hc;cases e
    ·cases hc
   ·cases hc
  ·rename_i f hcal;split at hc
   ·rename_i fn hf;split at hc
    ·rename_i hb0;exact Gw h hop hcal hf hb0 hc hb hbc hcc ha
    ·obtain⟨z,_,e⟩:=bf.1 hc;cases e
   ·cases hc
  ·split at hc<;>cases hc
  ·cases hc
 |move y=>rw[hop]at hc;obtain⟨z,_,e⟩:=aQ.1 hc;cases e
 |assign y=>rw[hop]at hc;obtain⟨z,_,e⟩:=aQ.1 hc;cases e
 |pick p y z=>rw[hop]at hc;simp only[ax]at hc;split at hc<;>cases hc
 |build ty ps=>
  rw[hop]at hc;simp only[ax]at hc;split at hc
  ·split at hc
   ·obtain⟨z,_,e⟩:=aQ.1 hc;cases e
   ·cases hc
  ·split at hc
   ·obtain⟨z,_,e⟩:=aQ.1 hc;cases e
   ·cases hc
  ·cases hc
 |insert ty m k v=>
  rw[hop]at hc;simp only[ax]at hc;split at hc
  ·obtain⟨z,_,e⟩:=bf.1 hc;cases e
  ·cases hc
 |load ty y=>rw[hop]at hc;simp only[ax]at hc;split at hc<;>cases hc
 |store ty y z=>rw[hop]at hc;simp only[ax]at hc;split at hc<;>cases hc
 |nilCheck y=>rw[hop]at hc;obtain⟨z,_,e⟩:=aQ.1 hc;cases e
 |binOp op ty y z ty'=>
  rw[hop]at hc;simp only[ax]at hc;split at hc
  ·cases hc
  ·cases hc
  ·split at hc
   ·obtain⟨z,_,e⟩:=aQ.1 hc;cases e
   ·obtain⟨z,_,e⟩:=aQ.1 hc;cases e
   ·cases hc
  ·cases hc
 |unOp op ty y=>rw[hop]at hc;obtain⟨z,_,e⟩:=aQ.1 hc;cases e
 |makeInterface ty y=>rw[hop]at hc;simp only[ax]at hc;split at hc<;>cases hc
 |makeFunc fn l1 l2=>
  cases fn with
  |func f=>rw[hop]at hc;simp only[ax]at hc;split at hc<;>cases hc
  |_=>rw[hop]at hc;cases hc
 |slice ty y lo hi mx=>
  rw[hop]at hc;simp only[ax]at hc;split at hc
  ·split at hc
   ·split at hc<;>cases hc
   ·obtain⟨z,_,e⟩:=aQ.1 hc;split at e<;>cases e
   ·obtain⟨z,_,e⟩:=aQ.1 hc;split at e<;>cases e
   ·split at hc
    ·obtain⟨z,_,e⟩:=aQ.1 hc;split at e<;>cases e
    ·cases hc
   ·cases hc
  ·cases hc
 |fieldAddr ty y f=>
  rw[hop]at hc;simp only[ax]at hc;split at hc
  ·split at hc
   ·split at hc<;>cases hc
   ·cases hc
  ·cases hc
 |field ty y f=>
  rw[hop]at hc;simp only[ax]at hc;split at hc
  ·split at hc
   ·split at hc<;>cases hc
   ·cases hc
  ·cases hc
 |indexAddr ty y i=>
  rw[hop]at hc;simp only[ax]at hc;split at hc
  ·obtain⟨z,_,e⟩:=aQ.1 hc;cases e
  ·obtain⟨z,_,e⟩:=aQ.1 hc;cases e
  ·cases hc
 |index ty y i=>
  rw[hop]at hc;simp only[ax]at hc;split at hc
  ·split at hc<;>cases hc
  ·cases hc
  ·cases hc
 |lookup ty y i ok=>
  rw[hop]at hc;simp only[ax]at hc;split at hc
  ·split at hc<;>cases hc
  ·cases hc
 |mapUpdate ty m k v=>
  rw[hop]at hc;simp only[ax]at hc;split at hc
  ·obtain⟨z,_,e⟩:=bf.1 hc;cases e
  ·cases hc
 |next y b=>
  rw[hop]at hc;cases b<;>(obtain⟨z,_,e⟩:=bf.1 hc;cases e)
 |typeAssert y ty ty' ok=>rw[hop]at hc;simp only[ax]at hc;split at hc<;>cases hc
 |extract y i=>rw[hop]at hc;obtain⟨z,_,e⟩:=aQ.1 hc;cases e
 |sliceToArrayPointer d y=>rw[hop]at hc;simp only[ax]at hc;split at hc<;>cases hc
 |_=>rw[hop]at hc;cases hc
end
def NV(nx:Next)(v:Value):Prop:=nx= .value v∨(nx= .skip∧v=Go.undef)
theorem tG{h:Array Obj}{r:Nat}{x:Obj}(f:Obj→Obj)(hx:h[r]?=some x):h.modify r f=h.setIfInBounds r (f x):=by
 apply Array.ext_getElem?
 intro j
 rw[Array.getElem?_modify]
 by_cases e:r=j
 ·subst e;obtain⟨hlt,hx'⟩:=Array.getElem?_eq_some_iff.1 hx;simp[hlt,hx']
 ·rw[ab e,Array.getElem?_setIfInBounds_ne e]
theorem AW{w:World}{r o:Nat}{arr:Array Value}{ty:TypeId}{fr:Nat×Nat}(h:w.heap[r]?=some (.cells arr ty fr))(v:Value):
 w.setCell ⟨r,o,none⟩ v={w with heap:=w.heap.setIfInBounds r (.cells (arr.setIfInBounds o v) ty fr)}:=by
 unfold World.setCell
 rw[tG _ h]
 simp
def eH(arr:Array Value)(off:Nat)(vs:List Value)(k:Nat):Array Value:=(vs.zipIdx k).foldl (fun cs (p:Value×Nat)=>cs.setIfInBounds (off+p.2) p.1) arr
theorem gU{P:Program}(r off:Nat)(ty:TypeId)(fr:Nat×Nat):∀(vs:List Value) (k:Nat) (arr:Array Value) (w:World),w.heap[r]?=some (.cells arr ty fr)→
 qp fr (off+k) arr.size→off+k+vs.length≤arr.size→(∀v∈vs,v.oneCell'=true)→
 (storeCells ⟨r,off,none⟩ vs k).run P w= .ok () {w with heap:=w.heap.setIfInBounds r (.cells (eH arr off vs k) ty fr)}
 |[],k,arr,w,h,_,_,_=>by
  have hlt:=(Array.getElem?_eq_some_iff.1 h)
  simp only[storeCells,aF,eH,List.zipIdx_nil,List.foldl_nil]
  congr 1
  have:w.heap.setIfInBounds r (.cells arr ty fr)=w.heap:=by
   apply Array.ext_getElem?;intro j;by_cases e:r=j
   ·subst e;rw[h];simp[hlt.1]
   ·rw[Array.getElem?_setIfInBounds_ne e]
  rw[this]
 |v::vs,k,arr,w,h,hf,hs,h1=>by
  simp only[aw]at hs
  have hc:w.cell? ⟨r,off+k,none⟩=some (arr[off+k]'(by omega)):=by
   simp only[World.cell?,h,Option.isSome_none,bn,if_false];exact Array.getElem?_eq_getElem (by omega)
  have hz:w.frozen? ⟨r,off+k,none⟩=false:=by
   simp only[World.frozen?,h];have:=hf (off+k) (ah _) (by omega);rw[Bool.and_eq_false_iff];simp only[decide_eq_false_iff_not];omega
  have hlt:=(Array.getElem?_eq_some_iff.1 h).1;rw[storeCells,aI,Addr.add_eq,run_store P w _ v _ (h1 v (by simp)),hc];simp only[hz,bn,if_false,aN];rw[AW h]
  have h':({w with heap:=w.heap.setIfInBounds r (.cells (arr.setIfInBounds (off+k) v) ty fr)}:World).heap[r]?=some (.cells (arr.setIfInBounds (off+k) v) ty fr):=by
   simp[hlt]
  have ih:=gU (P:=P) r off ty fr vs (k+1) (arr.setIfInBounds (off+k) v) _ h' (fun o ho ho'=>hf o (by omega) (by simpa using ho')) (by simp;omega) (fun x hx=>h1 x (by simp[hx]));rw[ih];simp only[eH,List.zipIdx_cons,List.foldl_cons]
  congr 2
  apply Array.ext_getElem?;intro j;by_cases e:r=j
  ·subst e;simp[hlt]
  ·rw[Array.getElem?_setIfInBounds_ne e,Array.getElem?_setIfInBounds_ne e,Array.getElem?_setIfInBounds_ne e]
section
variable{P:Program}{E:cG}{F:RO}{M:Mem}{c:Nat→Prop}{w:World}{t:T}{a:Act}
theorem r0{v:V}(h:bD v=true):(conc E v).oneCell'=true:=by
 cases v<;>first|rfl|cases(show false=true from h)
theorem lN:∀{l:List V},aE l=true→ ∀v∈l,bD v=true
 |[],_,v,hv=>by cases hv
 |x::l,h,v,hv=>by
  have h':(Bool.rec (motive:=fun _=>Bool) false (aE l) (bD x))=true:=h;rw[bb]at h';by_cases hx:bD x=true
  ·rw[ac hx]at h';cases hv with
   |head=>exact hx
   |tail _ hm=>exact lN h' v hm
  ·rw[ab hx]at h';cases h'
theorem ku{b o:Nat}{vs:List V}{M':Mem}(h:bN M b o vs=some M'):∃ty n ex fz str d cs,M.get b=some (.cells ty n ex fz str d cs)∧o+vs.length≤n∧fz≤o∧aE vs=true∧
 M'=M.set b (.cells ty n ex fz str d (bG vs o cs)):=by
 have h':Option.rec (motive:=fun _=>Option Mem) none (fun blk=>lg M b o vs blk) (M.get b)=some M':=h
 cases hb:M.get b with
 |none=>rw[hb]at h';cases(show(none:Option Mem)=some M' from h')
 |some blk=>
  rw[hb]at h';cases blk with
  |cells ty n ex fz str d cs=>
   have h2:(Bool.rec (motive:=fun _=>Option Mem) none (Bool.rec (motive:=fun _=>Option Mem) none (Bool.rec (motive:=fun _=>Option Mem) none (dU M b o vs ty n ex fz str d cs) (aE vs)) (Nat.ble fz o)) (Nat.ble (Nat.add o vs.length) n))=some M':=h';rw[bb,bb,bb,bW,bW]at h2;split at h2
   ·rename_i g1;split at h2
    ·rename_i g2;split at h2
     ·rename_i g3;refine⟨ty,n,ex,fz,str,d,cs,rfl,bL g1,bL g2,g3,?_⟩;unfold dU at h2;rw[Tr.force_eq,Tr.force_eq]at h2;exact(ae h2).symm
     ·cases h2
    ·cases h2
   ·cases h2
  |_=>cases(show(none:Option Mem)=some M' from h')
theorem Cx.store(h:Cx P E F M c w t a){b o:Nat}{vs:List V}{M':Mem}(hs:bN M b o vs=some M')(hb:eU c vs):
 ∃w',(storeCells ⟨E.ρ b,E.β b+o,none⟩ (aB E vs)).run P w= .ok () w'∧jH P F E M c w E M' c w':=by
 obtain⟨ty,n,ex,fz,str,d,cs,hM,h1,h2,h3,rfl⟩:=ku hs
 obtain⟨arr,fr,ho,hr⟩:=h.cells (au hM)
 have hle:=hr.le
 have hlen:(aB E vs).length=vs.length:=by simp[bB]
 have hone:∀v∈aB E vs,v.oneCell'=true:=by
  intro v hv;rw[bB,List.mem_map]at hv;obtain⟨x,hx,rfl⟩:=hv;exact r0 (lN h3 x hx)
 have hrun:=gU (P:=P) (E.ρ b) (E.β b+o) ty fr (aB E vs) 0 arr w ho (fun k hk hk'=>hr.free k (by omega) hk') (by rw[hlen];omega) hone
 refine⟨_,hrun,h.rel.write b _ _ hM _ ?_ _ rfl rfl rfl rfl ?_⟩
 ·intro k v hk;rw[cw,cN]at hk;have hold:=(h.rel.has _ _ (au hM)).2.1;split at hk
  ·rename_i hkn;by_cases hin:o≤k∧k<o+vs.length
   ·rw[ac hin]at hk;have hlt:k-o<vs.length:=by omega
    rw[List.getElem?_eq_getElem hlt]at hk;obtain rfl:=ae hk;exact eD hb (List.getElem?_eq_getElem hlt)
   ·rw[ab hin]at hk;exact hold k v (by rw[cw,ac hkn];exact hk)
  ·cases hk
 ·have hsp:=mR (E.β b+o) (aB E vs) 0 arr;refine⟨_,_,rfl,⟨fun k v hk=>?_,?_,?_,hr.plain⟩⟩
  ·rw[cw,cN]at hk;split at hk
   ·rename_i hkn;show(eH arr (E.β b+o) (aB E vs) 0)[E.β b+k]?=_;unfold eH;rw[hsp.2 (E.β b+k) (by omega),hlen,aW];by_cases hin:o≤k∧k<o+vs.length
    ·rw[ac hin]at hk;rw[ac (by omega),show E.β b+k-(E.β b+o)=k-o by omega];have hlt:k-o<vs.length:=by omega
     rw[List.getElem?_eq_getElem hlt]at hk;obtain rfl:=ae hk;exact eI (List.getElem?_eq_getElem hlt)
    ·rw[ab hin]at hk;rw[ab (by omega)];exact hr.cell k v (by rw[cw,ac hkn];exact hk)
   ·cases hk
  ·show if ex then E.β b=0∧(eH arr (E.β b+o) (aB E vs) 0).size=n else(eH arr (E.β b+o) (aB E vs) 0).size=E.β b+n+E.κ b*P.cellsOf ty
   unfold eH;rw[hsp.1];exact hr.size
  ·show qp fr (E.β b+fz) (eH arr (E.β b+o) (aB E vs) 0).size;unfold eH;rw[hsp.1];exact hr.free
structure gD(c:Nat→Prop)(ct:Nat)(c':Nat→Prop)(ct':Nat):Prop where
 le:ct≤ct'
 new:∀b,c' b→c b∨(ct≤b∧b<ct')
theorem gD.refl(c:Nat→Prop)(ct:Nat):gD c ct c ct:=⟨ah _,fun _ h=> .inl h⟩
theorem gD.trans{c c₁ c₂:Nat→Prop}{n n₁ n₂:Nat}(h:gD c n c₁ n₁)(h':gD c₁ n₁ c₂ n₂):gD c n c₂ n₂:=
 ⟨aY h.le h'.le,fun b hb=>by
  have l1:=h.le;have l2:=h'.le;rcases h'.new b hb with hb|hb
  ·rcases h.new b hb with hb|hb
   ·exact .inl hb
   ·exact .inr (by omega)
  ·exact .inr (by omega)⟩
def eQ(c:Nat→Prop)(ct:Nat):Prop:=∀b,ct≤b→ ¬c b
theorem eQ.grow{c c':Nat→Prop}{n n':Nat}(h:eQ c n)(g:gD c n c' n'):eQ c' n':=fun b hb hc=>by
 have:=g.le
 rcases g.new b hc with h1|h1
 ·exact h b (by omega) h1
 ·omega
abbrev yy(P:Program)(F:RO)(E:cG)(M:Mem)(c:Nat→Prop)(ct:Nat)(w:World)(a:Act)(o:Oper)(v:V)(M':Mem)(ct':Nat):Prop:=
 ∃E' w' nx c',(execOp a.eval o).run P w= .ok nx w'∧NV nx (conc E' v)∧jH P F E M c w E' M' c' w'∧bd c' v∧gD c ct c' ct'
theorem ag2{v:V}{g:Nat→Nat→RC}{x:V}{M':Mem}{c':Nat}(h:pC v .f g= .k x M' c'):∃b o,v= .p b o∧g b o= .k x M' c':=by
 cases v with
 |p b o=>exact⟨b,o,rfl,h⟩
 |_=>cases(show RC.f= .k x M' c' from h)
theorem Qi(h:Cx P E F M c w t a){o:Oper}{ty:TypeId}{y z:Operand}(hop:o.op= .store ty y z){eo:EO}(hc:ax P o.op=some (.e eo)){k:Kn}(hk:k.F=F){v:V}{M':Mem}{ct ct':Nat}(he:ew eo k M ct t= .k v M' ct'):yy P F E M c ct w a o v M' ct':=by
 rw[hop]at hc
 simp only[ax]at hc
 split at hc
 ·rename_i n xa xv hs h1 h2;obtain rfl:EO.st n xa xv=eo:=by simpa using hc
  have e1:=h.ev h1;have e2:=h.ev h2;obtain⟨b,off,hv,hg⟩:=ag2 (show pC (xa.ev t) .f (fun b o=>tg n b o (flatten (xv.ev t)) M ct)= .k v M' ct' from he);unfold tg at hg;rw[bb,bI]at hg;split at hg
  ·rename_i hn;have hn:(flatten (xv.ev t)).length=n:=bL hn;unfold er at hg;cases hst:bN M b off (flatten (xv.ev t))with
   |none=>rw[hst]at hg;cases(show RC.f= .k v M' ct' from hg)
   |some M''=>
    rw[hst]at hg;have hg':RC.k undef M'' ct= .k v M' ct':=hg;injection hg' with g1 g2 g3
    subst g1 g2 g3;obtain⟨w',hrun,hS⟩:=h.store hst (dE e2.2);rw[hv]at e1;refine⟨E,w',.skip,c,?_,.inr ⟨rfl,rfl⟩,hS,trivial,.refl _ _⟩;have hcs:(a.eval z).cells.size=n:=by rw[e2.1,bY];simp[bB,hn]
    have hcl:(a.eval z).cells.toList=aB E (flatten (xv.ev t)):=by rw[e2.1,bY]
    simp only[execOp,hop,e1.1,conc,Instr.storeAt,Instr.sureAddr,storeVar,aI,aF,aN,hcs,d6 hs,ne_eq,not_true_eq_false,if_false,Sem.run_ite,hcl,hrun]
  ·cases hg
 ·cases hc
end
theorem rG(E:cG)(k v:V):∀(es:List (V×V×Nat)) (i:Nat),(gQ k v es i).map (entry E)=(es.map (entry E)).modify i fun e=>{e with key:=conc E k,val:=conc E v}
 |[],i=>by simp[gQ]
 |(k',v',b)::es,0=>by simp[gQ,entry]
 |(k',v',b)::es,i+1=>by simp[gQ,rG E k v es i]
theorem rH(k v:V):∀(es:List (V×V×Nat)) (i:Nat) (e:V×V×Nat),e∈gQ k v es i→e∈es∨(e.1=k∧e.2.1=v)
 |[],i,e,h=>by simp[gQ]at h
 |(k',v',b)::es,0,e,h=>by
  simp only[gQ,be]at h;rcases h with rfl|h
  ·exact .inr ⟨rfl,rfl⟩
  ·exact .inl (by simp[h])
 |(k',v',b)::es,i+1,e,h=>by
  simp only[gQ,be]at h;rcases h with rfl|h
  ·exact .inl (by simp)
  ·rcases rH k v es i e h with h|h
   ·exact .inl (by simp[h])
   ·exact .inr h
theorem rL(x:V×V×Nat):∀es,rK x es=es++[x]
 |[]=>rfl
 |h::r=>by rw[rK,rL x r];rfl
section
variable{P:Program}{E:cG}{F:RO}{M:Mem}{c:Nat→Prop}{w:World}{t:T}{a:Act}
theorem Ad{sh:Sh}{x y:V}(h:iP sh x y=some true):conc E y=conc E x∧Instr.sameBits 10000 (conc E x) (conc E x)=true:=by
 unfold iP at h
 split at h
 ·rename_i k m k' n;rw[e9]at h;by_cases hk:k=k'
  ·rw[aj hk,cond_true,cS]at h;have hm:m=n:=by simpa using h
   subst hk hm;exact⟨rfl,by simp[conc,Instr.sameBits]⟩
  ·rw[ak hk]at h;cases h
 ·rename_i n x m y;rw[gv]at h;have hb:bl n x=bl m y:=by simpa using h
  refine⟨by simp only[conc,ba,hb],?_⟩;have:=zA n x n x;simp only[conc,Instr.sameBits,this,decide_true]
 ·rename_i x y;have hxy:x=y:=by simpa using h
  subst hxy;exact⟨rfl,by simp[conc,Instr.sameBits]⟩
 ·cases h
theorem ag1{v:V}{g:Nat→RC}{x:V}{M':Mem}{c':Nat}(h:onM v .f g= .k x M' c'):∃b,v= .m b∧g b= .k x M' c':=by
 cases v with
 |m b=>exact⟨b,rfl,h⟩
 |_=>cases(show RC.f= .k x M' c' from h)
theorem GF{o:Option bw}{g:List (V×V×Nat)→Nat→RC}{x:V}{M':Mem}{c':Nat}(h:oN o .f g= .k x M' c'):∃es k,o=some (.map es k)∧g es k= .k x M' c':=by
 cases o with
 |none=>cases(show RC.f= .k x M' c' from h)
 |some b=>cases b with
  |map es k=>exact⟨es,k,rfl,h⟩
  |_=>cases(show RC.f= .k x M' c' from h)
theorem pV(M:Mem)(c b:Nat)(blk:bw)(v:V):Nd M c b blk v= .k v (M.set b blk) c:=Tr.force_eq _ _
theorem rF{r:Nat}{o o':Obj}(h:w.heap[r]?=some o)(hn:∀x y z,o≠ .cells x y z):(setObj r o').run P w= .ok () {w with heap:=w.heap.setIfInBounds r o'}:=by
 simp only[setObj,Sem.run,h]
theorem af1(h:Cx P E F M c w t a){ty kt et:TypeId}(hu:P.underlying ty=some (.map kt et)){sh:Sh}(hks:pc P kt=some sh){b:Nat}{es:List (V×V×Nat)}{clock:Nat}(hM:M.get b=some (.map es clock)){k v x:V}(hbk:bd c k)(hbv:bd c v){M':Mem}{ct ct':Nat}
 (he:tf M ct b es clock k v (gJ sh k es 0)= .k x M' ct'):∃w',(Instr.mapUpdate ty (.map (some (E.ρ b))) (conc E k) (conc E v)).run P w= .ok () w'∧jH P F E M c w E M' c w'∧x=undef∧ct'=ct:=by
 obtain⟨d,hd,hkk⟩:=r5 hks
 obtain⟨ho,hbd⟩:=h.map (au hM)
 unfold tf at he
 split at he
 ·rename_i i v0 hf;rw[pV]at he;injection he with g1 g2 g3
  subst g1 g2 g3;have hfk:=ij (P:=P) (w:=w) (E:=E) hd hkk hf;obtain⟨_,k',b',hm,hkt⟩:=(kO (E:=E) hkk es 0 _ hf).2 (i,v0) rfl;obtain⟨hke,hsb⟩:=Ad (E:=E) hkt;have hget:((es.map (entry E)).toArray[i]?).map (·.key)=some (conc E k):=by
   simp only[Nat.sub_zero]at hm;simp[hm,entry,hke]
  refine⟨_,?_,h.rel.write b _ (.map (gQ k v es i) clock) hM (.map (((es.map (entry E)).modify i fun e=>{e with key:=conc E k,val:=conc E v}).toArray) clock) ?_ {w with heap:=w.heap.setIfInBounds (E.ρ b) (.map (((es.map (entry E)).modify i fun e=>{e with key:=conc E k,val:=conc E v}).toArray) clock)} rfl rfl rfl rfl ?_,rfl,rfl⟩
  ·have hso:=rF (P:=P) (w:=w) (o':= .map (((es.map (entry E)).modify i fun e=>{e with key:=conc E k,val:=conc E v}).toArray) clock) ho (by intros;simp);simp only[Instr.mapUpdate,aI,aC hu,aN,dT ho,eV hd hkk,List.toList_toArray,hfk,Option.map_some,hget,Option.getD_some,Instr.keyThatStays,hsb,if_true,Sem.run_ite,aF];rw[←hso]
   congr 2
   simp
  ·intro e hemem;rcases rH k v es i e hemem with h1|⟨h1,h2⟩
   ·exact hbd e h1
   ·exact⟨h1▸hbk,h2▸hbv⟩
  ·show _=_;rw[rG]
 ·rename_i hf;rw[bp,pV]at he;injection he with g1 g2 g3
  subst g1 g2 g3;have hfk:=ij (P:=P) (w:=w) (E:=E) hd hkk hf;refine⟨_,?_,h.rel.write b _ (.map (rK (k,v,clock) es) (clock+1)) hM (.map ((es.map (entry E)).toArray.push {key:=conc E k,val:=conc E v,born:=clock}) (clock+1)) ?_ {w with heap:=w.heap.setIfInBounds (E.ρ b) (.map ((es.map (entry E)).toArray.push {key:=conc E k,val:=conc E v,born:=clock}) (clock+1))} rfl rfl rfl rfl ?_,rfl,rfl⟩
  ·have hso:=rF (P:=P) (w:=w) (o':= .map ((es.map (entry E)).toArray.push {key:=conc E k,val:=conc E v,born:=clock}) (clock+1)) ho (by intros;simp);simp only[Instr.mapUpdate,aI,aC hu,aN,dT ho,eV hd hkk,List.toList_toArray,hfk,Option.map_none,hso]
  ·intro e hemem;rw[rL,List.mem_append,List.mem_singleton]at hemem;rcases hemem with h1|rfl
   ·exact hbd e h1
   ·exact⟨hbk,hbv⟩
  ·show _=_;rw[rL];simp[entry]
 ·cases he
theorem oY(h:Cx P E F M c w t a){o:Oper}{ty:TypeId}{m y z:Operand}(hop:o.op= .mapUpdate ty m y z∨o.op= .insert ty m y z){eo:EO}(hc:ax P o.op=some (.e eo)){k:Kn}(hk:k.F=F){v:V}{M':Mem}{ct ct':Nat}(he:ew eo k M ct t= .k v M' ct'):yy P F E M c ct w a o v M' ct':=by
 have hc':(match P.underlying ty,aZ m,aZ y,aZ z with
  |some (.map kt _),some m,some k,some v=>(pc P kt).map fun sh=>OK.e (.mu sh m k v)
  |_,_,_,_=>none)=some (.e eo):=by rcases hop with hop|hop<;>(rw[hop]at hc;exact hc)
 split at hc'
 ·rename_i kt et xm xk xv hu h1 h2 h3;obtain⟨sh,hks,e⟩:=bf.1 hc';obtain rfl:EO.mu sh xm xk xv=eo:=by simpa using e
  obtain⟨b,hv,hg⟩:=ag1 (show onM (xm.ev t) .f (fun b=>oN (M.get b) .f fun es clock=>tf M ct b es clock (xk.ev t) (xv.ev t) (gJ sh (xk.ev t) es 0))= .k v M' ct' from he);obtain⟨es,clock,hM,hg⟩:=GF hg;have e1:=h.ev h1;have e2:=h.ev h2;have e3:=h.ev h3;rw[hv]at e1;obtain⟨w',hrun,hS,rfl,rfl⟩:=af1 h hu hks hM e2.2 e3.2 hg;refine⟨E,w',.skip,c,?_,.inr ⟨rfl,rfl⟩,hS,trivial,.refl _ _⟩;rcases hop with hop|hop<;>simp only[execOp,hop,e1.1,e2.1,e3.1,conc,aI,hrun,aN,aF]
 ·cases hc'
end
section
variable{P:Program}{E:cG}{F:RO}{M:Mem}{c:Nat→Prop}{w:World}{t:T}{a:Act}
theorem Lr(h:Cx P E F M c w t a){o:Oper}{cl:Call}(hop:o.op= .call cl)(hb:cl.callee= .builtin .delete){m y:Operand}{ty:TypeId}{ts:List TypeId}(hargs:cl.args.toList=[m,y])(htys:cl.argTypes.toList=ty::ts){kt et:TypeId}(hu:P.underlying ty=some (.map kt et)){sh:Sh}(hks:pc P kt=some sh)
 {xm xk:X} (h1:aZ m=some xm) (h2:aZ y=some xk) {k:Kn} {v:V} {M':Mem} {ct ct':Nat} (he:ew (.del sh xm xk) k M ct t= .k v M' ct'):yy P F E M c ct w a o v M' ct':=by
 cases(show RC.f=RC.k v M' ct' from he)
theorem ad0(h:Cx P E F M c w t a){o:Oper}{s:TypeId}{y:Operand}(hop:o.op= .convert s s y){el:TypeId}(hu:P.underlying s=some (.slice el))(hel:P.underlying el=some (.int .u8)){x:X}(hx:aZ y=some x)
 {k:Kn} {v:V} {M':Mem} {ct ct':Nat} (he:ew (.ms x) k M ct t= .k v M' ct'):yy P F E M c ct w a o v M' ct':=by
 cases(show RC.f=RC.k v M' ct' from he)
end
section
variable{P:Program}{E:cG}{F:RO}{M:Mem}{c:Nat→Prop}{w:World}{t:T}{a:Act}
theorem Cx.world{w':World}(h:Cx P E F M c w t a)(hh:w'.heap=w.heap):Cx P E F M c w' t a:=⟨h.rel.world hh,h.glob,h.big,h.tr,h.bt⟩
theorem jx.drop(h:jx P E F M c w)(b:Nat):jH P F E M c w E (M.del b) c w:=by
 have hl:∀x y,look F (M.del b) x=some y→look F M x=some y∨(x=b∧bq F x=some y):=by
  intro x y hx;by_cases e:x=b
  ·right;refine⟨e,?_⟩
   rwa [aT (by rw[Tr.get_del,ac e])]at hx
  ·left
   rwa [cz (M:=M) (by rw[Tr.get_del,ab e])]at hx
 have hl':∀x y,look F (M.del b) x=some y→look F M x=some y:=by
  intro x y hx;rcases hl x y hx with h1|⟨h1,h2⟩
  ·exact h1
  ·rw[aT (h.apart x (by rw[h2];rfl))];exact h2
 have hs:∀x,(look F (M.del b) x).isSome→(look F M x).isSome:=by
  intro x hx;obtain⟨y,hy⟩:=bz.1 hx;rw[hl' x y hy];rfl
 refine⟨.refl c E,fun _ h=>h,⟨fun x y hx=>h.has x y (hl' x y hx),fun x x' hx hx' e=>h.inj x x' (hs x hx) (hs x' hx') e,fun x hx=>?_⟩,fun x hx=>?_,fun _ _ _=>rfl,ah _,rfl,rfl,rfl⟩
 ·rw[Tr.get_del];split
  ·rfl
  ·exact h.apart x hx
 ·rw[Tr.get_del]at hx;split at hx
  ·cases hx
  ·exact .inl ⟨x,hx,rfl⟩
theorem jx.take(h:jx P E F M c w)(b n:Nat)(blk blk':bw)(hb:M.get b=some blk)(o':Obj)(β' κ':Nat)(c':Nat→Prop)(hn:¬c n)(hn':c' n)(hcc:∀b,c b→c' b)
 (hbd:ep c' blk') (w':World) (hh:w'.heap=w.heap.setIfInBounds (E.ρ b) o') (hos:w'.os=w.os) (hout:w'.output=w.output) (htape:w'.tape=w.tape)
 (hr:∀E':cG,mD c E E'→E'.ρ n=E.ρ b→E'.β n=β'→E'.κ n=κ'→dP P E' n blk' o'):
 ∃E',jH P F E M c w E' ((M.del b).set n blk') c' w'∧E'.ρ n=E.ρ b∧E'.β n=β'∧E'.κ n=κ':=by
 let E':cG:=⟨fun x=>if x=n then E.ρ b else E.ρ x,fun x=>if x=n then β' else E.β x,fun x=>if x=n then κ' else E.κ x⟩
 have he:mD (· ≠n) E E':=⟨fun x hx=>ab hx,fun x hx=>ab hx,fun x hx=>ab hx⟩
 have hec:mD c E E':=he.sub fun x hx e=>hn (e▸hx)
 have hρ:E'.ρ n=E.ρ b:=ac rfl
 have hbc:=(h.has b blk (au hb)).1
 have hbn:b≠n:=fun e=>hn (e▸hbc)
 have hlt:E.ρ b<w.heap.size:=by
  obtain⟨_,_,o,ho,_⟩:=h.has b blk (au hb);exact(Array.getElem?_eq_some_iff.1 ho).1
 have hold:∀x y,look F ((M.del b).set n blk') x=some y→x≠n→x≠b∧look F M x=some y:=by
  intro x y hx hne;rw[cz (M:=M.del b) (by rw[Tr.get_set,ab hne])]at hx;by_cases e:x=b
  ·exfalso;rw[aT (by rw[Tr.get_del,ac e])]at hx;have:=h.apart x (by rw[hx];rfl);rw[e,hb]at this;cases this
  ·exact⟨e,by rwa [cz (M:=M) (by rw[Tr.get_del,ab e])]at hx⟩
 refine⟨E',⟨hec,hcc,⟨?_,?_,?_⟩,?_,?_,?_,hos,hout,htape⟩,hρ,ac rfl,ac rfl⟩
 ·intro x y hx;by_cases hxn:x=n
  ·subst hxn;rw[au (by rw[Tr.get_set,ac rfl])]at hx;obtain rfl:blk'=y:=by simpa using hx
   exact⟨hn',hbd,o',by rw[hρ,hh];simp[hlt],hr E' hec hρ (ac rfl) (ac rfl)⟩
  ·obtain⟨hxb,hx'⟩:=hold x y hx hxn;obtain⟨h1,h2,o,h3,h4⟩:=h.has x y hx';refine⟨hcc x h1,fq hcc y h2,o,?_,h4.ext hec h1 h2⟩;have hne:E.ρ b≠E.ρ x:=fun e'=>hxb (h.inj b x (by rw[au hb];rfl) (by rw[hx'];rfl) e').symm;rw[hec.ρ x h1,hh,Array.getElem?_setIfInBounds_ne hne];exact h3
 ·have key:∀x y,look F ((M.del b).set n blk') x=some y→x≠n→E'.ρ x≠E.ρ b:=by
   intro x y hx hxn e;obtain⟨hxb,hx'⟩:=hold x y hx hxn;rw[hec.ρ x (h.has x y hx').1]at e;exact hxb (h.inj x b (by rw[hx'];rfl) (by rw[au hb];rfl) e)
  intro x x' hx hx' e;obtain⟨y,hy⟩:=bz.1 hx;obtain⟨y',hy'⟩:=bz.1 hx';by_cases h1:x=n
  ·by_cases h2:x'=n
   ·rw[h1,h2]
   ·rw[h1,hρ]at e;exact absurd e.symm (key x' y' hy' h2)
  ·by_cases h2:x'=n
   ·rw[h2,hρ]at e;exact absurd e (key x y hy h1)
   ·obtain⟨_,g1⟩:=hold x y hy h1;obtain⟨_,g2⟩:=hold x' y' hy' h2;rw[hec.ρ x (h.has x y g1).1,hec.ρ x' (h.has x' y' g2).1]at e;exact h.inj x x' (by rw[g1];rfl) (by rw[g2];rfl) e
 ·intro x hx;have hM:=h.apart x hx;obtain⟨y,hy⟩:=bz.1 hx;have hxc:=(h.has x y (by rw[aT hM];exact hy)).1;rw[Tr.get_set,ab (fun e:x=n=>hn (e▸hxc)),Tr.get_del];split
  ·rfl
  ·exact hM
 ·intro x hx;by_cases hxn:x=n
  ·exact .inl ⟨b,by rw[hb];rfl,by rw[hxn,hρ]⟩
  ·rw[Tr.get_set,ab hxn,Tr.get_del]at hx;split at hx
   ·cases hx
   ·obtain⟨y,hy⟩:=bz.1 hx;exact .inl ⟨x,hx,(hec.ρ x (h.has x y (au hy)).1).symm⟩
 ·intro r _ hnr;have hne:E.ρ b≠r:=hnr b (by rw[hb];rfl);rw[hh,Array.getElem?_setIfInBounds_ne hne]
 ·rw[hh];simp
def kF(P:Program)(ats:Array TypeId):Prop:=(∃t2 d,ats[1]?=some t2∧P.underlying t2=some d∧ ∀k,d≠ .int k)∨ats[1]?=none
theorem pp{ats:Array TypeId}{rty ty e:TypeId}{i:TypeInfo}{z:Value}(hat:ats[0]?=some ty)(hu:P.underlying ty=some (.slice e))(hzs:kF P ats)(hi:P.info? e=some i)(hz:i.zero=some z)
 {X:Value} {base:Option Addr} {sLen sCap n:Nat} {old new:Array Value} (hlen:(Builtin.lenOf X).run P w= .ok n w) (hold:(Builtin.firstCells i.size sLen (.slice base sLen sCap)).run P w.drew= .ok old w.drew)
 (hnew:(Builtin.firstCells i.size n X).run P w.drew= .ok new w.drew) (hg:sCap<sLen+n) (h63:sLen+n≤9223372036854775807) (h48:Builtin.nextslicecap (sLen+n) sCap*i.bytes≤281474976710656):
 (Builtin.append_ ats rty #[.slice base sLen sCap,X]).run P w= .ok (.slice (some ⟨w.heap.size,0,none⟩) (sLen+n) (grownCap w (sLen+n) sCap e))
  (w.drew.alloc (.cells (old++new++Builtin.zeroCells z.cells (grownCap w (sLen+n) sCap e-(sLen+n))) e)):=by
 have hn:¬(sLen+n≤sCap):=by omega
 have h63':¬(9223372036854775807<((sLen:Int)+(n:Int))):=by omega
 have h48':¬(281474976710656<Builtin.nextslicecap (sLen+n) sCap*i.bytes):=by omega
 rcases hzs with⟨t2,d,h1,h2,h3⟩|h1
 ·have hd:(d matches .int _)=false:=by cases d<;>first|rfl|exact absurd rfl (h3 _)
  simp[Builtin.append_,hat,h1,run_underlying hu,run_underlying h2,hd,Go.sizeOf,typeInfo,zeroValue,hi,hz,hlen,hn,h63',h48',Question.forced,hold,hnew,newRow,grownCap]
 ·simp[Builtin.append_,hat,h1,run_underlying hu,Go.sizeOf,typeInfo,zeroValue,hi,hz,hlen,hn,h63',h48',Question.forced,hold,hnew,newRow,grownCap]
theorem ix{ats:Array TypeId}{rty ty e:TypeId}{i:TypeInfo}(hat:ats[0]?=some ty)(hu:P.underlying ty=some (.slice e))(hzs:kF P ats)(hi:P.info? e=some i)
 {X:Value} {ad:Addr} {sLen sCap n:Nat} {new:Array Value} {w':World} (hlen:(Builtin.lenOf X).run P w= .ok n w)
 (hnew:(Builtin.firstCells i.size n X).run P w= .ok new w) (hg:sLen+n≤sCap) (hst:(storeCells (ad.add (sLen*i.size)) new.toList).run P w= .ok () w'):
 (Builtin.append_ ats rty #[.slice (some ad) sLen sCap,X]).run P w= .ok (.slice (some ad) (sLen+n) sCap) w':=by
 rcases hzs with⟨t2,d,h1,h2,h3⟩|h1
 ·have hd:(d matches .int _)=false:=by cases d<;>first|rfl|exact absurd rfl (h3 _)
  simp[Builtin.append_,hat,h1,run_underlying hu,run_underlying h2,hd,Go.sizeOf,typeInfo,hi,hlen,hg,hnew,hst]
 ·simp[Builtin.append_,hat,h1,run_underlying hu,Go.sizeOf,typeInfo,hi,hlen,hg,hnew,hst]
theorem pq{ats:Array TypeId}{rty ty e:TypeId}{i:TypeInfo}(hat:ats[0]?=some ty)(hu:P.underlying ty=some (.slice e))(hzs:kF P ats)(hi:P.info? e=some i)
 {X:Value} {base:Option Addr} {sLen sCap:Nat} (hlen:(Builtin.lenOf X).run P w= .ok 0 w)
 (hnew:(Builtin.firstCells i.size 0 X).run P w= .ok #[] w) (hg:sLen≤sCap):
 (Builtin.append_ ats rty #[.slice base sLen sCap,X]).run P w= .ok (.slice base sLen sCap) w:=by
 rcases hzs with⟨t2,d,h1,h2,h3⟩|h1
 ·have hd:(d matches .int _)=false:=by cases d<;>first|rfl|exact absurd rfl (h3 _)
  cases base<;>simp[Builtin.append_,hat,h1,run_underlying hu,run_underlying h2,hd,Go.sizeOf,typeInfo,hi,hlen,hg,hnew,storeCells]
 ·cases base<;>simp[Builtin.append_,hat,h1,run_underlying hu,Go.sizeOf,typeInfo,hi,hlen,hg,hnew,storeCells]
theorem Ns(h:Cx P E F M c w t a){sz n:Nat}{y:V}{new:List V}(hs:eB F M sz y=some (n,new)):
 (Builtin.lenOf (conc E y)).run P w= .ok n w∧(Builtin.firstCells sz n (conc E y)).run P w= .ok (aB E new).toArray w∧eU c new:=by
 unfold eB at hs
 split at hs
 ·rename_i m x;rw[bI]at hs;by_cases h1:sz=1
  ·rw[aj h1,cond_true]at hs;simp only[Option.some.injEq,Prod.mk.injEq]at hs;obtain⟨rfl,rfl⟩:=hs;refine⟨by simp[conc,Builtin.lenOf,gb],?_,mK _ _⟩;simp only[conc,Builtin.firstCells,aF,jS]
   congr 1
   have he:(ba m x).extract 0 m=ba m x:=by
    apply ByteArray.ext;rw[ByteArray.data_extract];have h2:=Array.extract_size (xs:=(ba m x).data);have h3:(ba m x).data.size=m:=gb m x
    rwa [h3]at h2
   rw[he];simp[ba]
  ·rw[ak h1]at hs;cases hs
 ·rename_i y' hne;split at hs
  ·rename_i k hk;unfold RB at hs;split at hs
   ·rename_i vs r hr;simp only[Option.some.injEq,Prod.mk.injEq]at hs;obtain⟨rfl,rfl⟩:=hs;obtain⟨⟨ad,len,cap,hcv,hld⟩,hb,hl⟩:=h.readL hr;rcases fx (E:=E) hk with⟨ad',cap',hcv'⟩|⟨x,hx⟩
    ·rw[hcv]at hcv';injection hcv' with e1 e2 e3
     subst e1 e2 e3;rw[hcv];refine⟨by simp[Builtin.lenOf],?_,hb⟩;cases ad with
     |none=>simp only at hld;subst hld;simp[Builtin.firstCells,aB]
     |some ad=>simp only[Builtin.firstCells];exact hld
    ·exact absurd hx (hne _ _)
   ·cases hs
  ·cases hs
theorem OL{e sz:Nat}{i:TypeInfo}(hi:P.info? e=some i)(h:Sj P e sz=true):∃z,i.zero=some z∧z.cells.size=sz:=by
 unfold Sj at h
 split at h
 ·rename_i z hz;unfold jG at hz;rw[hi]at hz;obtain⟨zv,h1,h2⟩:=aQ.1 hz;have h1':i.zero=some zv:=by simpa using h1
  have:=(ky ⟨id,id,id⟩ (fun _=>True) _ _ _ h2).1;refine⟨zv,h1',?_⟩;rw[←this,bY,←cJ];simp[bB]
  simpa using h
 ·cases h
theorem sa(zero:Array Value)(n:Nat):(Builtin.zeroCells zero n).size=n*zero.size:=by simp[Builtin.zeroCells]
theorem eW(E:cG)(l r:List V):aB E (l++r)=aB E l++aB E r:=by simp[bB]
theorem ft{l r:List V}(h:eU c l)(h':eU c r):eU c (l++r):=by
 rw[kK]at *
 intro v hv
 rcases List.mem_append.1 hv with hv|hv
 ·exact h v hv
 ·exact h' v hv
theorem EE{E':cG}{b e len fz cap:Nat}{str:Bool}{vs:List V}{zero:Array Value}(he:mD c E E')(hb:eU c vs)(hβ:E'.β b=0)(hκ:E'.κ b=cap-len)(hl:vs.length=len*P.cellsOf e)(hc:len≤cap)(hz:zero.size=P.cellsOf e):
 dP P E' b (.cells e vs.length false fz str [] (bG vs 0 .e)) (.cells ((aB E vs).toArray++Builtin.zeroCells zero (cap-len)) e):=by
 refine⟨_,_,rfl,⟨fun k v hk=>?_,?_,?_,fun _=> .inl rfl⟩⟩
 ·have hk':=kN hk;have hlt:k<vs.length:=(List.getElem?_eq_some_iff.1 hk').1;rw[hβ,Nat.zero_add,eu he v (eD hb hk'),Array.getElem?_append_left (by simpa [bB]using hlt)];simp[eI hk']
 ·simp only[bn,if_false];rw[Array.size_append,sa,hβ,hκ,hz];simp[bB]
 ·intro o _ ho hf;have h1:=hf.1;have h2:=hf.2;simp only at h1 h2;omega
end
section
variable{P:Program}{E:cG}{F:RO}{M:Mem}{c:Nat→Prop}{w:World}{t:T}{a:Act}
abbrev wc(P:Program)(F:RO)(E:cG)(M:Mem)(c:Nat→Prop)(ct:Nat)(w:World)(s:Sem Value)(v:V)(M':Mem)(ct':Nat):Prop:=
 ∃E' w' c',s.run P w= .ok (conc E' v) w'∧jH P F E M c w E' M' c' w'∧bd c' v∧gD c ct c' ct'
theorem MV{len by_:Nat}(h:kr len by_=true):(3*len+2000)*by_≤281474976710656∧len≤1099511627776:=by
 unfold kr at h
 rw[bW,bW]at h
 simpa using h
theorem qX{M0:Mem}{ct e by_ len fz:Nat}{str:Bool}{vs:List V}{v:V}{M':Mem}{ct':Nat}(h:fV M0 ct e by_ len fz str vs= .k v M' ct'):
 kr len by_=true∧v= .u ct 0 len 0 len∧M'=M0.set ct (.cells e vs.length false fz str [] (bG vs 0 .e))∧ct'=ct+1:=by
 unfold fV at h
 cases hr:kr len by_ with
 |false=>rw[hr]at h;cases h
 |true=>
  rw[hr,cond_true,Tr.force_eq,bp,bp]at h;injection h with h1 h2 h3
  exact⟨rfl,h1.symm,h2.symm,h3.symm⟩
theorem ka(c:Nat→Prop)(ct:Nat):gD c ct (fun b=>c b∨b=ct) (ct+1):=⟨by omega,fun b hb=>hb.elim .inl fun h=> .inr (by omega)⟩
theorem kQ(h:Cx P E F M c w t a){ct:Nat}(hf:eQ c ct){M0:Mem}(hM0:jH P F E M c w E M0 c w){ats:Array TypeId}{rty ty e:TypeId}{i:TypeInfo}(hat:ats[0]?=some ty)(hu:P.underlying ty=some (.slice e))(hzs:kF P ats)(hi:P.info? e=some i)(hzo:Sj P e i.size=true)
 {X:Value} {base:Option Addr} {sLen sCap n fz:Nat} {str:Bool} {old new:List V} (hlen:(Builtin.lenOf X).run P w= .ok n w) (hold:(Builtin.firstCells i.size sLen (.slice base sLen sCap)).run P w.drew= .ok (aB E old).toArray w.drew)
 (hnew:(Builtin.firstCells i.size n X).run P w.drew= .ok (aB E new).toArray w.drew) (hbo:eU c old) (hbn:eU c new) (hlo:old.length=sLen*i.size) (hln:new.length=n*i.size) (hg:sCap<sLen+n)
 {v:V} {M':Mem} {ct':Nat} (hgr:fV M0 ct e i.bytes (sLen+n) fz str (old++new)= .k v M' ct'):
 wc P F E M c ct w (Builtin.append_ ats rty #[.slice base sLen sCap,X]) v M' ct':=by
 obtain⟨hr,rfl,rfl,rfl⟩:=qX hgr
 obtain⟨hr1,hr2⟩:=MV hr
 obtain⟨z,hz,hzc⟩:=OL hi hzo
 have h2:=nextslicecap_le hg
 have h48:Builtin.nextslicecap (sLen+n) sCap*i.bytes≤281474976710656:=by
  have h3:Builtin.nextslicecap (sLen+n) sCap*i.bytes≤(3*(sLen+n)+2000)*i.bytes:=Nat.mul_le_mul_right _ (by omega);omega
 have hrun:=pp (w:=w) (rty:=rty) hat hu hzs hi hz hlen hold hnew hg (by omega) h48
 have hcap:sLen+n≤grownCap w (sLen+n) sCap e:=by simp[grownCap,Question.cut]
 have hco:P.cellsOf e=i.size:=by unfold Program.cellsOf;rw[hi];rfl
 have hbd:=ft hbo hbn
 have harr:(aB E old).toArray++(aB E new).toArray=(aB E (old++new)).toArray:=by rw[eW];simp
 rw[harr]at hrun
 obtain⟨E',hS,hE,hρ,hβ,hκ⟩:=hM0.rel.alloc (.cells e (old++new).length false fz str [] (bG (old++new) 0 .e)) (.cells ((aB E (old++new)).toArray++Builtin.zeroCells z.cells (grownCap w (sLen+n) sCap e-(sLen+n))) e) ct
  (grownCap w (sLen+n) sCap e-(sLen+n)) (fun b=>c b∨b=ct) (hf ct (ah _)) (.inr rfl) (fun _ h=> .inl h) (pQ hbd fun _ h=> .inl h)
  (w.drew.alloc (.cells ((aB E (old++new)).toArray++Builtin.zeroCells z.cells (grownCap w (sLen+n) sCap e-(sLen+n))) e)) rfl rfl rfl rfl
  (fun E' he _ hβ hκ=>EE he hbd hβ hκ (by rw[aO,hlo,hln,hco,Nat.add_mul]) hcap (by rw[hzc,hco]))
 refine⟨E',_,_,?_,hM0.trans hS,.inr rfl,ka c ct⟩
 rw[hrun]
 simp only[conc,hρ,hβ,hκ]
 congr 2
 omega
theorem wQ(h:Cx P E F M c w t a){ct:Nat}(hf:eQ c ct){b n' fz o kn sLen n:Nat}{str:Bool}{d:List V}{cs:T}{e:TypeId}{i:TypeInfo}(hi:P.info? e=some i)(hM:M.get b=some (.cells e n' false fz str d cs))
 (hn':n'=o+kn*i.size) (hfz:fz≤o+sLen*i.size) {old new:List V} (hold:∀j v,old[j]?=some v→cell n' d cs (o+j)=some v) (hbo:eU c old) (hbn:eU c new) (h1:aE new=true) (hlo:old.length=sLen*i.size) (hln:new.length=n*i.size)
 (hle:sLen+n≤kn+E.κ b) {by_:Nat} {v:V} {M':Mem} {ct':Nat} (hgr:fV (M.del b) ct e by_ (sLen+n) fz str (old++new)= .k v M' ct'):
 ∃E' w' c',(storeCells ⟨E.ρ b,E.β b+o+sLen*i.size,none⟩ (aB E new)).run P w= .ok () w'∧jH P F E M c w E' M' c' w'∧bd c' v∧gD c ct c' ct'∧conc E' v= .slice (some ⟨E.ρ b,E.β b+o,none⟩) (sLen+n) (kn+E.κ b):=by
 obtain⟨hr,rfl,rfl,rfl⟩:=qX hgr
 obtain⟨arr,fr,ho,hrel⟩:=h.cells (au hM)
 have hco:P.cellsOf e=i.size:=by unfold Program.cellsOf;rw[hi];rfl
 have hsz:=hrel.size
 simp only[bn,if_false]at hsz
 rw[hco]at hsz
 have hlen:(aB E new).length=n*i.size:=by simp[bB,hln]
 have hone:∀v∈aB E new,v.oneCell'=true:=by
  intro v hv;rw[bB,List.mem_map]at hv;obtain⟨x,hx,rfl⟩:=hv;exact r0 (lN h1 x hx)
 have hmul:(sLen+n)*i.size≤(kn+E.κ b)*i.size:=Nat.mul_le_mul_right _ hle
 rw[Nat.add_mul,Nat.add_mul]at hmul
 have hrun:=gU (P:=P) (E.ρ b) (E.β b+o+sLen*i.size) e fr (aB E new) 0 arr w ho (fun k hk hk'=>hrel.free k (by omega) hk') (by rw[hlen];omega) hone
 have hsp:=mR (E.β b+o+sLen*i.size) (aB E new) 0 arr
 have hbd:=ft hbo hbn
 obtain⟨E',hS,hρ,hβ,hκ⟩:=h.rel.take b ct _ (.cells e (old++new).length false fz str [] (bG (old++new) 0 .e)) hM (.cells (eH arr (E.β b+o+sLen*i.size) (aB E new) 0) e fr) (E.β b+o) (kn+E.κ b-(sLen+n)) (fun x=>c x∨x=ct)
  (hf ct (ah _)) (.inr rfl) (fun _ h=> .inl h) (pQ hbd fun _ h=> .inl h) {w with heap:=w.heap.setIfInBounds (E.ρ b) (.cells (eH arr (E.β b+o+sLen*i.size) (aB E new) 0) e fr)} rfl rfl rfl rfl (fun E' he hρ hβ hκ=>by
   refine⟨_,_,rfl,⟨fun k v hk=>?_,?_,?_,?_⟩⟩
   ·have hk':=kN hk;have hlt:k<(old++new).length:=(List.getElem?_eq_some_iff.1 hk').1;rw[aO,hlo,hln]at hlt;rw[hβ,eu he v (eD hbd hk')];unfold eH;rw[hsp.2 (E.β b+o+k) (by omega),hlen,aW];by_cases hko:k<sLen*i.size
    ·rw[ab (by omega)];rw[List.getElem?_append_left (by omega)]at hk';rw[Nat.add_assoc];exact hrel.cell (o+k) v (hold k v hk')
    ·rw[ac (by omega),show E.β b+o+k-(E.β b+o+sLen*i.size)=k-old.length by omega];rw[List.getElem?_append_right (by omega)]at hk';exact eI hk'
   ·simp only[bn,if_false];unfold eH;rw[hsp.1,hβ,hκ,hco,aO,hlo,hln,hsz,Nat.sub_mul,Nat.add_mul,Nat.add_mul];omega
   ·unfold eH;rw[hsp.1,hβ];intro k hk hk';exact hrel.free k (by omega) hk'
   ·intro hs;rw[hβ];rcases hrel.plain hs with hp|⟨hp,hp'⟩
    ·exact .inl hp
    ·exact .inr ⟨hp,by omega⟩)
 refine⟨E',_,_,hrun,hS,.inr rfl,ka c ct,?_⟩
 simp only[conc,hρ,hβ,hκ]
 congr 1
 omega
theorem lH{b ty o e fz:Nat}{str:Bool}(h:eZ M b ty o e=some (fz,str)):∃n d cs,M.get b=some (.cells ty n false fz str d cs)∧n=e∧fz≤o∧o≤e:=by
 unfold eZ at h
 split at h
 ·rename_i ty' n fz' str' d cs hM;rw[bI,bI,bW,bW]at h;by_cases hc:(decide (ty'=ty)&&decide (n=e)&&decide (fz'≤o)&&decide (o≤e))=true
  ·rw[hc,cond_true]at h;simp only[Option.some.injEq,Prod.mk.injEq]at h;obtain⟨rfl,rfl⟩:=h;simp only[aX,decide_eq_true_eq]at hc;obtain⟨⟨⟨rfl,rfl⟩,h3⟩,h4⟩:=hc;exact⟨_,_,_,hM,rfl,h3,h4⟩
  ·rw[Bool.not_eq_true]at hc;rw[hc]at h;cases h
 ·cases h
theorem qB{ct b o sz len n:Nat}{new:List V}{f:Nat→V}{v:V}{M':Mem}{ct':Nat}(h:wq ct b o sz len n M new f= .k v M' ct'):bN M b (o+len*sz) new=some M'∧v=f (len+n)∧ct'=ct:=by
 unfold wq at h
 split at h
 ·rename_i M'' hs;rw[bp]at h;injection h with h1 h2 h3
  subst h2;exact⟨hs,h1.symm,h3.symm⟩
 ·cases h
theorem p8{M0:Mem}{ct e by_ len fz:Nat}{str:Bool}{new:List V}{r:Option (List V×Option Nat)}{v:V}{M':Mem}{ct':Nat}(h:o4 M0 ct e by_ len fz str new r= .k v M' ct'):∃old q,r=some (old,q)∧fV M0 ct e by_ len fz str (old++new)= .k v M' ct':=by
 unfold o4 at h
 split at h
 ·exact⟨_,_,rfl,h⟩
 ·cases h
theorem AK{sz n b o n' ty fz:Nat}{ex str:Bool}{d:List V}{cs:T}{vs:List V}{r:Option Nat}(hM:M.get b=some (.cells ty n' ex fz str d cs))(h:readB F M sz n b o=some (vs,r)):∀j v,vs[j]?=some v→cell n' d cs (o+j)=some v:=by
 unfold Ev.readB at h
 rw[bI]at h
 by_cases hn:n=0
 ·rw[aj hn,cond_true]at h;simp only[Option.some.injEq,Prod.mk.injEq]at h;obtain⟨rfl,rfl⟩:=h;intro j v hj;simp at hj
 ·rw[ak hn,cond_false]at h;split at h
  ·rename_i l hl;simp only[Option.some.injEq,Prod.mk.injEq]at h;obtain⟨rfl,rfl⟩:=h;obtain⟨ty',m,ex',fz',str',d',cs',hb,hg⟩:=ga (f:=none) hl (by simp);rw[au hM]at hb;injection hb with hb
   injection hb with h1 h2 h3 h4 h5 h6 h7
   subst h2 h6 h7;exact(ig _ _ _ hg).2
  ·cases h
theorem jB{sz n b o len cap:Nat}(h:Cx P E F M c w t a){old:List V}{r:Option Nat}(hr:readB F M sz n b o=some (old,r)):(Builtin.firstCells sz n (.slice (some ⟨E.ρ b,E.β b+o,none⟩) len cap)).run P w.drew= .ok (aB E old).toArray w.drew:=by
 simp only[Builtin.firstCells]
 exact((h.world (w':=w.drew) rfl).readB hr).1
theorem PM(h:Cx P E F M c w t a){ct:Nat}(hf:eQ c ct){ats:Array TypeId}{rty ty e:TypeId}{i:TypeInfo}(hat:ats[0]?=some ty)(hu:P.underlying ty=some (.slice e))(hzs:kF P ats)(hi:P.info? e=some i)(hpos:i.size≠0)(hzo:Sj P e i.size=true)
 {x y:V} {n:Nat} {new:List V} (hs:eB F M i.size y=some (n,new)) (hbx:bd c x) (h1:aE new=true) (hln:new.length=n*i.size)
 {v:V} {M':Mem} {ct':Nat} (ha:app F M ct e i.size i.bytes x n new= .k v M' ct'):wc P F E M c ct w (Builtin.append_ ats rty #[conc E x,conc E y]) v M' ct':=by
 obtain⟨hlen,hfc,hbn⟩:=Ns h hs
 obtain⟨_,hfcd,_⟩:=Ns (h.world (w':=w.drew) rfl) hs
 unfold app at ha
 rw[bI]at ha
 by_cases hn0:n=0
 ·subst hn0;rw[aj rfl,cond_true]at ha;have hnil:new=[]:=List.eq_nil_of_length_eq_zero (by omega);subst hnil;cases hlk:tB x with
  |false=>rw[hlk]at ha;cases ha
  |true=>
   rw[hlk,cond_true]at ha;injection ha with g1 g2 g3
   subst g1 g2 g3;have hsl:∃base sLen sCap,conc E x= .slice base sLen sCap∧sLen≤sCap:=by
    cases x<;>first
     |cases(show false=true from hlk)
     |(refine⟨_,_,_,rfl,?_⟩
       first
        |exact ah _
        |exact az _
        |(have:Nat.ble _ _=true:=hlk
          rw[bW]at this;have:=bL this
          first
           |exact this
           |exact aY this (Nat.le_add_right _ _)))
   obtain⟨base,sLen,sCap,hcx,hle⟩:=hsl;refine⟨E,w,c,?_,.refl h.rel,hbx,.refl _ _⟩;rw[hcx];exact pq hat hu hzs hi hlen hfc hle
 ·rw[ak hn0,cond_false]at ha;have fin:∀{b o len n' cap:Nat} {M'':Mem},bN M b (o+len*i.size) new=some M''→len+n≤cap→c b→ ∃w',(Builtin.append_ ats rty #[.slice (some ⟨E.ρ b,E.β b+o,none⟩) len cap,conc E y]).run P w= .ok (.slice (some ⟨E.ρ b,E.β b+o,none⟩) (len+n) cap) w'∧jH P F E M c w E M'' c w':=by
   intro b o len n' cap M'' hst hcap hb;obtain⟨w',hrun,hS⟩:=h.store hst hbn;refine⟨w',ix hat hu hzs hi hlen hfc hcap ?_,hS⟩;rw[Addr.add_eq,Nat.add_assoc];exact hrun
  cases x with
  |l0=>
   exact kQ h hf (.refl h.rel) hat hu hzs hi hzo (old:=[]) hlen (by simp[Builtin.firstCells,aB]) hfcd trivial hbn (by simp) hln (by omega) (by simpa using ha)
  |l b o len cap=>
   have ha':sU F M ct e i.size i.bytes b o len cap n new= .k v M' ct':=ha;unfold sU at ha';rw[bW]at ha';by_cases hcap:len+n≤cap
   ·rw[aj (show Nat.add len n≤cap from hcap),cond_true]at ha';obtain⟨hst,rfl,rfl⟩:=qB ha';obtain⟨w',hrun,hS⟩:=fin (n':=0) hst hcap hbx;exact⟨E,w',c,hrun,hS,hbx,.refl _ _⟩
   ·rw[ak (show¬Nat.add len n≤cap from hcap),cond_false]at ha';obtain⟨old,q,hr,hgr⟩:=p8 ha';have hrb:=h.readB hr;exact kQ h hf (.refl h.rel) hat hu hzs hi hzo hlen (jB h hr) hfcd hrb.2.1 hbn hrb.2.2 hln (by omega) hgr
  |u b o len el kn=>
   have ha':ly F M ct e i.size i.bytes b o len el kn n new= .k v M' ct':=ha;unfold ly at ha';rw[bW]at ha';by_cases hcap:el+len+n≤kn
   ·rw[aj (show Nat.add (Nat.add el len) n≤kn from hcap),cond_true]at ha';obtain⟨hst,rfl,rfl⟩:=qB ha';obtain⟨w',hrun,hS⟩:=fin (n':=0) (cap:=kn-el+E.κ b) hst (by omega) hbx;exact⟨E,w',c,hrun,hS,hbx,.refl _ _⟩
   ·rw[ak (show¬Nat.add (Nat.add el len) n≤kn from hcap),cond_false]at ha';split at ha'
    ·rename_i fz str hmw;obtain⟨n',d,cs,hM,hn',hfz,_⟩:=lH hmw;obtain⟨old,q,hr,hgr⟩:=p8 ha';have hrb:=h.readB hr;by_cases hroom:len+n≤kn-el+E.κ b
     ·obtain⟨E',w',c',hrun,hS,hb',hG,hcv⟩:=wQ h hf hi hM (o:=o) (kn:=kn-el) (sLen:=len) hn' hfz (AK hM hr) hrb.2.1 hbn h1 hrb.2.2 hln hroom hgr;refine⟨E',w',c',?_,hS,hb',hG⟩;rw[hcv];refine ix hat hu hzs hi hlen hfc hroom ?_;rw[Addr.add_eq];exact hrun
     ·exact kQ h hf (h.rel.drop b) hat hu hzs hi hzo hlen (jB h hr) hfcd hrb.2.1 hbn hrb.2.2 hln (by omega) hgr
    ·cases ha'
  |ue b o0 o=>
   have ha':(match eZ M b e o o with
    |some (fz,str)=>fV (M.del b) ct e i.bytes n fz str new
    |none=> .f)= .k v M' ct':=ha
   split at ha'
   ·rename_i fz str hmw;obtain⟨n',d,cs,hM,hn',hfz,_⟩:=lH hmw;by_cases hroom:n≤E.κ b
    ·have hκ:E.κ b≠0:=by omega
     obtain⟨E',w',c',hrun,hS,hb',hG,hcv⟩:=wQ h hf hi hM (o:=o) (kn:=0) (sLen:=0) (old:=[]) (n:=n) (by simpa using hn') (by simpa using hfz) (fun j v hj=>by simp at hj) trivial hbn h1 (by simp) hln (by omega) (by simpa using ha');refine⟨E',w',c',?_,hS,hb',hG⟩;rw[hcv];simp only[conc,ab hκ];have:=ix (w:=w) (rty:=rty) (sLen:=0) (sCap:=E.κ b) (ad:=⟨E.ρ b,E.β b+o,none⟩) hat hu hzs hi hlen hfc (by omega) (w':=w') (by rw[Addr.add_eq];exact hrun)
     simpa using this
    ·have:=kQ (rty:=rty) (base:=some (if E.κ b=0 then(if o<o0 then adD b else⟨E.ρ b,E.β b+o0,none⟩)else⟨E.ρ b,E.β b+o,none⟩)) (sLen:=0) (sCap:=E.κ b) (old:=[]) h hf (h.rel.drop b) hat hu hzs hi hzo hlen (by simp[Builtin.firstCells,aB,loadCells,loadCellsFrom]) hfcd trivial hbn (by simp) hln (by omega) (by simpa using ha');exact this
   ·cases ha'
  |_=>cases(show RC.f= .k v M' ct' from ha)
end
section
variable{P:Program}{E:cG}{F:RO}{M:Mem}{c:Nat→Prop}{w:World}{t:T}{a:Act}
theorem wc.op{o:Oper}{cl:Call}{b:Builtin}(hop:o.op= .call cl)(hb:cl.callee= .builtin b){l:List Operand}(hl:cl.args.toList=l){s:Sem Value}{v:V}{M':Mem}{ct ct':Nat}
 (he:∀fs,builtin b cl.argTypes o.type fs (l.map a.eval).toArray=(s>>=fun v=>pure (Next.value v))) (h:wc P F E M c ct w s v M' ct'):yy P F E M c ct w a o v M' ct':=by
 obtain⟨E',w',c',hr,hS,hb',hG⟩:=h
 exact⟨E',w',.value (conc E' v),c',bZ hop hb hl (by rw[he];exact aV hr),.inl rfl,hS,hb',hG⟩
theorem wD(h:Cx P E F M c w t a){ct:Nat}(hf:eQ c ct){o:Oper}{cl:Call}(hop:o.op= .call cl)(hb:cl.callee= .builtin .append){y z:Operand}(hargs:cl.args.toList=[y,z]){ty e:TypeId}(hat:cl.argTypes[0]?=some ty)(hzs:kF P cl.argTypes)
 (hu:P.underlying ty=some (.slice e)) {sz by_:Nat} (hsz:de P e=some sz) (hby:KU P e=some by_) (hpos:sz≠0) (hzo:Sj P e sz=true) {xx xy:X} (h1:aZ y=some xx) (h2:aZ z=some xy)
 {k:Kn} (hk:k.F=F) {v:V} {M':Mem} {ct':Nat} (he:ew (.app e sz by_ xx xy) k M ct t= .k v M' ct'):yy P F E M c ct w a o v M' ct':=by
 have he':lT k.F M ct e sz by_ (xx.ev t) (eB k.F M sz (xy.ev t))= .k v M' ct':=he
 rw[hk]at he'
 obtain⟨i,hi,rfl⟩:=tX hsz
 have hby':i.bytes=by_:=by
  unfold KU at hby;rw[hi]at hby;simpa using hby
 subst hby'
 have e1:=h.ev h1
 have e2:=h.ev h2
 cases hs:eB F M i.size (xy.ev t)with
 |none=>rw[hs]at he';cases(show RC.f= .k v M' ct' from he')
 |some r=>
  obtain⟨n,new⟩:=r;rw[hs]at he';have he2:(bif aE new&&Nat.beq new.length (Nat.mul n i.size)then app F M ct e i.size i.bytes (xx.ev t) n new else .f)= .k v M' ct':=he';rw[bI]at he2;by_cases hc1:aE new=true
  ·by_cases hc2:new.length=n*i.size
   ·rw[hc1,aj (show new.length=Nat.mul n i.size from hc2)]at he2;have he3:app F M ct e i.size i.bytes (xx.ev t) n new= .k v M' ct':=he2;have:=PM (rty:=o.type) h hf hat hu hzs hi hpos hzo hs e1.2 hc1 hc2 he3;refine wc.op hop hb hargs (s:=Builtin.append_ cl.argTypes o.type #[conc E (xx.ev t),conc E (xy.ev t)]) (fun fs=>?_) this;simp only[builtin,List.map_cons,List.map_nil,e1.1,e2.1]
   ·rw[hc1,ak (show¬new.length=Nat.mul n i.size from hc2)]at he2;cases he2
  ·rw[Bool.not_eq_true]at hc1;rw[hc1]at he2;cases he2
theorem zO(h:Cx P E F M c w t a){sz n m:Nat}{y:V}{vs:List V}(hl:mU y=some m)(hn:n≤m)(hs:qN F M sz n y=some vs):
 (Builtin.lenOf (conc E y)).run P w= .ok m w∧(Builtin.firstCells sz n (conc E y)).run P w= .ok (aB E vs).toArray w∧eU c vs:=by
 unfold qN at hs
 split at hs
 ·rename_i m' x;obtain rfl:m'=m:=ae hl;rw[bI]at hs;by_cases h1:sz=1
  ·rw[aj h1,cond_true]at hs;obtain rfl:=ae hs;refine⟨by simp[conc,Builtin.lenOf,gb],?_,mK _ _⟩;simp only[conc,Builtin.firstCells,aF,jS]
   congr 1
   apply Array.ext';simp only[ba,Array.toList_map,ByteArray.data_extract,Array.toList_extract,List.extract_eq_take_drop,Nat.sub_zero,List.drop_zero]
   congr 1
   have e:=qF m' x;rw[←uF n m' _ hn];show List.take n (bl m' x)=List.take n (bl m' (x%256^m'));rw[e]
  ·rw[ak h1]at hs;cases hs
 ·rename_i y' hne;obtain⟨⟨vs',r⟩,hr,rfl⟩:=bf.1 hs;obtain⟨⟨ad,len,cap,hcv,hld⟩,hb,_⟩:=h.readL hr;rcases fx (E:=E) hl with⟨ad',cap',hcv'⟩|⟨x,hx⟩
  ·rw[hcv]at hcv';injection hcv' with e1 e2 e3
   subst e1 e2 e3;rw[hcv];refine⟨by simp[Builtin.lenOf],?_,hb⟩;cases ad with
   |none=>simp only at hld;subst hld;simp[Builtin.firstCells,aB]
   |some ad=>simp only[Builtin.firstCells];exact hld
  ·exact absurd hx (hne _ _)
theorem EN(w:World){y:V}{m:Nat}(hl:mU y=some m):(Builtin.lenOf (conc E y)).run P w= .ok m w:=by
 rcases fx (E:=E) hl with⟨ad,cap,h⟩|⟨x,rfl⟩
 ·rw[h];simp[Builtin.lenOf]
 ·simp[conc,Builtin.lenOf,gb]
theorem ac9(h:Cx P E F M c w t a){o:Oper}{cl:Call}(hop:o.op= .call cl)(hb:cl.callee= .builtin .copy){y z:Operand}(hargs:cl.args.toList=[y,z]){ty e:TypeId}(hat:cl.argTypes[0]?=some ty)
 (hu:P.underlying ty=some (.slice e)) {sz:Nat} (hsz:de P e=some sz) {xx xy:X} (h1:aZ y=some xx) (h2:aZ z=some xy)
 {k:Kn} (hk:k.F=F) {v:V} {M':Mem} {ct ct':Nat} (he:ew (.cpy sz xx xy) k M ct t= .k v M' ct'):yy P F E M c ct w a o v M' ct':=by
 have he':wE sz xx xy k.F M ct t= .k v M' ct':=he
 rw[hk]at he'
 have e1:=h.ev h1
 have e2:=h.ev h2
 unfold wE at he'
 split at he'
 ·cases he'
 ·rename_i x hne;unfold Lq at he';split at he'
  ·rename_i dn sn hd hs;rw[bp,bW]at he';have hmin:(bif decide (sn≤dn)then sn else dn)=Nat.min sn dn:=by
    by_cases hh:sn≤dn
    ·rw[aj hh,cond_true];exact(Nat.min_eq_left hh).symm
    ·rw[ak hh,cond_false];exact(Nat.min_eq_right (by omega)).symm
   rw[hmin,bI]at he';rcases fx (E:=E) hd with⟨ad,cap,hcx⟩|⟨x,hx⟩
   case inr=>exact absurd hx (hne _ _)
   refine wc.op hop hb hargs (s:=Builtin.copy_ cl.argTypes o.type #[conc E (xx.ev t),conc E (xy.ev t)]) (fun fs=>by simp only[builtin,List.map_cons,List.map_nil,e1.1,e2.1]) ?_;have hlo:=EN (P:=P) (E:=E) w hs;by_cases h0:Nat.min sn dn=0
   ·rw[aj h0,cond_true]at he';injection he' with g1 g2 g3
    subst g1 g2 g3;refine⟨E,w,c,?_,.refl h.rel,trivial,.refl _ _⟩;have hfc:(Builtin.firstCells sz 0 (conc E (xy.ev t))).run P w= .ok #[] w:=by
     rcases fx (E:=E) hs with⟨ad',cap',hcy⟩|⟨x,hx⟩
     ·rw[hcy];cases ad'<;>simp[Builtin.firstCells,loadCells,loadCellsFrom]
     ·rw[hx];simp[conc,Builtin.firstCells]
    rw[hcx];cases ad<;>simp[Builtin.copy_,hat,aC hu,hlo,h0,d6 hsz,hfc,storeCells,conc,goInt]
   ·rw[ak h0,cond_false]at he';cases hsrc:qN F M sz (Nat.min sn dn) (xy.ev t)with
    |none=>rw[hsrc]at he';cases(show RC.f= .k v M' ct' from he')
    |some vs=>
     rw[hsrc]at he';obtain⟨_,hfc,hbv⟩:=zO h hs (Nat.min_le_left _ _) hsrc;have fin:∀b off,conc E (xx.ev t)= .slice (some ⟨E.ρ b,E.β b+off,none⟩) dn cap→(match bN M b off vs with
      |some M=>RC.k (.i .i64 (.ofNat (Nat.min sn dn))) M ct
      |none=> .f)= .k v M' ct'→wc P F E M c ct w (Builtin.copy_ cl.argTypes o.type #[conc E (xx.ev t),conc E (xy.ev t)]) v M' ct':=by
      intro b off hcx' hg;split at hg
      ·rename_i M'' hst;injection hg with g1 g2 g3
       subst g1 g2 g3;obtain⟨w',hrun,hS⟩:=h.store hst hbv;refine⟨E,w',c,?_,hS,trivial,.refl _ _⟩;rw[hcx'];simp[Builtin.copy_,hat,aC hu,hlo,d6 hsz,hfc,hrun,conc,goInt]
      ·cases hg
     cases hv:xx.ev t with
     |l b off len cp=>
      rw[hv]at he' hcx fin;have hcx':Value.slice (some ⟨E.ρ b,E.β b+off,none⟩) len cp= .slice ad dn cap:=hcx;injection hcx' with q1 q2 q3
      subst q1 q2 q3;exact fin b off rfl he'
     |u b off len el kn=>
      rw[hv]at he' hcx fin;have hcx':Value.slice (some ⟨E.ρ b,E.β b+off,none⟩) len (kn-el+E.κ b)= .slice ad dn cap:=hcx;injection hcx' with q1 q2 q3
      subst q1 q2 q3;exact fin b off rfl he'
     |_=>rw[hv]at he';cases(show RC.f= .k v M' ct' from he')
  ·cases he'
theorem Qf(h:Cx P E F M c w t a){o:Oper}{cl:Call}(hop:o.op= .call cl)(hb:cl.callee= .builtin .clear){y:Operand}(hargs:cl.args.toList=[y]){ty e:TypeId}(hat:cl.argTypes[0]?=some ty)
 (hu:P.underlying ty=some (.slice e)) {z:V} (hz:jG P e=some z) {xx:X} (h1:aZ y=some xx)
 {k:Kn} {v:V} {M':Mem} {ct ct':Nat} (he:ew (.clr (bg z) xx) k M ct t= .k v M' ct'):yy P F E M c ct w a o v M' ct':=by
 cases(show RC.f=RC.k v M' ct' from he)
theorem Ai{e:TypeId}(hc:P.cellsOf e=1)(count off n:Nat)(hn:off+n≤count):liesAt P P.depth e count off e n=true:=by
 have hd:P.depth=(2*(P.types.size+Made.depth)+1)+1:=rfl
 rw[hd]
 simp only[liesAt,Bool.or_eq_true]
 left
 rw[hd]
 simp[rowAt,hc,hn,sameLayout,Nat.mod_one]
theorem uR{b o n:Nat}{M':Mem}(h:kP M b o n=some M'):∃ty m ex fz d cs,M.get b=some (.cells ty m ex fz false d cs)∧M'=M.set b (.cells ty m ex (if fz≤o+n then o+n else fz) false d cs):=by
 unfold kP at h
 split at h
 ·rename_i ty m ex fz str d cs hM;cases str with
  |true=>cases h
  |false=>
   rw[cond_false,bp,bW]at h;obtain rfl:=ae h;refine⟨_,_,_,_,_,_,hM,?_⟩
   congr 2
   by_cases hh:fz≤o+n
   ·rw[aj (show fz≤Nat.add o n from hh),ac hh];rfl
   ·rw[ak (show¬fz≤Nat.add o n from hh),ab hh];rfl
 ·cases h
theorem lE(r:Nat):∀(ns:List Nat) (off:Nat) (acc:ByteArray),(∀j (hj:j<ns.length),w.cell? ⟨r,off+j,none⟩=some (.int .u8 (ns[j]:Int)))→
 (loadBytes ⟨r,off,none⟩ acc ns.length).run P w= .ok ⟨acc.data++(ns.map fun c=>UInt8.ofNat c).toArray⟩ w
 |[],off,acc,_=>by simp[loadBytes]
 |x::l,off,acc,h=>by
  have h0:w.cell? ⟨r,off,none⟩=some (.int .u8 (x:Int)):=h 0 (by simp)
  have ih:=lE r l (off+1) (acc.push x.toUInt8) (fun j hj=>by
   have:=h (j+1) (by simpa using hj);rw[show off+1+j=off+(j+1) by omega]
   simpa using this)
  simp only[aw,loadBytes,aI,run_load,h0,Result.andThen,Int.toNat_natCast,Addr.add_eq];rw[ih]
  congr 1
  apply ByteArray.ext;simp[ByteArray.push]
theorem NM{ats:Array TypeId}{rty pt:TypeId}(hat:ats[0]?=some pt)(p:Option Addr)(k:IntKind):(Builtin.unsafeString_ ats rty #[.pointer p,.int k 0]).run P w= .ok (.string .empty) w:=by
 have hmax:IntKind.i64.max=9223372036854775807:=rfl
 conv=>lhs;arg 2;whnf
 cases p<;>simp[asInt,asIntOf,hmax,hat]
theorem RP{ats:Array TypeId}{rty pt e:TypeId}(hat:ats[0]?=some pt)(hu:P.underlying pt=some (.pointer e))(ad:Addr)(k:IntKind){n:Nat}(h0:n≠0)(hn:n≤1099511627776)(hv:(variablesAt ad e n).run P w= .ok true w){s:ByteArray}(hl:(loadBytes ad .empty n).run P w= .ok s w):
 (Builtin.unsafeString_ ats rty #[.pointer (some ad),.int k n]).run P w= .ok (.string s) (w.freeze ad n):=by
 have hmax:IntKind.i64.max=9223372036854775807:=rfl
 have h1:¬((n:Int)<0):=by omega
 have h2:¬((9223372036854775807:Int)<(n:Int)):=by omega
 have h3:¬((n:Int)=0):=by omega
 conv=>lhs;arg 2;whnf
 simp[asInt,asIntOf,hmax,hat,h1,h2,h3,h0,elemOf,aC hu,hv,hl,run_freeze]
theorem qR(h:Cx P E F M c w t a){o:Oper}{cl:Call}(hop:o.op= .call cl)(hb:cl.callee= .builtin .unsafeString){y z:Operand}(hargs:cl.args.toList=[y,z]){pt e:TypeId}(hat:cl.argTypes[0]?=some pt)
 (hu:P.underlying pt=some (.pointer e)) (hsz:de P e=some 1) {xx xy:X} (h1:aZ y=some xx) (h2:aZ z=some xy)
 {k:Kn} (hk:k.F=F) {v:V} {M':Mem} {ct ct':Nat} (he:ew (.us e xx xy) k M ct t= .k v M' ct'):yy P F E M c ct w a o v M' ct':=by
 have he':Lt e xx xy k.F M ct t= .k v M' ct':=he
 rw[hk]at he'
 have e1:=h.ev h1
 have e2:=h.ev h2
 have hmax:IntKind.i64.max=9223372036854775807:=rfl
 unfold Lt at he'
 split at he'
 ·rename_i n hn;obtain⟨ik,hy⟩:=gH hn;rw[hy]at e2;refine wc.op hop hb hargs (s:=Builtin.unsafeString_ cl.argTypes o.type #[conc E (xx.ev t),.int ik n]) (fun fs=>by simp only[builtin,List.map_cons,List.map_nil,e1.1,e2.1,conc]) ?_;have hz:(conc E (.s 0 0))= .string .empty:=by simp only[conc];rfl
  split at he'
  ·rename_i hv;rw[bI]at he';by_cases h0:n=0
   ·subst h0;rw[aj rfl,cond_true]at he';injection he' with g1 g2 g3
    subst g1 g2 g3;refine⟨E,w,c,?_,.refl h.rel,trivial,.refl _ _⟩;rw[hv,hz];exact NM hat none ik
   ·rw[ak h0]at he';cases he'
  ·rename_i b off hv;unfold C9 at he';rw[bI]at he';by_cases h0:n=0
   ·subst h0;rw[aj rfl,cond_true]at he';injection he' with g1 g2 g3
    subst g1 g2 g3;refine⟨E,w,c,?_,.refl h.rel,trivial,.refl _ _⟩;rw[hv,hz];exact NM hat _ ik
   ·rw[ak h0,cond_false,bW]at he';cases hty:NL M b e with
    |false=>rw[hty]at he';cases he'
    |true=>
     by_cases hnb:n≤1099511627776
     ·rw[hty,aj hnb]at he';simp only[Bool.and_self,cond_true]at he';split at he'
      ·rename_i vs hld;unfold Ca at he';split at he'
       ·rename_i n' s hbv;split at he'
        ·rename_i M'' hfz;rw[bp,bp]at he';injection he' with g1 g2 g3
         subst g1 g2 g3;obtain⟨ty,m,ex,fz,d,cs,hM,rfl⟩:=uR hfz;obtain⟨arr,fr,ho,hr⟩:=h.cells (au hM);have hte:ty=e:=by
          unfold NL at hty;rw[hM]at hty;simp only[bI]at hty;exact bL hty
         subst hte;have hl:=h.loadN hld;obtain⟨ns,rfl,rfl,hbb⟩:=jU _ _ _ hbv;have hnl:ns.length=n:=by simpa using hl.2.2
         have hcells:∀j (hj:j<ns.length),w.cell? ⟨E.ρ b,E.β b+off+j,none⟩=some (.int .u8 (ns[j]:Int)):=by
          intro j hjn;obtain⟨ty',m',ex',fz',str',d',cs',hb',hg⟩:=ga (f:=none) hld (by simp);rw[au hM]at hb';injection hb' with hb'
          injection hb' with q1 q2 q3 q4 q5 q6 q7
          subst q2 q6 q7;have hcell:=(ig _ _ _ hg).2 j (.i .u8 (.ofNat ns[j])) (by simp[hjn]);have:=hr.cell _ _ hcell;simp only[World.cell?,ho,Option.isSome_none,bn,if_false];rw[Nat.add_assoc,this];rfl
         have hsize:E.β b+off+n≤arr.size:=by
          have:=hcells (n-1) (by omega);simp only[World.cell?,ho,Option.isSome_none,bn,if_false]at this;have:=(Array.getElem?_eq_some_iff.1 this).1;omega
         have hlb:=lE (P:=P) (w:=w) (E.ρ b) ns (E.β b+off) .empty hcells
         have hba:(⟨ByteArray.empty.data++(ns.map fun c=>UInt8.ofNat c).toArray⟩:ByteArray)=ba ns.length s:=by
          unfold ba;rw[hbb];apply ByteArray.ext;simp
         rw[hba]at hlb;have hco:=j8 hsz;have hva:(variablesAt ⟨E.ρ b,E.β b+off,none⟩ ty n).run P w= .ok true w:=by
          have hsh:w.shape? (E.ρ b)=some (ty,arr.size):=by simp[World.shape?,ho]
          simp[variablesAt,run_shape,hsh,hco,Ai hco arr.size (E.β b+off) n hsize]
         subst hnl;have hrun:=RP (w:=w) (rty:=o.type) hat hu ⟨E.ρ b,E.β b+off,none⟩ ik h0 hnb hva hlb
         have hfw:w.freeze ⟨E.ρ b,E.β b+off,none⟩ ns.length={w with heap:=w.heap.setIfInBounds (E.ρ b) (.cells arr ty (if fr.1==fr.2 then(E.β b+off,E.β b+off+ns.length)else(min fr.1 (E.β b+off),max fr.2 (E.β b+off+ns.length))))}:=by
          unfold World.freeze;rw[ab h0,tG _ ho]
         rw[hfw]at hrun;generalize hnf:(if fr.1==fr.2 then(E.β b+off,E.β b+off+ns.length)else(min fr.1 (E.β b+off),max fr.2 (E.β b+off+ns.length)))=nf at hrun;refine⟨E,{w with heap:=w.heap.setIfInBounds (E.ρ b) (.cells arr ty nf)},c,?_,h.rel.write b _ _ hM (.cells arr ty nf) ?_ {w with heap:=w.heap.setIfInBounds (E.ρ b) (.cells arr ty nf)} rfl rfl rfl rfl ?_,trivial,.refl _ _⟩
         ·rw[hv];exact hrun
         ·exact(h.rel.has _ _ (au hM)).2.1
         ·subst hnf;have hhi:(if fr.1==fr.2 then(E.β b+off,E.β b+off+ns.length)else(min fr.1 (E.β b+off),max fr.2 (E.β b+off+ns.length))).2≤E.β b+(if fz≤off+ns.length then off+ns.length else fz):=by
           by_cases hfe:fr.1=fr.2
           ·rw[ac (by simpa using hfe)];simp only;split<;>omega
           ·rw[ab (by simpa using hfe)];simp only;rcases hr.plain rfl with hp|⟨hp,hp'⟩
            ·exact absurd hp hfe
            ·split<;>omega
          refine⟨arr,_,rfl,⟨hr.cell,hr.size,fun k hk hk' hf=>?_,fun _=> .inr ⟨?_,hhi⟩⟩⟩
          ·have:=hf.2;omega
          ·split<;>omega
        ·cases he'
       ·cases he'
      ·cases he'
     ·rw[ak hnb,Bool.and_false]at he';cases he'
  ·cases he'
 ·cases he'
end
section
variable{P:Program}{E:cG}{F:RO}{M:Mem}{c:Nat→Prop}{w:World}{t:T}{a:Act}
theorem Qh(h:Cx P E F M c w t a){o:Oper}{y:Operand}(hop:o.op= .next y true){x:X}(hx:aZ y=some x){k:Kn}{v:V}{M':Mem}{ct ct':Nat}(he:ew (.nxs x) k M ct t= .k v M' ct'):yy P F E M c ct w a o v M' ct':=by
 cases(show RC.f=RC.k v M' ct' from he)
theorem Ls(h:Cx P E F M c w t a){ct:Nat}(hf:eQ c ct){o:Oper}{ty kt et:TypeId}{y:Operand}(hop:o.op= .range ty y)(hu:P.underlying ty=some (.map kt et)){x:X}(hx:aZ y=some x){k:Kn}(hk:k.F=F){v:V}{M':Mem}{ct':Nat}(he:ew (.rgm x) k M ct t= .k v M' ct'):yy P F E M c ct w a o v M' ct':=by
 cases(show RC.f=RC.k v M' ct' from he)
theorem Qg(h:Cx P E F M c w t a){o:Oper}{y:Operand}(hop:o.op= .next y false){x:X}(hx:aZ y=some x){k:Kn}(hk:k.F=F){v:V}{M':Mem}{ct ct':Nat}(he:ew (.nxm x) k M ct t= .k v M' ct'):yy P F E M c ct w a o v M' ct':=by
 cases(show RC.f=RC.k v M' ct' from he)
end
end
end Go.Proofs.YtmbpllipombieaaDoor.Ev
