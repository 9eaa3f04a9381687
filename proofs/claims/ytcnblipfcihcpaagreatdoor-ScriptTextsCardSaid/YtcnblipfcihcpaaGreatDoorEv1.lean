/- What is proved here: pieces of the evaluator's soundness: if the evaluator comes to a value, the model's run comes to it, for every world and tape; no conditions beyond the hypotheses of each theorem. -/
import Derived.Test.YtcnblipfcihcpaaGreatDoorEv0
import Derived.Laws.BytesArg
import Derived.Laws.IdiomStrings
import Derived.Laws.StructEq
import Derived.Laws.Externs
import Derived.KernelRfl
import Derived.Lib.Bytealg
import Derived.Lib.BytesEntry
import GoSem.Extern.BytealgCompare
set_option linter.unusedSimpArgs false
set_option linter.unusedVariables false
set_option linter.defProp false
namespace Go.Proofs.YtcnblipfcihcpaaGreatDoor.Ev
open Go
noncomputable section
theorem zl(c:Nat):UInt8.ofNat (c%256)=UInt8.ofNat c:=by
 apply UInt8.toNat_inj.1;simp[UInt8.toNat_ofNat']
theorem kL:∀(vs:List V) (n s:Nat),ff vs=some (n,s)→ ∃ns:List Nat,vs=ns.map (fun c=>V.i .u8 (.ofNat c))∧n=ns.length∧bl n s=ns.map (fun c=>UInt8.ofNat c)
 |[],n,s,h=>by
  simp only[ff,Option.some.injEq,Prod.mk.injEq]at h;obtain⟨rfl,rfl⟩:=h;exact⟨[],rfl,rfl,rfl⟩
 |v::l,n,s,h=>by
  rw[ff.eq_def]at h;split at h
  ·rename_i e;cases e
  ·rename_i c l' e;obtain⟨rfl,rfl⟩:=List.cons.inj e;split at h
   ·rename_i m x hm;simp only[Option.some.injEq,Prod.mk.injEq]at h;obtain⟨rfl,rfl⟩:=h;obtain⟨ns,rfl,rfl,hb⟩:=kL l m x hm;refine⟨c::ns,rfl,rfl,?_⟩;show bl (ns.length+1) (c%256+256*x)=_;rw[bl];have h1:(c%256+256*x)%256=c%256:=by omega
    have h2:(c%256+256*x)/256=x:=by omega
    rw[h1,h2,hb,zl];rfl
   ·cases h
  ·cases h
theorem k8(n x:Nat):cC (n+1) x= .i .u8 (.ofNat (x%256))::cC n (x/256):=by
 rw[cC,b9];rfl
theorem jZ(E:dj)(n:Nat):∀x,aB E (cC n x)=(bl n x).map fun b=>Value.int .u8 (b.toNat:Int):=by
 induction n with
 |zero=>intro x;rfl
 |succ n ih=>
  intro x;rw[k8,aB,ih,bl,List.map_cons]
  congr 1
  simp only[conc,UInt8.toNat_ofNat']
  congr 1
  show((x%256:Nat):Int)=_;simp
section
variable{P:Program}{E:dj}{F:RO}{M:Mem}{c:Nat→Prop}{w:World}{t:T}{a:Act}
theorem mg(n:Nat):∀x,i9 c (cC n x):=by
 induction n with
 |zero=>intro x;trivial
 |succ n ih=>intro x;rw[k8];exact⟨trivial,ih _⟩
theorem iJ(n:Nat):∀x,(cC n x).length=n:=by
 induction n with
 |zero=>intro x;rfl
 |succ n ih=>intro x;rw[k8,aP,ih]
theorem Cx.readB(h:Cx P E F M c w t a){sz n b o:Nat}{vs:List V}{r:Option Nat}(hr:readB F M sz n b o=some (vs,r)):
 (loadCells ⟨E.ρ b,E.β b+o,none⟩ (n*sz)).run P w= .ok (aB E vs).toArray w∧i9 c vs∧vs.length=n*sz:=by
 unfold Ev.readB at hr
 rw[bK]at hr
 by_cases hn:n=0
 ·subst hn;simp at hr;obtain⟨rfl,rfl⟩:=hr;exact⟨by simp[loadCells,loadCellsFrom,aB],trivial,by simp⟩
 ·rw[ah hn,cond_false]at hr;split at hr
  ·rename_i l hl;simp only[Option.some.injEq,Prod.mk.injEq]at hr;obtain⟨rfl,rfl⟩:=hr;exact h.loadN hl
  ·cases hr
theorem iM{v:V}{n:Nat}(h:qx v=some n):(∃ad cap,conc E v= .slice ad n cap)∨ ∃x,v= .s n x:=by
 cases v<;>first
  |(simp only[qx,Option.some.injEq]at h;subst h;exact .inl ⟨_,_,rfl⟩)
  |(simp only[qx,Option.some.injEq]at h;subst h;exact .inr ⟨_,rfl⟩)
  |(simp[qx]at h)
theorem Cx.readL(h:Cx P E F M c w t a){sz n:Nat}{v:V}{vs:List V}{r:Option Nat}(hr:readL F M sz n v=some (vs,r)):
 (∃ad len cap,conc E v= .slice ad len cap∧(match ad with
  |some ad=>(loadCells ad (n*sz)).run P w= .ok (aB E vs).toArray w
  |none=>vs=[]))∧i9 c vs∧vs.length=n*sz:=by
 cases v with
 |l b o len cap=>
  have:=h.readB (show Ev.readB F M sz n b o=some (vs,r)from hr);exact⟨⟨_,_,_,rfl,this.1⟩,this.2⟩
 |u b o len el kn=>
  have:=h.readB (show Ev.readB F M sz n b o=some (vs,r)from hr);exact⟨⟨_,_,_,rfl,this.1⟩,this.2⟩
 |ue b o0 o=>
  have hr':(bif Nat.beq n 0 then some (([]:List V),(none:Option Nat))else none)=some (vs,r):=hr;rw[bK]at hr';by_cases hn:n=0
  ·subst hn;simp at hr';obtain⟨rfl,rfl⟩:=hr';exact⟨⟨_,_,_,rfl,by simp[loadCells,loadCellsFrom,aB]⟩,trivial,by simp⟩
  ·rw[ah hn]at hr';cases hr'
 |l0=>
  have hr':(bif Nat.beq n 0 then some (([]:List V),(none:Option Nat))else none)=some (vs,r):=hr;rw[bK]at hr';by_cases hn:n=0
  ·subst hn;simp at hr';obtain⟨rfl,rfl⟩:=hr';exact⟨⟨_,_,_,rfl,rfl⟩,trivial,by simp⟩
  ·rw[ah hn]at hr';cases hr'
 |_=>cases(show(none:Option (List V×Option Nat))=some (vs,r)from hr)
theorem LI{vs:List V}{n s len cap:Nat}{ad:Option Addr}(hs:ff vs=some (n,s)) (hl:match ad with
 |some ad=>(loadCells ad len).run P w= .ok (aB E vs).toArray w
 |none=>vs=[]):(Conv.bytesToString (.slice ad len cap)).run P w= .ok (.string (ba n s)) w:=by
 obtain⟨ns,rfl,rfl,hb⟩:=kL _ _ _ hs
 cases ad with
 |none=>
  cases ns with
  |nil=>simp[Conv.bytesToString,ba,bl];rfl
  |cons x l=>simp at hl
 |some ad=>
  have hl':(loadCells ad len).run P w= .ok ((ns.map Int.ofNat).map (Value.int .u8)).toArray w:=by
   rw[hl,bC];congr 2;simp[List.map_map,conc,Function.comp_def]
  rw[run_bytesToString w ad len cap _ hl',foldl_push_bytes]
  congr 2
  apply sH;rw[hb];simp[List.map_map,Function.comp_def]
theorem jU.le{b ty n fz:Nat}{ex str:Bool}{d:List V}{cs:T}{arr:Array Value}{fr:Nat×Nat}(h:jU P E b ty n ex fz str d cs arr fr):E.β b+n≤arr.size:=by
 have:=h.size
 cases ex with
 |true=>simp at this;omega
 |false=>simp at this;omega
theorem Kx{n s:Nat}{lo hi:Option Nat}{x:V}(h:(kg n s lo hi).val=some x):∃l k,lo=some l∧hi=some k∧l≤k∧k≤n∧x= .s (k-l) (s/256^l%256^(k-l)):=by
 cases lo with
 |none=>cases(show(none:Option V)=some x from h)
 |some l=>cases hi with
  |none=>cases(show(none:Option V)=some x from h)
  |some k=>
   have h':(Bool.rec (motive:=fun _=>QR) .f (Bool.rec (motive:=fun _=>QR) .f (vS (Nat.sub k l) (Nat.mod (Nat.div s (jn l)) (jn (Nat.sub k l)))) (Nat.ble k n)) (Nat.ble l k)).val=some x:=h;rw[bb,bb,cE,cE,bq3]at h';by_cases h1:l≤k
   ·rw[ae (by simpa using h1)]at h';by_cases h2:k≤n
    ·rw[ae (by simpa using h2)]at h';exact⟨l,k,rfl,rfl,h1,h2,(ag h').symm⟩
    ·rw[ab (by simpa using h2)]at h';cases(show(none:Option V)=some x from h')
   ·rw[ab (by simpa using h1)]at h';cases(show(none:Option V)=some x from h')
theorem ka{ty n:Nat}(h:ea P ty=some n):P.cellsOf ty=n:=by
 unfold ea at h;unfold Program.cellsOf;rw[h];rfl
theorem YI{ty s k:Nat}(fits:TypeId→Bool)(hf:fits ty=true)(h:ea P ty=some (s+1)):rowAt P fits (k+1) ty 1 0 1=true:=by
 rw[rowAt.eq_def]
 simp[ka h,hf]
theorem F3{ty s k:Nat}(h:ea P ty=some (s+1))(hr:rowAt P (sameLayout P P.depth · ty) P.depth ty 1 0 1=true):liesAt P (k+1) ty 1 0 ty 1=true:=by
 rw[liesAt.eq_def]
 simp only[hr,Bool.true_or]
theorem Nh{ty k:Nat}:sameLayout P (k+1) ty ty=true:=by
 rw[sameLayout.eq_def];simp
theorem MC{ty s:Nat}(h:ea P ty=some (s+1)):liesAt P P.depth ty 1 0 ty 1=true:=
 F3 (k:=2*(P.types.size+Made.depth)+1) h (YI (k:=2*(P.types.size+Made.depth)+1) _ (Nh (k:=2*(P.types.size+Made.depth)+1)) h)
theorem MX(h:Cx P E F M c w t a){o:Oper}{s d:TypeId}{y:Operand}(hop:o.op= .convert s d y){q:QO}(hc:aF P o.op=some (.q q)){x:V}(hx:(dh q F M t).val=some x):tE P E c w a o x:=by
 rw[hop]at hc
 simp only[aF]at hc
 split at hc
 ·
  rename_i ks k z h1 h2 hz;obtain rfl:QO.ci k z=q:=by simpa [Ev.q]using hc
  obtain⟨k',n,hv,hg⟩:=oU (show(wO (z.ev t) .f fun _ n=>vI k (wr k n)).val=some x from hx);rw[fe]at hg;obtain rfl:=ag hg;have e:=h.ev hz;rw[hv]at e;refine⟨?_,trivial⟩;simp only[execOp,hop];refine bf ?_;rw[e.1,jg];exact bF8 h1 h2 k' n
 ·
  rename_i z h1 h2 hz;obtain rfl:QO.slS z none none=q:=by simpa [Ev.q]using hc
  obtain⟨n,s',hv,hg⟩:=oW (show(tY (z.ev t) .f fun n s=>kg n s (some 0) (some n)).val=some x from hx);obtain⟨l,k,h3,h4,_,_,rfl⟩:=Kx hg;obtain rfl:=ag h3;obtain rfl:=ag h4;have e:=h.ev hz;rw[hv]at e;refine⟨?_,trivial⟩;simp only[execOp,hop];refine bf ?_;rw[e.1];simp only[convert,aT,aR h1,aR h2,aZ,conc,aO]
  congr 2
  apply sH;rw[gS,Nat.sub_zero,vL,Nat.pow_zero,Nat.div_one]
 ·
  rename_i el z h1 h2 hz;split at hc
  ·rename_i hu8;obtain rfl:QO.bs z=q:=by simpa [Ev.q]using hc
   have e:=h.ev hz;have hel:P.underlying el=some (.int .u8):=by
    unfold Cm at hu8;split at hu8
    ·assumption
    ·cases hu8
   have hx':(MV z F M t).val=some x:=hx;unfold MV at hx';split at hx'
   ·cases hx'
   ·rename_i v hv;unfold K4 at hx';split at hx'
    ·rename_i n hn;split at hx'
     ·rename_i vs b hr;unfold wX at hx';split at hx'
      ·rename_i m sx hb;rw[b9,b9]at hx';have hxx:x= .s m sx:=by
        split at hx'
        ·exact(ag hx').symm
        ·exact(ag hx').symm
       subst hxx;obtain⟨⟨ad,len,cap,hcv,hld⟩,_,_⟩:=h.readL hr;rcases iM (E:=E) hn with⟨ad',cap',e'⟩|⟨y',e'⟩
       ·rw[hcv]at e';simp only[Value.slice.injEq]at e';obtain⟨_,rfl,_⟩:=e';refine⟨?_,trivial⟩;simp only[execOp,hop];refine bf ?_;rw[e.1,hcv,run_convert_bytes_string w s d el ad len cap h1 hel h2];exact LI hb (by simpa using hld)
       ·exact absurd e' (hv n y')
      ·cases hx'
     ·cases hx'
    ·cases hx'
  ·cases hc
 ·split at hc<;>cases hc
 ·split at hc<;>cases hc
 ·
  rename_i el z h1 h2 hz;split at hc
  ·cases hc
  ·rename_i hsz;obtain rfl:QO.up z=q:=by simpa [Ev.q]using hc
   have e:=h.ev hz;have hx':(N8 z F M t).val=some x:=hx;unfold N8 at hx';split at hx'
   ·rename_i hv;obtain rfl:=ag hx';rw[hv]at e;refine⟨?_,trivial⟩;simp only[execOp,hop];refine bf ?_;rw[e.1];simp only[convert,Conv.unsafePointer,aT,aR h1,aR h2,aZ,conc,aO]
   ·rename_i b off hv;cases hl:look F M b with
    |none=>rw[hl]at hx';cases(show(none:Option V)=some x from hx')
    |some blk=>
     cases blk with
     |cells ty n ex fz str dd cs=>
      rw[hl]at hx';have hx2:(bif Nat.blt off n then QR.r (.p b off) b else .f).val=some x:=hx';rw[eT]at hx2;by_cases hlt:off<n
      ·rw[af hlt]at hx2;obtain rfl:=ag hx2;rw[hv]at e;refine⟨?_,e.2⟩;obtain⟨arr,fr,ho,hr⟩:=h.cells hl;have hle:=hr.le;have hshape:w.shape? (E.ρ b)=some (ty,arr.size):=by simp[World.shape?,ho]
       obtain⟨s1,hs1⟩:∃s1,ea P el=some (s1+1):=by
        cases hz':ea P el with
        |none=>rw[hz']at hsz;simp at hsz
        |some k=>cases k with
         |zero=>rw[hz']at hsz;simp at hsz
         |succ k=>exact⟨k,rfl⟩
       have hnot:¬(arr.size≤E.β b+off):=by omega
       simp only[execOp,hop];refine bf ?_;rw[e.1];simp[convert,Conv.unsafePointer,aT,aR h1,aR h2,conc,Conv.seenAt,viewAt,hshape,cellsIn,eA hs1,hnot]
      ·rw[ah hlt]at hx2;cases(show(none:Option V)=some x from hx2)
     |_=>rw[hl]at hx';cases(show(none:Option V)=some x from hx')
   ·cases hx'
 ·
  rename_i el z h1 h2 hz;split at hc
  ·rename_i s1 hs1;obtain rfl:QO.dn el (s1+1) z=q:=by simpa [Ev.q]using hc
   have e:=h.ev hz;have hx':(MY el (s1+1) z F M t).val=some x:=hx;unfold MY at hx';split at hx'
   ·rename_i hv;obtain rfl:=ag hx';rw[hv]at e;refine⟨?_,trivial⟩;simp only[execOp,hop];refine bf ?_;rw[e.1];simp only[convert,Conv.unsafePointer,aT,aR h1,aR h2,aZ,conc,aO]
   ·rename_i b hv;unfold bG5 at hx';split at hx'
    ·rename_i ty n fz str dd cs hl;rw[bK,bK]at hx';by_cases hh:ty=el∧n=s1+1
     ·obtain⟨rfl,rfl⟩:=hh;have hx2:some (V.p b 0)=some x:=by simpa [QR.val]using hx'
      obtain rfl:=ag hx2;rw[hv]at e;refine⟨?_,e.2⟩;obtain⟨arr,fr,ho,hr⟩:=h.cells hl;have hsz:=hr.size;simp only[if_true]at hsz;have hshape:w.shape? (E.ρ b)=some (ty,s1+1):=by simp[World.shape?,ho,hsz.2]
      simp only[execOp,hop];refine bf ?_;rw[e.1];have hdiv:(s1+1)/(s1+1)=1:=Nat.div_self (by omega);simp[convert,Conv.unsafePointer,aT,aR h1,aR h2,conc,Conv.seenAt,viewAt,hshape,eA hs1,variablesAt,ka hs1,hsz.1,hdiv,MC hs1]
     ·exfalso;have:(decide (ty=el)&&decide (n=s1+1))=false:=by
       rw[Bool.and_eq_false_iff];simp only[decide_eq_false_iff_not];omega
      rw[this]at hx';cases(show(none:Option V)=some x from hx')
    ·cases hx'
   ·cases hx'
  ·cases hc
 ·cases hc
end
section
variable{P:Program}{E:dj}{F:RO}{M:Mem}{c:Nat→Prop}{w:World}{t:T}{a:Act}
def Oj(o:Option Value)(r:Option Nat):Prop:=∃k,o=r.map fun n=>Value.int k (n:Int)
theorem Cx.optNN(h:Cx P E F M c w t a){o:Option Operand}{x:Option X}(hx:MN o=some x){r:Option Nat}(hr:Ev.optNN t x=some r):Oj (o.map a.eval) r:=by
 cases o with
 |none=>
  obtain rfl:=ag hx;obtain rfl:=ag hr;exact⟨.i64,rfl⟩
 |some y=>
  obtain⟨z,hz,rfl⟩:=aX.1 hx;have hr':(match sF (z.ev t)with|some n=>some (some n)|none=>none)=some r:=hr;split at hr'
  ·rename_i n hn;obtain rfl:=ag hr';obtain⟨k,hk⟩:=lA hn;refine⟨k,?_⟩;rw[Option.map_some,(h.ev hz).1,hk];rfl
  ·cases hr'
theorem Cx.optN(h:Cx P E F M c w t a){o:Option Operand}{x:Option X}(hx:MN o=some x){d n:Nat}(hr:Ev.optN t d x=some n):
 ∃r,Oj (o.map a.eval) r∧r.getD d=n∧(r.isSome↔x.isSome):=by
 cases o with
 |none=>
  obtain rfl:=ag hx;obtain rfl:d=n:=ag hr;exact⟨none,⟨.i64,rfl⟩,rfl,by simp⟩
 |some y=>
  obtain⟨z,hz,rfl⟩:=aX.1 hx;have hn:sF (z.ev t)=some n:=hr;obtain⟨k,hk⟩:=lA hn;refine⟨some n,⟨k,?_⟩,rfl,by simp⟩;rw[Option.map_some,(h.ev hz).1,hk];rfl
theorem qi{isS:Bool}{len cap:Nat}{lo hi mx:Option Value}{l h m:Option Nat}(hl:Oj lo l)(hh:Oj hi h)(hm:Oj mx m)
 (h1:m.getD cap≤cap) (h2:h.getD len≤m.getD cap) (h3:l.getD 0≤h.getD len) (h4:m=none∨h.isSome):
 (Instr.sliceBounds isS len cap lo hi mx).run P w= .ok (l.getD 0,h.getD len,m.getD cap) w:=by
 obtain⟨k1,rfl⟩:=hl
 obtain⟨k2,rfl⟩:=hh
 obtain⟨k3,rfl⟩:=hm
 cases l<;>cases h<;>cases m<;>
  simp_all [Instr.sliceBounds,Instr.sliceBound,asIntOf]
theorem JT{b o n k:Nat}{x:V}(h:(mkL b o n k).val=some x):x= .l b o n k:=by
 unfold mkL at h;rw[b9,b9,b9]at h;exact(ag h).symm
theorem JV{b o n el kn:Nat}{x:V}(h:(mkU b o n el kn).val=some x):x= .u b o n el kn:=by
 unfold mkU at h;rw[b9,b9,b9]at h;exact(ag h).symm
theorem ag6{p q r:Bool}{x y:QR}{v:V}(h:(bif p&&q&&r then x else .f).val=some v):p=true∧q=true∧r=true∧x.val=some v:=by
 cases p<;>cases q<;>cases r<;>first|exact⟨rfl,rfl,rfl,h⟩|cases(show(none:Option V)=some v from h)
theorem df3{p q:Bool}{x:QR}{v:V}(h:(bif p&&q then x else .f).val=some v):p=true∧q=true∧x.val=some v:=by
 cases p<;>cases q<;>first|exact⟨rfl,rfl,h⟩|cases(show(none:Option V)=some v from h)
theorem zz{sz b o cap l h m:Nat}{x:V}(hx:(ua sz b o cap l h m).val=some x):m≤cap∧h≤m∧l≤h∧x= .l b (if m=l then o else o+l*sz) (h-l) (m-l):=by
 unfold ua at hx
 rw[cE,cE,cE,bK]at hx
 obtain⟨h1,h2,h3,h4⟩:=ag6 (y:= .f) hx
 refine⟨aY h1,aY h2,aY h3,?_⟩
 rw[JT h4]
 by_cases e:m=l<;>simp[e]
theorem ag4{r o k:Nat}{p:Prop}[Decidable p]:(if p then(⟨r,o,none⟩:Addr)else⟨r,o+k,none⟩)=⟨r,if p then o else o+k,none⟩:=by split<;>rfl
theorem ax4(h:Cx P E F M c w t a){o:Oper}{ty:TypeId}{y:Operand}{lo hi mx:Option Operand}(hop:o.op= .slice ty y lo hi mx){q:QO}(hc:aF P o.op=some (.q q)){x:V}(hx:(dh q F M t).val=some x):tE P E c w a o x:=by
 rw[hop]at hc
 simp only[aF]at hc
 split at hc
 ·rename_i xa xl xh xm h1 h2 h3 h4;have e:=h.ev h1
  have arr:∀n s el,ea P el=some s→(∀ad:Addr,∀lo' hi' mx':Option Value,∀l k m:Nat,(Instr.sliceBounds false n n lo' hi' mx').run P w= .ok (l,k,m) w→
   (Instr.sliceAt ty (.pointer (some ad)) lo' hi' mx').run P w= .ok (.slice (some (if m=l then ad else ad.add (l*s))) (k-l) (m-l)) w)→
   QO.slA n s xa xl xh xm=q→tE P E c w a o x:=by
   intro n s el hs hrun hq;subst hq;have hx':(zr n s xa xl xh xm F M t).val=some x:=hx;unfold zr at hx';by_cases hg:(xm.isNone||xh.isSome)=true
   ·rw[hg,cond_true]at hx';obtain⟨b,off,hv,hg2⟩:=rM hx';unfold xe at hg2;split at hg2
    ·rename_i l k m hl hk hm;obtain⟨d1,d2,d3,rfl⟩:=zz hg2;obtain⟨rl,ol,el',_⟩:=h.optN h2 hl;obtain⟨rh,oh,eh,ih⟩:=h.optN h3 hk;obtain⟨rm,om,em,im⟩:=h.optN h4 hm;subst el' eh em;rw[hv]at e;refine⟨?_,e.2⟩;simp only[execOp,hop];refine bf ?_;rw[e.1];simp only[conc]
     rw[hrun _ _ _ _ _ _ _ (qi ol oh om d1 d2 d3 (by
      cases hxm:xm with
      |none=>left;rw[hxm]at im;simpa using im
      |some z=>right;rw[hxm]at hg;rw[ih];simpa using hg))]
     simp only[Addr.add_eq,ag4]
     congr 5
     split<;>omega
    ·cases hg2
   ·rw[Bool.not_eq_true]at hg;rw[hg]at hx';cases(show(none:Option V)=some x from hx')
  split at hc
  ·
   rename_i hu;split at hc
   ·cases hc
   ·rename_i hmx;obtain rfl:QO.slS xa xl xh=q:=by simpa [Ev.q]using hc
    obtain⟨n,s,hv,hg⟩:=oW (show(tY (xa.ev t) .f fun n s=>kg n s (optN t 0 xl) (optN t n xh)).val=some x from hx);obtain⟨l,k,hl,hk,d1,d2,rfl⟩:=Kx hg;obtain⟨rl,ol,el',_⟩:=h.optN h2 hl;obtain⟨rh,oh,eh,ih⟩:=h.optN h3 hk;subst el' eh
    have hmn:xm=none:=by cases xm with
     |none=>rfl
     |some z=>simp at hmx
    have hmx0:mx=none:=by
     rw[hmn]at h4;cases mx with
     |none=>rfl
     |some z=>rw[MN]at h4;cases hz:bp z<;>rw[hz]at h4<;>simp at h4
    rw[hv]at e;refine⟨?_,trivial⟩;simp only[execOp,hop];refine bf ?_;rw[e.1,hmx0];have hb:=qi (P:=P) (w:=w) (isS:=false) (len:=n) (cap:=n) (mx:=none) (m:=none) ol oh ⟨.i64,rfl⟩ (by simp) (by simpa using d2) (by simpa using d1) (.inl rfl);simp only[Instr.sliceAt,Instr.slice,aT,aR hu,aZ,conc,Option.map_none,Option.isSome_none,bg,if_false,Sem.run_ite,aO,ec,hb]
    congr 2
    exact Ed _ _ _ _ d1 d2
  ·
   rename_i el hu;obtain⟨s,hs,hc'⟩:=bk.1 hc;split at hc'
   ·cases hc'
   ·obtain rfl:QO.slL s xa xl xh xm=q:=by simpa [Ev.q]using hc'
    have hx':(tf s (xa.ev t) (optNN t xl) (optNN t xh) (optNN t xm)).val=some x:=hx;unfold tf at hx';split at hx'
    ·rename_i rl rh rm hl hk hm;have ol:=h.optNN h2 hl;have oh:=h.optNN h3 hk;have om:=h.optNN h4 hm;unfold uK at hx';by_cases hg:(rm.isNone||rh.isSome)=true
     ·rw[hg,cond_true]at hx';have h4':rm=none∨rh.isSome:=by
       cases rm with
       |none=>exact .inl rfl
       |some z=>right;simpa using hg
      have fin:∀(ad:Option Addr) (len cap:Nat),conc E (xa.ev t)= .slice ad len cap→rm.getD cap≤cap→rh.getD len≤rm.getD cap→rl.getD 0≤rh.getD len→
       (Instr.sliceAt ty (conc E (xa.ev t)) (lo.map a.eval) (hi.map a.eval) (mx.map a.eval)).run P w=
        .ok (.slice (if rm.getD cap=rl.getD 0 then ad else ad.map (·.add (rl.getD 0*s))) (rh.getD len-rl.getD 0) (rm.getD cap-rl.getD 0)) w:=by
       intro ad len cap hcv d1 d2 d3;rw[hcv];have hb:=qi (P:=P) (w:=w) (isS:=true) ol oh om d1 d2 d3 h4';simp only[Instr.sliceAt,Instr.slice,aT,aR hu,aZ,hb,eA hs,aO]
      split at hx'
      ·rename_i b off len cap hv;obtain⟨d1,d2,d3,rfl⟩:=zz hx';rw[hv]at e;refine⟨?_,e.2⟩;simp only[execOp,hop];refine bf ?_;rw[(h.ev h1).1,fin _ len cap (by rw[hv];rfl) d1 d2 d3];simp only[conc,Option.map_some,Addr.add_eq]
       congr 2
       split
       ·rename_i e0;simp[e0]
       ·rename_i e0;simp[e0,Nat.add_assoc]
      ·rename_i hv;rw[bK,bK,bK]at hx';obtain⟨g1,g2,g3,g4⟩:=ag6 (y:= .f) hx';obtain rfl:=ag g4;have g1:=aY g1;have g2:=aY g2;have g3:=aY g3;refine⟨?_,trivial⟩;simp only[execOp,hop];refine bf ?_;rw[e.1,fin none 0 0 (by rw[hv];rfl) (by omega) (by omega) (by omega),g1,g2,g3];rfl
      ·rename_i b off len el' kn hv;rw[hv]at e;split at hx'
       ·unfold pJ at hx';rw[cE,cE,bK,eT]at hx';obtain⟨g1,g2,g3⟩:=df3 hx';have g1:el'+rh.getD len≤kn:=aY g1;have g2:rl.getD 0≤rh.getD len:=aY g2;have hr:=fin _ len _ (by rw[hv];rfl) (by simp) (show rh.getD len≤kn-el'+E.κ b by omega) g2;simp only[Option.getD_none]at hr;by_cases hl0:rl.getD 0=0
        ·rw[af (p:=rl.getD 0=0) hl0,cond_true]at g3;obtain rfl:=JV g3;refine⟨?_,e.2⟩;simp only[execOp,hop];refine bf ?_;rw[(h.ev h1).1,hr,hl0];simp[conc,Addr.add_eq]
        ·rw[ah (p:=rl.getD 0=0) hl0,cond_false]at g3;by_cases hlt:el'+rl.getD 0<kn
         ·rw[show Nat.add el' (rl.getD 0)=el'+rl.getD 0 from rfl,af hlt,cond_true]at g3;obtain rfl:=JV g3;refine⟨?_,e.2⟩;simp only[execOp,hop];refine bf ?_;rw[(h.ev h1).1,hr];have hne:¬(kn-el'+E.κ b=rl.getD 0):=by omega
          simp only[conc,hne,if_false,Option.map_some,Addr.add_eq]
          congr 2
          ·rw[Nat.add_assoc];rfl
          ·show _=kn-(el'+rl.getD 0)+E.κ b;omega
         ·rw[show Nat.add el' (rl.getD 0)=el'+rl.getD 0 from rfl,ah hlt,cond_false,b9]at g3;obtain rfl:=ag g3;refine⟨?_,e.2⟩;simp only[execOp,hop];refine bf ?_;rw[(h.ev h1).1,hr];have e1:rh.getD len-rl.getD 0=0:=by omega
          have e2:kn-el'+E.κ b-rl.getD 0=E.κ b:=by omega
          rw[e1,e2];simp only[conc,Option.map_some,Addr.add_eq]
          congr 2
          by_cases hk0:E.κ b=0
          ·rw[ae (by omega),ae hk0,ab (show¬(Nat.add off (Nat.mul (rl.getD 0) s)<off)from Nat.not_lt.2 (Nat.le_add_right _ _))]
          ·rw[ab (by omega),ab hk0,Nat.add_assoc];rfl
       ·rename_i m;unfold Z1 at hx';rw[cE,cE,cE,bK]at hx';obtain⟨g1,g2,g3,g4⟩:=ag6 (y:= .f) hx';have g1:el'+m≤kn:=aY g1;have g2:rh.getD len≤m:=aY g2;have g3:rl.getD 0≤rh.getD len:=aY g3;obtain rfl:=JT g4;refine⟨?_,e.2⟩;simp only[execOp,hop];refine bf ?_;rw[(h.ev h1).1,fin _ len _ (by rw[hv];rfl) (by simp;omega) (by simpa using g2) g3];simp only[conc,Option.getD_some,Option.map_some,Addr.add_eq]
        congr 2
        by_cases e0:m=rl.getD 0
        ·simp[e0]
        ·simp[e0,Nat.add_assoc]
      ·rename_i b o0 off hv;rw[hv]at e;rw[bK,bK]at hx';obtain⟨g1,g2,g3,g4⟩:=ag6 (y:= .f) hx';obtain rfl:=ag g4;have g2:=aY g2;have g3:=aY g3;have hrm:rm=none:=by simpa using g1
       subst hrm;refine⟨?_,e.2⟩;simp only[execOp,hop];refine bf ?_;rw[(h.ev h1).1,fin _ 0 _ (by rw[hv];rfl) (by simp) (by rw[g2];omega) (by rw[g3];omega),g2,g3];simp[conc,Addr.add,hv]
      ·cases hx'
     ·rw[Bool.not_eq_true]at hg;rw[hg]at hx';cases(show(none:Option V)=some x from hx')
    ·cases hx'
  ·
   rename_i n el hu;obtain⟨s,hs,hc'⟩:=bk.1 hc;split at hc'
   ·cases hc'
   ·refine arr n s el hs ?_ (by simpa [Ev.q]using hc');intro ad lo' hi' mx' l k m hb;simp only[Instr.sliceAt,aT,aR hu,aZ,Instr.sureAddr,aO,hb,eA hs]
  ·
   rename_i ar hu;split at hc
   ·rename_i n el hua;obtain⟨s,hs,hc'⟩:=bk.1 hc;split at hc'
    ·cases hc'
    ·refine arr n s el hs ?_ (by simpa [Ev.q]using hc');intro ad lo' hi' mx' l k m hb;simp only[Instr.sliceAt,Instr.slice,aT,aR hu,aR hua,aZ,asAddr,aO,hb,eA hs]
   ·cases hc
  ·cases hc
 ·cases hc
end
theorem LA{o:Option bL}{g:List (V×V×Nat)→Nat→QR}{x:V}(h:(aH3 o .f g).val=some x):∃es k,o=some (.map es k)∧(g es k).val=some x:=by
 cases o with
 |none=>cases(show(none:Option V)=some x from h)
 |some b=>cases b with
  |map es k=>exact⟨es,k,rfl,h⟩
  |_=>cases(show(none:Option V)=some x from h)
theorem bD2(n x m y:Nat):(ba n x==ba m y)=decide (bl n x=bl m y):=by
 show((ba n x).data==(ba m y).data)=_
 rw[Bool.eq_iff_iff,beq_iff_eq,decide_eq_true_iff]
 constructor
 ·intro e;have:=congrArg Array.toList e
  simpa [gS]using this
 ·intro e;simp only[ba,e]
section
variable{P:Program}{E:dj}{F:RO}{M:Mem}{c:Nat→Prop}{w:World}{t:T}{a:Act}
theorem ph{ty:TypeId}{z:V}(h:nB P ty=some z):(zeroValue ty).run P w= .ok (conc E z) w∧bd c z:=by
 unfold nB at h
 obtain⟨v,hv,hz⟩:=bk.1 h
 obtain⟨i,hi,hv'⟩:=bk.1 hv
 have:=oz E c _ v z hz
 refine⟨?_,this.2⟩
 simp[zeroValue,typeInfo,hi,hv',this.1]
theorem Cx.map(h:Cx P E F M c w t a){b:Nat}{es:List (V×V×Nat)}{k:Nat}(hb:look F M b=some (.map es k)):w.heap[E.ρ b]?=some (.map (es.map (entry E)).toArray k)∧ ∀e∈es,bd c e.1∧bd c e.2.1:=by
 obtain⟨_,hv,o,ho,rfl⟩:=h.rel.has _ _ hb
 exact⟨ho,hv⟩
theorem xr{r:Nat}{es:Array MapEntry}{k:Nat}(h:w.heap[r]?=some (.map es k)):(getObj r).run P w= .ok (.map es k) w:=by
 simp[getObj,Sem.run,h]
theorem Yv(h:Cx P E F M c w t a){o:Oper}{ty:TypeId}{y i:Operand}{ok:Bool}(hop:o.op= .lookup ty y i ok){q:QO}(hc:aF P o.op=some (.q q)){x:V}(hx:(dh q F M t).val=some x):tE P E c w a o x:=by
 rw[hop]at hc
 simp only[aF]at hc
 split at hc
 ·rename_i kt et xa xi hu h1 h2;split at hc
  ·rename_i sh z hks hz;obtain rfl:QO.lk sh z ok xa xi=q:=by simpa [Ev.q]using hc
   cases(show(none:Option V)=some x from hx)
  ·cases hc
 ·cases hc
theorem MZ(h:Cx P E F M c w t a){o:Oper}{y:Operand}{i:Nat}(hop:o.op= .extract y i){q:QO}(hc:aF P o.op=some (.q q)){x:V}(hx:(dh q F M t).val=some x):tE P E c w a o x:=by
 rw[hop]at hc
 obtain⟨z,hz,rfl⟩:=mi (f:=fun x=> .ex i x) hc
 have e:=h.ev hz
 have hx':(wZ i z F M t).val=some x:=hx
 unfold wZ at hx'
 cases hv:z.ev t with
 |t vs=>
  rw[hv]at hx' e;have hr:=xj hx';rw[l8]at hr;refine⟨?_,eI (l:=vs) e.2 hr⟩;simp only[execOp,hop];refine bf ?_;rw[e.1];simp[Instr.extract,conc,eM hr]
 |_=>rw[hv]at hx';cases(show(none:Option V)=some x from hx')
theorem AM(h:Cx P E F M c w t a){o:Oper}{y:Operand}{xt ty:TypeId}{ok:Bool}(hop:o.op= .typeAssert y xt ty ok){q:QO}(hc:aF P o.op=some (.q q)){x:V}(hx:(dh q F M t).val=some x):tE P E c w a o x:=by
 rw[hop]at hc
 simp only[aF]at hc
 split at hc
 ·cases hc
 ·rename_i d z zv hd hu hz hzv;obtain rfl:QO.ta ty zv ok z=q:=by simpa [Ev.q]using hc
  cases(show(none:Option V)=some x from hx)
 ·cases hc
end
theorem dg(E:dj)(v:V):(conc E v).cells=(aB E (flatten v)).toArray:=by
 cases v<;>rfl
theorem fK{c:Nat→Prop}{v:V}(h:bd c v):i9 c (flatten v):=by
 cases v<;>first|exact⟨h,trivial⟩|exact h
theorem mJ{α:Type}:∀(l:List α) (o:Nat) (vs r:List α),iC l o vs=some r→o+vs.length≤l.length∧r.length=l.length∧ ∀j,r[j]?=if o≤j∧j<o+vs.length then vs[j-o]? else l[j]?
 |l,0,[],r,h=>by
  have:r=l:=by rw[iC.eq_def]at h;exact(ag h).symm
  subst this;refine⟨by simp,rfl,fun j=>by rw[ab (by simp)]⟩
 |[],0,v::vs,r,h=>by rw[iC.eq_def]at h;cases h
 |x::l,0,v::vs,r,h=>by
  rw[iC.eq_def]at h;dsimp only at h;split at h
  ·rename_i t' ht;obtain rfl:=ag h;obtain⟨h1,h2,h3⟩:=mJ l 0 vs t' ht;refine⟨by simp at h1⊢;omega,by simp[h2],fun j=>?_⟩;cases j with
   |zero=>simp
   |succ j=>
    rw[List.getElem?_cons_succ,h3 j];simp only[aE,true_and,Nat.sub_zero,aP,List.getElem?_cons_succ,Nat.zero_add];by_cases hj:j<vs.length
    ·rw[ae hj,ae (by omega)]
    ·rw[ab hj,ab (by omega)]
  ·cases h
 |[],o+1,vs,r,h=>by rw[iC.eq_def]at h;cases vs<;>cases h
 |x::l,o+1,vs,r,h=>by
  have h':(match iC l o vs with|some t=>some (x::t)|none=>none)=some r:=by
   rw[iC.eq_def]at h;cases vs<;>exact h
  split at h'
  ·rename_i t' ht;obtain rfl:=ag h';obtain⟨h1,h2,h3⟩:=mJ l o vs t' ht;refine⟨by simp;omega,by simp[h2],fun j=>?_⟩;cases j with
   |zero=>rw[ab (by omega)];rfl
   |succ j=>
    rw[List.getElem?_cons_succ,List.getElem?_cons_succ,h3 j,show j+1-(o+1)=j-o by omega];by_cases hj:o≤j∧j<o+vs.length
    ·rw[ae hj,ae (by omega)]
    ·rw[ab hj,ab (by omega)]
  ·cases h'
theorem oN(off:Nat):∀(vs:List Value) (k:Nat) (cs:Array Value),
 ((vs.zipIdx k).foldl (fun cs (p:Value×Nat)=>cs.setIfInBounds (off+p.2) p.1) cs).size=cs.size∧
 ∀j,j<cs.size→((vs.zipIdx k).foldl (fun cs (p:Value×Nat)=>cs.setIfInBounds (off+p.2) p.1) cs)[j]?=if off+k≤j∧j<off+k+vs.length then vs[j-(off+k)]? else cs[j]?
 |[],k,cs=>⟨rfl,fun j _=>by simp only[List.zipIdx_nil,List.foldl_nil];rw[ab (by simp)]⟩
 |v::vs,k,cs=>by
  simp only[List.zipIdx_cons,List.foldl_cons];have ih:=oN off vs (k+1) (cs.setIfInBounds (off+k) v);refine⟨by rw[ih.1];simp,fun j hj=>?_⟩;rw[ih.2 j (by simpa using hj)];by_cases h1:off+(k+1)≤j∧j<off+(k+1)+vs.length
  ·rw[ae h1,ae (by simp;omega),show j-(off+k)=(j-(off+(k+1)))+1 by omega,List.getElem?_cons_succ]
  ·rw[ab h1];by_cases h2:j=off+k
   ·subst h2;rw[ae (by simp),Nat.sub_self,List.getElem?_cons_zero];simp[hj]
   ·rw[ab (by simp;omega),Array.getElem?_setIfInBounds_ne (by omega)]
section
variable{P:Program}{E:dj}{F:RO}{M:Mem}{c:Nat→Prop}{w:World}{t:T}{a:Act}
theorem Me{cs r:List V}{o:Nat}{vs:List V}(h:iC cs o vs=some r):
 (((aB E vs).toArray).zipIdx.foldl (fun cs (p:Value×Nat)=>cs.setIfInBounds (o+p.2) p.1) (aB E cs).toArray)=(aB E r).toArray:=by
 obtain⟨h1,h2,h3⟩:=mJ _ _ _ _ h
 have hz:((aB E vs).toArray).zipIdx.foldl (fun cs (p:Value×Nat)=>cs.setIfInBounds (o+p.2) p.1) (aB E cs).toArray=
  ((aB E vs).zipIdx 0).foldl (fun cs (p:Value×Nat)=>cs.setIfInBounds (o+p.2) p.1) (aB E cs).toArray:=by
  simp
 rw[hz]
 have hf:=oN o (aB E vs) 0 (aB E cs).toArray
 apply Array.ext_getElem?
 intro j
 by_cases hj:j<cs.length
 ·rw[hf.2 j (by simp[bC,hj])];simp only[List.getElem?_toArray,bC,List.getElem?_map,List.length_map,cT];rw[h3 j];by_cases hc:o≤j∧j<o+vs.length
  ·rw[ae hc,ae hc]
  ·rw[ab hc,ab hc]
 ·rw[Array.getElem?_eq_none (by rw[hf.1];simp[bC];omega),Array.getElem?_eq_none (by simp[bC];omega)]
theorem wh(h:Cx P E F M c w t a){place:Nat→Option (Nat×Nat)}:∀{ps:List (Nat×Operand)} {qs:List (Nat×Nat×X)} {cs r:List V},lE place ps=some qs→fillParts t cs qs=some r→i9 c cs→
 Instr.fill place (aB E cs).toArray (ps.map fun p=>(p.1,a.eval p.2))=some (aB E r).toArray∧i9 c r
 |[],qs,cs,r,hc,hf,hb=>by
  obtain rfl:=ag hc;obtain rfl:=ag hf;exact⟨rfl,hb⟩
 |(i,y)::ps,qs,cs,r,hc,hf,hb=>by
  rw[lE]at hc;split at hc
  ·rename_i o s x l h1 h2 h3;obtain rfl:=ag hc;rw[fillParts,bK]at hf;have e:=h.ev h2;by_cases hs:(flatten (x.ev t)).length=s
   ·rw[af hs,cond_true]at hf;split at hf
    ·rename_i cs' hr;obtain⟨g1,g2,g3⟩:=mJ _ _ _ _ hr;have hb':i9 c cs':=by
      refine(kK c cs').2 fun v hv=>?_;obtain⟨j,hj⟩:=List.mem_iff_getElem?.1 hv;rw[g3 j]at hj;split at hj
      ·exact eI (fK e.2) hj
      ·exact eI hb hj
     have ih:=wh h h3 hf hb';refine⟨?_,ih.2⟩;have hcells:(a.eval y).cells=(aB E (flatten (x.ev t))).toArray:=by rw[e.1,dg]
     simp only[List.map_cons,Instr.fill,h1,hcells];have c1:(aB E (flatten (x.ev t))).toArray.size=s:=by simp[bC,hs]
     have c2:¬(o+s>(aB E cs).toArray.size):=by simp[bC];omega
     rw[c1];simp only[ne_eq,not_true_eq_false,decide_false,Bool.false_or,decide_eq_true_eq,c2,if_false];rw[Me hr];exact ih.1
    ·cases hf
   ·rw[ah hs]at hf;cases hf
  ·cases hc
theorem nS:∀{fs:List Field} {ps:List (Nat×Nat)},mp P fs=some ps→(fs.mapM fun f=>do pure (f.offset,←Go.sizeOf f.type):Sem (List (Nat×Nat))).run P w= .ok ps w
 |[],ps,h=>by obtain rfl:=ag h;simp
 |f::fs,ps,h=>by
  rw[mp]at h;split at h
  ·rename_i s l h1 h2;obtain rfl:=ag h;simp only[List.mapM_cons,aT,eA h1,aZ,aO,nS h2]
  ·cases h
theorem eg(v:V):bQ v=flatten v:=by cases v<;>rfl
theorem aw4(h:Cx P E F M c w t a){o:Oper}{ty:TypeId}{parts:Array (Nat×Operand)}(hop:o.op= .build ty parts){q:QO}(hc:aF P o.op=some (.q q)){x:V}(hx:(dh q F M t).val=some x):tE P E c w a o x:=by
 rw[hop]at hc
 simp only[aF]at hc
 have hparts:(parts.map fun(p:Nat×Operand)=>(p.1,a.eval p.2)).toList=parts.toList.map fun p=>(p.1,a.eval p.2):=by simp
 split at hc
 ·rename_i z fs hz hu;split at hc
  ·rename_i ps hps;obtain⟨qs,hqs,e⟩:=bk.1 hc;obtain rfl:QO.bld (bQ z) qs=q:=by simpa [Ev.q]using e
   obtain⟨r,hr,rfl⟩:=AN (show(qg (fillParts t (bQ z) qs)).val=some x from hx);have hz':=ph (E:=E) (c:=c) (w:=w) hz;have hf:=wh h hqs hr (by rw[eg];exact fK hz'.2);refine⟨?_,hf.2⟩;simp only[execOp,hop];refine bf ?_
   have hm:(fs.mapM fun f=>do pure (f.offset,←Go.sizeOf f.type):Sem (Array (Nat×Nat))).run P w= .ok ps.toArray w:=by
    rw[Array.mapM_eq_mapM_toList];simp only[Sem.run_map,nS hps,aZ]
   have hcz:(conc E z).cells=(aB E (bQ z)).toArray:=by rw[dg,eg]
   have hpl:(fun(i:Nat)=>ps.toArray[i]?)=fun(i:Nat)=>ps[i]?:=by funext i;simp
   simp only[Instr.build,aT,hz'.1,aZ,aR hu,hm,hparts,hcz,hpl,hf.1,aO,conc]
  ·cases hc
 ·rename_i z n el hz hu;split at hc
  ·rename_i s hs;obtain⟨qs,hqs,e⟩:=bk.1 hc;obtain rfl:QO.bld (bQ z) qs=q:=by simpa [Ev.q]using e
   obtain⟨r,hr,rfl⟩:=AN (show(qg (fillParts t (bQ z) qs)).val=some x from hx);have hz':=ph (E:=E) (c:=c) (w:=w) hz;have hf:=wh h hqs hr (by rw[eg];exact fK hz'.2);refine⟨?_,hf.2⟩;simp only[execOp,hop];refine bf ?_;have hcz:(conc E z).cells=(aB E (bQ z)).toArray:=by rw[dg,eg]
   simp only[Instr.build,aT,hz'.1,aZ,aR hu,eA hs,hparts,hcz,hf.1,aO,conc]
  ·cases hc
 ·cases hc
end
section
variable{P:Program}{E:dj}{F:RO}{M:Mem}{c:Nat→Prop}{w:World}{t:T}{a:Act}
theorem CX(h:Cx P E F M c w t a){b:Nat}(hp:lM F M b=true):∃ty n,w.shape? (E.ρ b)=some (ty,n)∧E.β b≤n∧(∀o,E.β b≤o→w.frozen? ⟨E.ρ b,o,none⟩=false)∧(look F M b).isSome:=by
 unfold lM at hp
 split at hp
 ·rename_i ty n ex fz str d cs hl;obtain⟨arr,fr,ho,hr⟩:=h.cells hl;rw[bK]at hp;simp only[aC,decide_eq_true_eq,Bool.not_eq_true']at hp;obtain⟨⟨rfl,rfl⟩,_⟩:=hp;have hle:=hr.le;refine⟨ty,arr.size,by simp[World.shape?,ho],by omega,fun o hob=>?_,by rw[hl];rfl⟩;simp only[World.frozen?,ho];rw[Bool.and_eq_false_iff];simp only[decide_eq_false_iff_not];rcases hr.plain rfl with e|⟨hz,e⟩<;>omega
 ·cases hp
theorem MU(h:Cx P E F M c w t a){b o b' o':Nat}{r:Bool}(hr:CB F M b o b' o'=some r):
 (sameAddr ⟨E.ρ b,E.β b+o,none⟩ ⟨E.ρ b',E.β b'+o',none⟩).run P w= .ok r w:=by
 unfold CB at hr
 rw[bK]at hr
 by_cases hb:b=b'
 ·subst hb;rw[af rfl,cond_true]at hr;obtain rfl:=ag hr;rw[bK];by_cases ho:o=o'
  ·subst ho;simp[sameAddr]
  ·have:¬(E.β b+o=E.β b+o'):=by omega
   simp[sameAddr,ho,this]
 ·rw[ah hb,cond_false]at hr;by_cases hp:(lM F M b&&lM F M b')=true
  ·rw[hp,cond_true]at hr;obtain rfl:=ag hr;rw[aC]at hp;obtain⟨ty,n,hs,hn,hf,hl⟩:=CX h hp.1;obtain⟨ty',n',hs',hn',hf',hl'⟩:=CX h hp.2;have hne:¬(E.ρ b=E.ρ b'):=fun e=>hb (h.rel.inj b b' hl hl' e);have f1:=hf (E.β b+o) (by omega);have f2:=hf' (E.β b'+o') (by omega);have f3:=hf n hn;have f4:=hf' n' hn';simp[sameAddr,hne,f1,f2,noView,viewAt,hs,hs',mayBeOne,stringish,f3,f4]
  ·rw[Bool.not_eq_true]at hp;rw[hp]at hr;cases hr
inductive mX(P:Program)(ty:TypeId):Sh→Prop
 |bool:P.underlying ty=some .bool→mX P ty .bool
 |int (k:IntKind):P.underlying ty=some (.int k)→mX P ty .int
 |str:P.underlying ty=some .string→mX P ty .str
 |ptr (e s:Nat):P.underlying ty=some (.pointer e)→ea P e=some (s+1)→mX P ty .ptr
 |slice (e:Nat):P.underlying ty=some (.slice e)→mX P ty .slice
 |map (k e:Nat):P.underlying ty=some (.map k e)→mX P ty .map
 |func (p r:Array TypeId) (v:Bool):P.underlying ty=some (.func p r v)→mX P ty .func
 |iface (ms:Array (String×TypeId)):P.underlying ty=some (.interface ms)→mX P ty .iface
theorem tk{ty:TypeId}{sh:Sh}(h:Kt P ty=some sh):mX P ty sh:=by
 unfold Kt at h
 split at h
 ·rename_i hu;obtain rfl:=ag h;exact .bool hu
 ·rename_i hu;obtain rfl:=ag h;exact .int _ hu
 ·rename_i hu;obtain rfl:=ag h;exact .str hu
 ·rename_i e hu;split at h
  ·cases h
  ·rename_i hs;obtain rfl:=ag h;cases hz:ea P e with
   |none=>rw[hz]at hs;simp at hs
   |some k=>cases k with
    |zero=>rw[hz]at hs;simp at hs
    |succ k=>exact .ptr e k hu hz
 ·rename_i hu;obtain rfl:=ag h;exact .slice _ hu
 ·rename_i hu;obtain rfl:=ag h;exact .map _ _ hu
 ·rename_i hu;obtain rfl:=ag h;exact .func _ _ _ hu
 ·rename_i hu;obtain rfl:=ag h;exact .iface _ hu
 ·cases h
theorem iP{v:V}{b:Bool}(h:uE v=some b):if b then conc E v= .slice none 0 0 else∃ad n k,conc E v= .slice (some ad) n k:=by
 cases v<;>first|cases(show(none:Option Bool)=some b from h)|(obtain rfl:=ag h;first|rfl|exact⟨_,_,_,rfl⟩)
theorem iQ{v:V}{b:Bool}(h:Cs v=some b):if b then conc E v= .map none else∃r,conc E v= .map (some r):=by
 cases v<;>first|cases(show(none:Option Bool)=some b from h)|(obtain rfl:=ag h;first|rfl|exact⟨_,rfl⟩)
theorem iO{v:V}{b:Bool}(h:Cr v=some b):if b then conc E v= .nilFunc else∃f l k,conc E v= .func f l k:=by
 cases v<;>first|cases(show(none:Option Bool)=some b from h)|(obtain rfl:=ag h;first|rfl|exact⟨_,_,_,rfl⟩)
theorem cD{v:V}{b:Bool}(h:AB v=some b):if b then v= .a0 else∃ty z,v= .a ty z:=by
 cases v<;>first|cases(show(none:Option Bool)=some b from h)|(obtain rfl:=ag h;first|rfl|exact⟨_,_,rfl⟩)
theorem dB{lit:Bool}{p q:Option Bool}{r:Bool}(h:jx lit p q=some r):
 (p=some true∧q=some true∧lit=true∧r=true)∨(p=some true∧q=some false∧r=false)∨(p=some false∧q=some true∧r=false):=by
 unfold jx at h
 split at h
 ·cases lit with
  |false=>cases h
  |true=>exact .inl ⟨rfl,rfl,rfl,(ag h).symm⟩
 ·exact .inr (.inl ⟨rfl,rfl,(ag h).symm⟩)
 ·exact .inr (.inr ⟨rfl,rfl,(ag h).symm⟩)
 ·cases h
theorem Ag(h:Cx P E F M c w t a){ty:TypeId}{sh:Sh}(hs:mX P ty sh){lit:Bool}{x y:V}{r:Bool}(hr:Jn F M sh lit x y=some r)(d:Nat):
 (Op.equalIn (d+1) ty (conc E x) (conc E y)).run P w= .ok r w:=by
 cases hs with
 |bool hu=>
  have hr':eqB x y=some r:=hr;unfold eqB at hr';split at hr'
  ·obtain rfl:=ag hr';simp[Op.equalIn,aR hu,conc]
  ·cases hr'
 |int k hu=>
  have hr':eqN x y=some r:=hr;unfold eqN at hr';split at hr'
  ·rename_i k1 m k2 n;rw[iR]at hr';by_cases hk:k1=k2
   ·rw[af hk,cond_true,du]at hr';obtain rfl:=ag hr';simp[Op.equalIn,aR hu,conc,hk];rw[Bool.eq_iff_iff];simp
   ·rw[ah hk]at hr';cases hr'
  ·cases hr'
 |str hu=>
  have hr':eqS x y=some r:=hr;unfold eqS at hr';split at hr'
  ·obtain rfl:=ag hr';simp[Op.equalIn,aR hu,conc,bD2,oZ]
  ·cases hr'
 |ptr e s hu hz=>
  have hr':eqP F M x y=some r:=hr;unfold eqP at hr';split at hr'
  ·obtain rfl:=ag hr';simp[Op.equalIn,aR hu,conc]
  ·obtain rfl:=ag hr';simp[Op.equalIn,aR hu,conc]
  ·obtain rfl:=ag hr';simp[Op.equalIn,aR hu,conc]
  ·have hp:=MU h hr';simp[Op.equalIn,aR hu,conc,eA hz,hp]
  ·cases hr'
 |slice e hu=>
  rcases dB (show jx true (uE x) (uE y)=some r from hr)with⟨h1,h2,_,rfl⟩|⟨h1,h2,rfl⟩|⟨h1,h2,rfl⟩
  ·have e1:=iP (E:=E) h1;have e2:=iP (E:=E) h2;simp only[if_true]at e1 e2;rw[e1,e2];simp[Op.equalIn,aR hu]
  ·have e1:=iP (E:=E) h1;have e2:=iP (E:=E) h2;simp only[if_true,bg,if_false]at e1 e2;obtain⟨_,_,_,e2⟩:=e2;rw[e1,e2];simp[Op.equalIn,aR hu]
  ·have e1:=iP (E:=E) h1;have e2:=iP (E:=E) h2;simp only[if_true,bg,if_false]at e1 e2;obtain⟨_,_,_,e1⟩:=e1;rw[e1,e2];simp[Op.equalIn,aR hu]
 |map k e hu=>
  rcases dB (show jx true (Cs x) (Cs y)=some r from hr)with⟨h1,h2,_,rfl⟩|⟨h1,h2,rfl⟩|⟨h1,h2,rfl⟩
  ·have e1:=iQ (E:=E) h1;have e2:=iQ (E:=E) h2;simp only[if_true]at e1 e2;rw[e1,e2];simp[Op.equalIn,aR hu]
  ·have e1:=iQ (E:=E) h1;have e2:=iQ (E:=E) h2;simp only[if_true,bg,if_false]at e1 e2;obtain⟨_,e2⟩:=e2;rw[e1,e2];simp[Op.equalIn,aR hu]
  ·have e1:=iQ (E:=E) h1;have e2:=iQ (E:=E) h2;simp only[if_true,bg,if_false]at e1 e2;obtain⟨_,e1⟩:=e1;rw[e1,e2];simp[Op.equalIn,aR hu]
 |func p r' v hu=>
  rcases dB (show jx true (Cr x) (Cr y)=some r from hr)with⟨h1,h2,_,rfl⟩|⟨h1,h2,rfl⟩|⟨h1,h2,rfl⟩
  ·have e1:=iO (E:=E) h1;have e2:=iO (E:=E) h2;simp only[if_true]at e1 e2;rw[e1,e2];simp[Op.equalIn,aR hu]
  ·have e1:=iO (E:=E) h1;have e2:=iO (E:=E) h2;simp only[if_true,bg,if_false]at e1 e2;obtain⟨_,_,_,e2⟩:=e2;rw[e1,e2];simp[Op.equalIn,aR hu]
  ·have e1:=iO (E:=E) h1;have e2:=iO (E:=E) h2;simp only[if_true,bg,if_false]at e1 e2;obtain⟨_,_,_,e1⟩:=e1;rw[e1,e2];simp[Op.equalIn,aR hu]
 |iface ms hu=>
  rcases dB (show jx lit (AB x) (AB y)=some r from hr)with⟨h1,h2,_,rfl⟩|⟨h1,h2,rfl⟩|⟨h1,h2,rfl⟩
  ·have e1:=cD h1;have e2:=cD h2;simp only[if_true]at e1 e2;rw[e1,e2];simp[Op.equalIn,aR hu,conc]
  ·have e1:=cD h1;have e2:=cD h2;simp only[if_true,bg,if_false]at e1 e2;obtain⟨_,_,e2⟩:=e2;rw[e1,e2];simp[Op.equalIn,aR hu,conc]
  ·have e1:=cD h1;have e2:=cD h2;simp only[if_true,bg,if_false]at e1 e2;obtain⟨_,_,e1⟩:=e1;rw[e1,e2];simp[Op.equalIn,aR hu,conc]
end
section
variable{P:Program}{E:dj}{F:RO}{M:Mem}{c:Nat→Prop}{w:World}{t:T}{a:Act}
theorem mX.noAgg{ty:TypeId}{sh:Sh}(h:mX P ty sh):uD P ty=some false:=by
 cases h with
 |ptr e s hu _=>simp only[uD,hu]
 |_=>rename_i hu;simp only[uD,hu]
theorem yQ(h:Cx P E F M c w t a){xs ys:List V}:∀{fs:List Field} {ks:List (Nat×Sh)} {r:Bool},sa P fs=some ks→ng F M xs ys ks=some r→ ∀d,(Op.eqFields (d+1) (aB E xs).toArray (aB E ys).toArray fs).run P w= .ok r w
 |[],ks,r,hs,hr,d=>by
  obtain rfl:=ag hs;obtain rfl:=ag hr;rfl
 |f::fs,ks,r,hs,hr,d=>by
  rw[sa]at hs;split at hs
  ·rename_i sh l h1 h2;split at hs
   ·rename_i hn;obtain rfl:=ag hs;have hsh:=tk h1;rw[ng]at hr;split at hr
    ·rename_i x y hx hy;rw[l8]at hx hy;have hag:=hsh.noAgg;have p1:=rR (P:=P) (w:=w) (E:=E) hag hx;have p2:=rR (P:=P) (w:=w) (E:=E) hag hy;split at hr
     ·rename_i he;have e1:=Ag h hsh he d;simp only[Op.eqFields,hn,ne_eq,not_false_eq_true,if_true,aT,p1,p2,aZ,e1,Sem.run_ite,Bool.not_true,bg,if_false];exact yQ h h2 hr d
     ·rename_i hne;have e1:=Ag h hsh hr d;cases r with
      |true=>exact absurd hr hne
      |false=>simp only[Op.eqFields,hn,ne_eq,not_false_eq_true,if_true,aT,p1,p2,aZ,e1,Sem.run_ite,Bool.not_false,if_true,aO]
    ·cases hr
   ·cases hs
  ·cases hs
theorem LE{ty:TypeId}{x y:Value}(h1:∀k m k' n,¬(x= .int k m∧y= .int k' n))(h2:∀m n,¬(x= .string m∧y= .string n))(h3:∀k m,x≠ .float k m)(h4:∀k m n,x≠ .complex k m n):
 (binOp .eql ty x y)=(do pure (.bool (←Op.equal ty x y)))∧(binOp .neq ty x y)=(do pure (.bool (!(←Op.equal ty x y)))):=by
 cases x<;>first
  |exact absurd rfl (h3 _ _)
  |exact absurd rfl (h4 _ _ _)
  |exact⟨rfl,rfl⟩
  |(cases y<;>first
   |exact(h1 _ _ _ _ ⟨rfl,rfl⟩).elim
   |exact(h2 _ _ ⟨rfl,rfl⟩).elim
   |exact⟨rfl,rfl⟩)
def Odd:Value→Prop
 | .int _ _| .string _| .float _ _| .complex _ _ _=>False
 |_=>True
theorem bI0{ty:TypeId}{A B:Operand}{x y:Value}{r:Bool}(hodd:Odd x)(hg:∀op,(eqGuard op ty A B x y).run P w= .ok () w)(he:(Op.equalIn 10000 ty x y).run P w= .ok r w)(neg:Bool):
 (eqGuard (if neg then .neq else .eql) ty A B x y>>=fun _=>binOp (if neg then .neq else .eql) ty x y).run P w= .ok (.bool (if neg then !r else r)) w:=by
 have hb:=LE (ty:=ty) (x:=x) (y:=y) (fun k m k' n e=>by rw[e.1]at hodd;exact hodd) (fun m n e=>by rw[e.1]at hodd;exact hodd) (fun k m e=>by rw[e]at hodd;exact hodd) (fun k m n e=>by rw[e]at hodd;exact hodd)
 have he':(Op.equal ty x y).run P w= .ok r w:=he
 simp only[aT,hg,aZ]
 cases neg with
 |true=>simp[hb.2,he']
 |false=>simp[hb.1,he']
theorem cJ{op:BinOp}{ty:TypeId}{A B:Operand}{x y:Value}(h1:¬(x= .nilIface∧y= .nilIface))(h2:∀l m,¬(x= .agg l∧y= .agg m)):(eqGuard op ty A B x y).run P w= .ok () w:=by
 unfold eqGuard
 split
 all_goals simp only[Bool.not_true,bg,if_false,Bool.not_false,if_true]
 all_goals try rfl
 all_goals
  split
  ·exact absurd ⟨rfl,rfl⟩ h1
  ·exact absurd ⟨rfl,rfl⟩ (h2 _ _)
  ·rfl
theorem Ca{op:BinOp}{ty:TypeId}{A B:Operand}(h:(isConstO A||isConstO B)=true):(eqGuard op ty A B .nilIface .nilIface).run P w= .ok () w:=by
 cases A<;>cases B<;>first|(simp[isConstO]at h;done)|(cases op<;>simp[eqGuard])
theorem JR(k:Nat):∀l:List Nat,F5 k l=l.contains k
 |[]=>rfl
 |h::r=>by
  have:F5 k (h::r)=(bif Nat.beq h k then true else F5 k r):=rfl;rw[this,bK,JR k r,List.contains_cons];by_cases e:h=k
  ·subst e;simp
  ·rw[ah e,cond_false,show(k==h)=false by simp;exact fun e'=>e e'.symm];rfl
theorem XI{L:List Nat}(hL:L=qo P){t:Nat}(h:F5 t L=true):∃i k,P.info? t=some i∧i.comparable=true∧P.underlying t=some (.int k):=by
 rw[JR,List.contains_iff_mem,hL]at h
 unfold qo at h
 rw[List.mem_filter]at h
 have h2:=h.2
 unfold bn4 at h2
 split at h2
 ·rename_i i k h3 h4;exact⟨i,k,h3,h2,h4⟩
 ·cases h2
theorem Xq{ty:TypeId}{ms:Array (String×TypeId)}(hu:P.underlying ty=some (.interface ms)){x y:V}{r:Bool}(hr:Cc (qo P) x y=some r)(d:Nat):
 (Op.equalIn (d+2) ty (conc E x) (conc E y)).run P w= .ok r w:=by
 unfold Cc at hr
 split at hr
 ·rename_i t1 v1 t2 v2;rw[bK]at hr;by_cases ht:t1=t2
  ·subst ht;rw[af rfl,cond_true]at hr;by_cases hm:F5 t1 (qo P)=true
   ·rw[hm,cond_true]at hr;obtain⟨i,k,h1,h2,h3⟩:=XI rfl hm;unfold eqN at hr;split at hr
    ·rename_i k1 m k2 n;rw[iR]at hr;by_cases hk:k1=k2
     ·rw[af hk,cond_true,du]at hr;obtain rfl:=ag hr;subst hk;have inner:(Op.equalIn (d+1) t1 (.int k1 m) (.int k1 n)).run P w= .ok (m==n) w:=by
       simp[Op.equalIn,aR h3]
      have hti:(typeInfo t1).run P w= .ok i w:=by simp[typeInfo,h1]
      have hmn:decide (m=n)=(m==n):=by rw[Bool.eq_iff_iff];simp
      rw[hmn];simp only[conc];rw[Op.equalIn.eq_2];simp only[aT,aR hu,aZ,ne_eq,not_true_eq_false,if_false,hti,h2,Bool.not_true,bg,inner]
     ·rw[ah hk]at hr;cases hr
    ·cases hr
   ·rw[Bool.not_eq_true]at hm;rw[hm]at hr;cases hr
  ·rw[ah ht,cond_false]at hr;obtain rfl:=ag hr;simp[Op.equalIn,aR hu,conc,ht]
 ·rcases dB hr with⟨_,_,h3,_⟩|⟨h1,h2,rfl⟩|⟨h1,h2,rfl⟩
  ·cases h3
  ·have e1:=cD h1;have e2:=cD h2;simp only[if_true,bg,if_false]at e1 e2;obtain⟨_,_,e2⟩:=e2;rw[e1,e2];simp[Op.equalIn,aR hu,conc]
  ·have e1:=cD h1;have e2:=cD h2;simp only[if_true,bg,if_false]at e1 e2;obtain⟨_,_,e1⟩:=e1;rw[e1,e2];simp[Op.equalIn,aR hu,conc]
theorem LZ{L:List Nat}{x y:V}{r:Bool}(hr:Cc L x y=some r):(x= .a0∨ ∃t v,x= .a t v)∧ ¬(x= .a0∧y= .a0):=by
 unfold Cc at hr
 split at hr
 ·exact⟨.inr ⟨_,_,rfl⟩,fun h=>by cases h.1⟩
 ·rcases dB hr with⟨_,_,h3,_⟩|⟨h1,h2,rfl⟩|⟨h1,h2,rfl⟩
  ·cases h3
  ·have e1:=cD h1;have e2:=cD h2;simp only[if_true,bg,if_false]at e1 e2;obtain⟨_,_,e2⟩:=e2;exact⟨.inl e1,fun h=>by rw[e2]at h;cases h.2⟩
  ·have e1:=cD h1;simp only[bg,if_false]at e1;obtain⟨_,_,e1⟩:=e1;exact⟨.inr ⟨_,_,e1⟩,fun h=>by rw[e1]at h;cases h.1⟩
theorem EE{L:List Nat}{x y:V}{r:Bool}(hr:Cc L x y=some r):y= .a0∨ ∃t v,y= .a t v:=by
 unfold Cc at hr
 split at hr
 ·exact .inr ⟨_,_,rfl⟩
 ·rcases dB hr with⟨_,_,h3,_⟩|⟨h1,h2,rfl⟩|⟨h1,h2,rfl⟩
  ·cases h3
  ·have e2:=cD h2;simp only[bg,if_false]at e2;exact .inr e2
  ·have e2:=cD h2;simp only[if_true]at e2;exact .inl e2
theorem ES(P:Program)(lit:Bool)(sh:Sh):As P lit sh=sh∨(sh= .iface∧lit=false∧As P lit sh= .ifs (qo P)):=by
 unfold As
 split
 ·exact .inr ⟨rfl,rfl,rfl⟩
 ·exact .inl rfl
theorem K5(h:Cx P E F M c w t a){o:Oper}{op:BinOp}{ty ty':TypeId}{y z:Operand}(neg:Bool)(hop:o.op= .binOp (if neg then .neq else .eql) ty y z ty'){sh:Sh}(hsh:YS P ty=some sh){d:TypeDesc}(hu:P.underlying ty=some d)(hd1:∀k,d≠ .int k)(hd2:d≠ .string)
 {xa xb:X} (h1:bp y=some xa) (h2:bp z=some xb) {x:V} (hx:(dh (.eq neg (As P (isConstO y||isConstO z) sh) (isConstO y||isConstO z) xa xb) F M t).val=some x):tE P E c w a o x:=by
 have e1:=h.ev h1
 have e2:=h.ev h2
 have hx':(zq neg (yR F M (As P (isConstO y||isConstO z) sh) (isConstO y||isConstO z) (xa.ev t) (xb.ev t))).val=some x:=hx
 unfold zq at hx'
 split at hx'
 ·rename_i r hr;obtain rfl:=ur hx';refine⟨?_,trivial⟩
  have fin:∀(hodd:Odd (conc E (xa.ev t))),(∀op,(eqGuard op ty y z (conc E (xa.ev t)) (conc E (xb.ev t))).run P w= .ok () w)→(Op.equalIn 10000 ty (conc E (xa.ev t)) (conc E (xb.ev t))).run P w= .ok r w→
   (execOp a.eval o).run P w= .ok (.value (conc E (.b (bif neg then !r else r)))) w:=by
   intro hodd hg he;simp only[execOp,hop];refine bf ?_;rw[e1.1,e2.1,bI0 hodd hg he neg];cases neg<;>rfl
  rcases ES P (isConstO y||isConstO z) sh with hif|⟨rfl,hlit,hif⟩
  rotate_left
  ·rw[hif]at hr;have hr':Cc (qo P) (xa.ev t) (xb.ev t)=some r:=hr;have hui:∃ms,P.underlying ty=some (.interface ms):=by
    unfold YS at hsh;split at hsh
    ·split at hsh
     ·cases hsh
     ·obtain⟨_,_,hh⟩:=aX.1 hsh;cases hh
    ·have:=tk hsh;cases this with
     |iface ms hu'=>exact⟨ms,hu'⟩
   obtain⟨ms,hui⟩:=hui;obtain⟨k1,k2⟩:=LZ hr';refine fin ?_ (fun op=>?_) (Xq hui hr' 9998)
   ·rcases k1 with e|⟨_,_,e⟩<;>(rw[e];trivial)
   ·refine cJ ?_ ?_
    ·rintro⟨g1,g2⟩;refine k2 ⟨?_,?_⟩
     ·rcases k1 with e|⟨_,_,e⟩
      ·exact e
      ·rw[e]at g1;cases g1
     ·rcases EE hr' with e|⟨_,_,e⟩
      ·exact e
      ·rw[e]at g2;cases g2
    ·rintro l m ⟨g1,g2⟩;rcases k1 with e|⟨_,_,e⟩<;>(rw[e]at g1;cases g1)
  rw[hif]at hr;unfold YS at hsh;split at hsh
  ·rename_i fs hus;split at hsh
   ·cases hsh
   ·rename_i hcond;simp only[Bool.or_eq_true,not_or,Bool.not_eq_true]at hcond;obtain⟨ks,hks,rfl⟩:=aX.1 hsh;have hr':yP F M ks (xa.ev t) (xb.ev t)=some r:=hr;unfold yP at hr';split at hr'
    ·rename_i xs ys hvx hvy;have hf:P.fieldsOf ty=fs:=by simp[Program.fieldsOf,hus]
     refine fin (by rw[hvx];trivial) (fun op=>?_) ?_
     ·rw[hvx,hvy];exact run_eqGuard_agg w op ty y z _ _ hcond.2
     ·rw[hvx,hvy];simp only[conc];rw[run_equalIn_struct (P:=P) w 9999 ty _ _ (by rw[hf];exact hus) hcond.1,hf];exact yQ h hks hr' 9998
    ·cases hr'
  ·rename_i hns;have hrel:=tk hsh;have hr':Jn F M sh (isConstO y||isConstO z) (xa.ev t) (xb.ev t)=some r:=by
    cases hrel<;>exact hr
   have he:=Ag h hrel hr' 9999;cases hrel with
   |int k hu'=>rw[hu]at hu';exact absurd (ag hu') (hd1 k)
   |str hu'=>rw[hu]at hu';exact absurd (ag hu') hd2
   |bool hu'=>
    have hq:eqB (xa.ev t) (xb.ev t)=some r:=hr';unfold eqB at hq;split at hq
    ·rename_i p q hvx hvy;refine fin (by rw[hvx];trivial) (fun op=>?_) he;rw[hvx,hvy];exact cJ (by simp[conc]) (by simp[conc])
    ·cases hq
   |ptr el s hu' hz=>
    have hq:eqP F M (xa.ev t) (xb.ev t)=some r:=hr';unfold eqP at hq;split at hq
    ·rename_i hvx hvy;refine fin (by rw[hvx];trivial) (fun op=>?_) he;rw[hvx,hvy];exact cJ (by simp[conc]) (by simp[conc])
    ·rename_i hvx hvy;refine fin (by rw[hvx];trivial) (fun op=>?_) he;rw[hvx,hvy];exact cJ (by simp[conc]) (by simp[conc])
    ·rename_i hvx hvy;refine fin (by rw[hvx];trivial) (fun op=>?_) he;rw[hvx,hvy];exact cJ (by simp[conc]) (by simp[conc])
    ·rename_i hvx hvy;refine fin (by rw[hvx];trivial) (fun op=>?_) he;rw[hvx,hvy];exact cJ (by simp[conc]) (by simp[conc])
    ·cases hq
   |slice el hu'=>
    have key:∀b,uE (xa.ev t)=some b→ ∃ad n k,conc E (xa.ev t)= .slice ad n k:=by
     intro b hb;have:=iP (E:=E) hb;cases b with
     |true=>simp only[if_true]at this;exact⟨_,_,_,this⟩
     |false=>simp only[bg,if_false]at this;obtain⟨ad,n,k,e⟩:=this;exact⟨_,_,_,e⟩
    obtain⟨ad,n,k,e⟩:∃ad n k,conc E (xa.ev t)= .slice ad n k:=by
     rcases dB (show jx true (uE (xa.ev t)) (uE (xb.ev t))=some r from hr')with⟨g,_⟩|⟨g,_⟩|⟨g,_⟩<;>exact key _ g
    refine fin (by rw[e];trivial) (fun op=>?_) he;rw[e];exact cJ (by simp) (by simp)
   |map kk el hu'=>
    have key:∀b,Cs (xa.ev t)=some b→ ∃r,conc E (xa.ev t)= .map r:=by
     intro b hb;have:=iQ (E:=E) hb;cases b with
     |true=>simp only[if_true]at this;exact⟨_,this⟩
     |false=>simp only[bg,if_false]at this;obtain⟨r,e⟩:=this;exact⟨_,e⟩
    obtain⟨r',e⟩:∃r,conc E (xa.ev t)= .map r:=by
     rcases dB (show jx true (Cs (xa.ev t)) (Cs (xb.ev t))=some r from hr')with⟨g,_⟩|⟨g,_⟩|⟨g,_⟩<;>exact key _ g
    refine fin (by rw[e];trivial) (fun op=>?_) he;rw[e];exact cJ (by simp) (by simp)
   |func p rr v hu'=>
    have key:∀b,Cr (xa.ev t)=some b→conc E (xa.ev t)= .nilFunc∨ ∃f l k,conc E (xa.ev t)= .func f l k:=by
     intro b hb;have:=iO (E:=E) hb;cases b with
     |true=>simp only[if_true]at this;exact .inl this
     |false=>simp only[bg,if_false]at this;exact .inr this
    have e:conc E (xa.ev t)= .nilFunc∨ ∃f l k,conc E (xa.ev t)= .func f l k:=by
     rcases dB (show jx true (Cr (xa.ev t)) (Cr (xb.ev t))=some r from hr')with⟨g,_⟩|⟨g,_⟩|⟨g,_⟩<;>exact key _ g
    rcases e with e|⟨f,l,k,e⟩
    ·refine fin (by rw[e];trivial) (fun op=>?_) he;rw[e];exact cJ (by simp) (by simp)
    ·refine fin (by rw[e];trivial) (fun op=>?_) he;rw[e];exact cJ (by simp) (by simp)
   |iface ms hu'=>
    rcases dB (show jx (isConstO y||isConstO z) (AB (xa.ev t)) (AB (xb.ev t))=some r from hr')with⟨g1,g2,hlit,_⟩|⟨g1,g2,_⟩|⟨g1,g2,_⟩
    ·have a1:=cD g1;have a2:=cD g2;simp only[if_true]at a1 a2;refine fin (by rw[a1];trivial) (fun op=>?_) he;rw[a1,a2];exact Ca hlit
    ·have a1:=cD g1;have a2:=cD g2;simp only[if_true,bg,if_false]at a1 a2;obtain⟨_,_,a2⟩:=a2;refine fin (by rw[a1];trivial) (fun op=>?_) he;rw[a1,a2];exact cJ (by simp[conc]) (by simp[conc])
    ·have a1:=cD g1;have a2:=cD g2;simp only[if_true,bg,if_false]at a1 a2;obtain⟨_,_,a1⟩:=a1;refine fin (by rw[a1];trivial) (fun op=>?_) he;rw[a1,a2];exact cJ (by simp[conc]) (by simp[conc])
 ·cases hx'
theorem aw3(h:Cx P E F M c w t a){o:Oper}{op:BinOp}{ty ty':TypeId}{y z:Operand}(hop:o.op= .binOp op ty y z ty'){q:QO}(hc:aF P o.op=some (.q q)){x:V}(hx:(dh q F M t).val=some x):tE P E c w a o x:=by
 rw[hop]at hc
 simp only[aF]at hc
 have num:∀xa xb,bp y=some xa→bp z=some xb→QO.bi op xa xb=q→tE P E c w a o x:=by
  intro xa xb h1 h2 hq;subst hq;have e1:=h.ev h1;have e2:=h.ev h2;have hb:=bE2 (P:=P) (E:=E) (c:=c) (w:=w) op ty (xv:=xa.ev t) (yv:=xb.ev t) (v:=x) hx y z;refine⟨?_,hb.2⟩;simp only[execOp,hop];refine bf ?_;rw[e1.1,e2.1];exact hb.1
 split at hc
 ·rename_i k xa xb hu h1 h2;exact num xa xb h1 h2 (by simpa [Ev.q]using hc)
 ·rename_i xa xb hu h1 h2;exact num xa xb h1 h2 (by simpa [Ev.q]using hc)
 ·rename_i d xa xb hn1 hn2 hu h1 h2;split at hc
  ·obtain⟨sh,hsh,e⟩:=bk.1 hc;obtain rfl:QO.eq false (As P (isConstO y||isConstO z) sh) (isConstO y||isConstO z) xa xb=q:=by simpa [Ev.q]using e
   exact K5 h (op:= .eql) false hop hsh hu (fun k e=>hn1 k e) (fun e=>hn2 e) h1 h2 hx
  ·obtain⟨sh,hsh,e⟩:=bk.1 hc;obtain rfl:QO.eq true (As P (isConstO y||isConstO z) sh) (isConstO y||isConstO z) xa xb=q:=by simpa [Ev.q]using e
   exact K5 h (op:= .neq) true hop hsh hu (fun k e=>hn1 k e) (fun e=>hn2 e) h1 h2 hx
  ·cases hc
 ·cases hc
end
theorem eW{α:Type}{x:Array α}{l:List α}(h:x.toList=l):x=l.toArray:=by
 rw[←h]
section
variable{P:Program}{E:dj}{F:RO}{M:Mem}{c:Nat→Prop}{w:World}{t:T}{a:Act}
theorem cX{o:Oper}{cl:Call}{b:Builtin}(hop:o.op= .call cl)(hb:cl.callee= .builtin b){l:List Operand}(hl:cl.args.toList=l){r:Result Next}
 (h:(builtin b cl.argTypes o.type (cl.args.map fun| .const _=>true|_=>false) (l.map a.eval).toArray).run P w=r):(execOp a.eval o).run P w=r:=by
 have hm:cl.args.map a.eval=(l.map a.eval).toArray:=by rw[eW hl];simp
 simp only[execOp,hop,resolve,hb,hm,aT,aO,aZ,invoke]
 exact h
theorem My{v:V}{n:Nat}(h:EZ v=some n):∃ad k,conc E v= .slice ad n k:=by
 cases v<;>first|cases(show(none:Option Nat)=some n from h)|(obtain rfl:=ag h;exact⟨_,_,rfl⟩)
theorem qB{mx:Bool}(h:Cx P E F M c w t a):∀{os:List Operand} {xs:List X} {v x:V},jk os=some xs→minAll mx t v xs=some x→bd c v→
 ((os.map a.eval).foldlM (if mx then Builtin.max2 else Builtin.min2) (conc E v)).run P w= .ok (conc E x) w∧bd c x
 |[],xs,v,x,hc,hm,hb=>by
  obtain rfl:=ag hc;obtain rfl:=ag hm;exact⟨rfl,hb⟩
 |o::os,xs,v,x,hc,hm,hb=>by
  rw[jk]at hc;split at hc
  ·rename_i z l h1 h2;obtain rfl:=ag hc;rw[minAll]at hm;split at hm
   ·rename_i v' hv';have e:=h.ev h1;unfold F6 at hv';split at hv'
    ·rename_i k m k' n hy;rw[Jr]at hv';obtain rfl:=ag hv';have ih:=qB h h2 hm trivial;refine⟨?_,ih.2⟩;rw[hy]at e;rw[List.map_cons,List.foldlM_cons,aT,e.1];have hstep:((if mx then Builtin.max2 else Builtin.min2) (conc E (.i k m)) (conc E (.i k' n))).run P w= .ok (conc E (.i k (bif MG (bif mx then m else n) (bif mx then n else m)then n else m))) w:=by
      cases mx with
      |true=>
       simp only[if_true,conc,Builtin.max2,aO,cond_true,gD,cond_eq_ite,decide_eq_true_eq]
      |false=>
       simp only[bg,if_false,conc,Builtin.min2,aO,cond_false,gD,cond_eq_ite,decide_eq_true_eq]
     rw[hstep];exact ih.1
    ·cases hv'
   ·cases hm
  ·cases hc
theorem az1{ats:Array TypeId}{ty n k:Nat}:(Builtin.unsafeSliceData_ ats ty #[.slice none n k]).run P w= .ok (.pointer none) w:=rfl
theorem Kr{ats:Array TypeId}{ty n k:Nat}{ad:Addr}(hk:k≠0):(Builtin.unsafeSliceData_ ats ty #[.slice (some ad) n k]).run P w= .ok (.pointer (some ad)) w:=by
 change(if k≠0 then(pure (.pointer (some ad)):Sem Value)else _).run P w=_
 rw[ae hk];rfl
theorem MW(h:Cx P E F M c w t a){o:Oper}{cl:Call}{b:Builtin}(hop:o.op= .call cl)(hb:cl.callee= .builtin b){q:QO}(hc:eY P b cl.args.toList cl.argTypes.toList=some (.q q)){x:V}(hx:(dh q F M t).val=some x):tE P E c w a o x:=by
 unfold eY at hc
 split at hc
 ·
  rename_i y ty hargs htys;have hat:cl.argTypes[0]?=some ty:=by rw[eW htys];rfl
  split at hc
  ·rename_i z hu hz;obtain rfl:QO.ln .str z=q:=by simpa [Ev.q]using hc
   obtain⟨n,s,hv,hg⟩:=oW (show(tY (z.ev t) QR.f fun n _=>QR.v (.i .i64 (.ofNat n))).val=some x from hx);obtain rfl:=ag hg;have e:=h.ev hz;rw[hv]at e;refine⟨cX hop hb hargs ?_,trivial⟩;simp only[builtin];refine bf ?_;simp[Builtin.len_,hat,e.1,aR hu,conc,ec,goInt]
  ·rename_i el z hu hz;obtain rfl:QO.ln .slice z=q:=by simpa [Ev.q]using hc
   have hx':(Kd (EZ (z.ev t))).val=some x:=hx;cases hl:EZ (z.ev t)with
   |none=>rw[hl]at hx';cases(show(none:Option V)=some x from hx')
   |some n=>
    rw[hl]at hx';obtain rfl:=ag hx';obtain⟨ad,k,hcv⟩:=My (E:=E) hl;have e:=h.ev hz;rw[hcv]at e;refine⟨cX hop hb hargs ?_,trivial⟩;simp only[builtin];refine bf ?_;simp[Builtin.len_,hat,e.1,aR hu,conc,goInt]
  ·rename_i kt el z hu hz;obtain rfl:QO.ln .map z=q:=by simpa [Ev.q]using hc
   have e:=h.ev hz;have hx':(bK8 F M (z.ev t)).val=some x:=hx;unfold bK8 at hx';split at hx'
   ·rename_i hv;obtain rfl:=ag hx';rw[hv]at e;refine⟨cX hop hb hargs ?_,trivial⟩;simp only[builtin];refine bf ?_;simp[Builtin.len_,hat,e.1,aR hu,conc,goInt]
   ·rename_i b' hv;obtain⟨es,k,hl,hg⟩:=LA hx';rw[b9]at hg;obtain rfl:=ag hg;obtain⟨ho,_⟩:=h.map hl;rw[hv]at e;refine⟨cX hop hb hargs ?_,trivial⟩;simp only[builtin];refine bf ?_;simp[Builtin.len_,hat,e.1,aR hu,conc,goInt,xr ho]
   ·cases hx'
  ·rename_i n el z hu hz;obtain rfl:QO.lnc n=q:=by simpa [Ev.q]using hc
   cases(show(none:Option V)=some x from hx)
  ·rename_i ar z hu hz;split at hc
   ·rename_i n el hua;obtain rfl:QO.lnc n=q:=by simpa [Ev.q]using hc
    cases(show(none:Option V)=some x from hx)
   ·cases hc
  ·cases hc
 ·
  rename_i y ty hargs htys;have hat:cl.argTypes[0]?=some ty:=by rw[eW htys];rfl
  split at hc
  ·rename_i el z hu hz;obtain rfl:QO.cp z=q:=by simpa [Ev.q]using hc
   have e:=h.ev hz;have hx':(wY z F M t).val=some x:=hx;unfold wY at hx';split at hx'
   ·rename_i hv;obtain rfl:=ag hx';rw[hv]at e;refine⟨cX hop hb hargs ?_,trivial⟩;simp only[builtin];refine bf ?_;simp[Builtin.cap_,hat,e.1,aR hu,conc,goInt]
   ·rename_i b' off n k hv;obtain rfl:=ag hx';rw[hv]at e;refine⟨cX hop hb hargs ?_,trivial⟩;simp only[builtin];refine bf ?_;simp[Builtin.cap_,hat,e.1,aR hu,conc,goInt]
   ·cases hx'
  ·cases hc
 ·
  split at hc
  ·split at hc
   ·split at hc
    ·split at hc
     ·split at hc<;>cases hc
     ·cases hc
    ·split at hc<;>cases hc
   ·cases hc
  ·cases hc
 ·split at hc
  ·split at hc
   ·split at hc<;>cases hc
   ·cases hc
  ·cases hc
 ·
  split at hc
  ·split at hc
   ·split at hc<;>cases hc
   ·cases hc
  ·cases hc
 ·
  rename_i _ y ys hargs;split at hc
  ·rename_i z zs hz hzs;obtain rfl:QO.mn false z zs=q:=by simpa [Ev.q]using hc
   have hm:=xj (show(qr (minAll false t (z.ev t) zs)).val=some x from hx);have e:=h.ev hz;have hr:=qB h hzs hm e.2;refine⟨cX hop hb hargs ?_,hr.2⟩;simp only[builtin];refine bf ?_;simp only[Builtin.min_,List.map_cons,List.toList_toArray,e.1]
   simpa using hr.1
  ·cases hc
 ·
  rename_i _ y ys hargs;split at hc
  ·rename_i z zs hz hzs;obtain rfl:QO.mn true z zs=q:=by simpa [Ev.q]using hc
   have hm:=xj (show(qr (minAll true t (z.ev t) zs)).val=some x from hx);have e:=h.ev hz;have hr:=qB h hzs hm e.2;refine⟨cX hop hb hargs ?_,hr.2⟩;simp only[builtin];refine bf ?_;simp only[Builtin.max_,List.map_cons,List.toList_toArray,e.1]
   simpa using hr.1
  ·cases hc
 ·
  split at hc
  ·obtain⟨sh,_,e⟩:=aX.1 hc;cases e
  ·cases hc
 ·
  split at hc
  ·split at hc<;>cases hc
  ·cases hc
 ·
  rename_i _ y hargs;obtain⟨z,hz,rfl⟩:=mi (f:=fun x=> .sd x) hc;have e:=h.ev hz;have hx':(xd z F M t).val=some x:=hx;unfold xd at hx';split at hx'
  ·rename_i hv;obtain rfl:=ag hx';rw[hv]at e;refine⟨cX hop hb hargs ?_,trivial⟩;simp only[builtin];refine bf ?_;simp only[List.map_cons,List.map_nil,e.1,conc];exact az1
  ·rename_i b' off n k hv;rw[bK]at hx';by_cases hk:k=0
   ·rw[af hk]at hx';cases(show(none:Option V)=some x from hx')
   ·rw[ah hk]at hx';obtain rfl:=ag hx';rw[hv]at e;refine⟨cX hop hb hargs ?_,e.2⟩;simp only[builtin];refine bf ?_;simp only[List.map_cons,List.map_nil,e.1,conc];exact Kr hk
  ·rename_i b' off n el kn hv;rw[eT]at hx';by_cases hk:el<kn
   ·rw[af hk]at hx';obtain rfl:=ag hx';rw[hv]at e;refine⟨cX hop hb hargs ?_,e.2⟩;have hne:¬(kn-el+E.κ b'=0):=by omega
    simp only[builtin];refine bf ?_;simp only[List.map_cons,List.map_nil,e.1,conc];exact Kr hne
   ·rw[ah hk]at hx';cases(show(none:Option V)=some x from hx')
  ·cases hx'
 ·split at hc
  ·obtain⟨z,_,e⟩:=aX.1 hc;cases e
  ·cases hc
 ·cases hc
end
theorem t5{fn:Func}{n:String}(hn:fn.name=n)(ho:fn.origin= "")(h1:Extern.allNextRows.lookup n=none)(h2:Extern.allNextRows.lookup "" =none):Extern.findNext fn=none:=by
 unfold Extern.findNext
 dsimp only
 rw[hn,ho,h1,h2];rfl
theorem wi{fn:Func}{n:String}{e:Array Value→Sem Value}(hn:fn.name=n)(h0:Extern.allGenericRows.lookup n=none)(h1:Extern.allTypedRows.lookup n=none)(h2:Extern.allRows.lookup n=some e):Extern.find fn=some e:=by
 unfold Extern.find
 dsimp only
 rw[hn,h0,h1,h2];rfl
theorem EH{fn:Func}{n:String}{e:Extern.Typed}(hn:fn.name=n)(h0:Extern.allGenericRows.lookup n=none)(h1:Extern.allTypedRows.lookup n=some e):Extern.find fn=some (e fn.params fn.resultTypes):=by
 unfold Extern.find
 dsimp only
 rw[hn,h0,h1];rfl
theorem wN:Extern.allNextRows.lookup "" =none:=by kernel_rfl
theorem cH0:Extern.allNextRows.lookup "internal/bytealg.IndexByteString" =none:=by kernel_rfl
theorem cH1:Extern.allNextRows.lookup "internal/abi.NoEscape" =none:=by kernel_rfl
theorem cH2:Extern.allNextRows.lookup "internal/bytealg.MakeNoZero" =none:=by kernel_rfl
theorem cD1:Extern.allGenericRows.lookup "internal/bytealg.IndexByteString" =none:=by kernel_rfl
theorem cD2:Extern.allGenericRows.lookup "internal/abi.NoEscape" =none:=by kernel_rfl
theorem cD3:Extern.allGenericRows.lookup "internal/bytealg.MakeNoZero" =none:=by kernel_rfl
theorem cR5:Extern.allTypedRows.lookup "internal/bytealg.IndexByteString" =none:=by kernel_rfl
theorem cR6:Extern.allTypedRows.lookup "internal/abi.NoEscape" =none:=by kernel_rfl
theorem cR7:Extern.allTypedRows.lookup "internal/bytealg.MakeNoZero" =some Extern.BytealgMakeNoZero.makeNoZero:=by kernel_rfl
theorem ck6:Extern.allRows.lookup "internal/bytealg.IndexByteString" =some Extern.BytealgIndexByte.indexByte:=by kernel_rfl
theorem ck7:Extern.allRows.lookup "internal/abi.NoEscape" =some Extern.AbiNoEscape.same:=by kernel_rfl
theorem ofNat_lt{a b:Nat}(ha:a<256)(hb:b<256):UInt8.ofNat a<UInt8.ofNat b↔a<b:=by
 rw[UInt8.lt_iff_toNat_lt]
 simp[UInt8.toNat_ofNat',Nat.mod_eq_of_lt ha,Nat.mod_eq_of_lt hb]
theorem tS(c:Nat):∀(n x i:Nat),(match tR (c%256) n x i with|some j=>(j:Int)|none=> -1)=if Lib.indexByte (bl n x) (UInt8.ofNat c)= -1 then -1 else Lib.indexByte (bl n x) (UInt8.ofNat c)+i
 |0,x,i=>by simp[tR,bl,Lib.indexByte]
 |n+1,x,i=>by
  have ih:=tS c n (x/256) (i+1);rw[tR,bK,bl,Lib.indexByte];have hg:=Lib.indexByte_ge (bl n (x/256)) (UInt8.ofNat c);by_cases hc:x%256=c%256
  ·have hb:(UInt8.ofNat (x%256)==UInt8.ofNat c)=true:=by rw[hc,zl];simp
   rw[show Nat.mod x 256=x%256 from rfl,af hc,cond_true,hb];simp
  ·have hb:(UInt8.ofNat (x%256)==UInt8.ofNat c)=false:=by
    rw[beq_eq_false_iff_ne];intro e;apply hc;have:=congrArg UInt8.toNat e;simpa [UInt8.toNat_ofNat']using this
   rw[show Nat.mod x 256=x%256 from rfl,ah hc,cond_false,hb];show(match tR (c%256) n (x/256) (i+1)with|some j=>(j:Int)|none=> -1)=_;rw[ih];simp only[bg,if_false];by_cases h1:Lib.indexByte (bl n (x/256)) (UInt8.ofNat c)= -1
   ·rw[ae h1,h1];simp
   ·rw[ab h1];have h2:(Lib.indexByte (bl n (x/256)) (UInt8.ofNat c)== -1)=false:=by rw[beq_eq_false_iff_ne];exact h1
    simp only[h2,bg,if_false];rw[ab (by omega)];omega
section
variable{P:Program}{E:dj}{F:RO}{M:Mem}{c:Nat→Prop}{w:World}{t:T}{a:Act}
theorem nR{o:Oper}{cl:Call}{f:FuncId}{fn:Func}{e:Array Value→Sem Value}(hop:o.op= .call cl)(hcal:cl.callee= .value (.func f))(hf:P.funcs[f]?=some fn)(hb:fn.body.isNone=true)(hne:fn.name≠ "runtime.NumGoroutine")
 (hn:Extern.findNext fn=none) (he:Extern.find fn=some e) {l:List Operand} (hl:cl.args.toList=l) {v:Value} {w':World} (h:(e (l.map a.eval).toArray).run P w= .ok v w'):(execOp a.eval o).run P w= .ok (.value v) w':=by
 have hm:cl.args.map a.eval=(l.map a.eval).toArray:=by rw[eW hl];simp
 have hr:=run_callFunc_extern (P:=P) hf (by simpa using hne) hb hn he (l.map a.eval).toArray w
 simp only[execOp,hop,resolve,hcal,aT,hm,Act.eval,Deferred.ofValue,aO,aZ,invoke,Array.empty_append,Array.append_empty,hr,h]
theorem BW{v:V}{n:Nat}(h:zX v=some n):v= .i .u8 (n:Int):=by
 unfold zX at h
 split at h
 ·obtain rfl:=ag h;rfl
 ·cases h
theorem Cx.loadN_cells(h:Cx P E F M c w t a){b o n:Nat}{l:List V}(hl:Ev.loadN F M b o n=some l):
 ∀j v,(aB E l)[j]?=some v→w.cell? ⟨E.ρ b,E.β b+o+j,none⟩=some v:=by
 obtain⟨ty,m,ex,fz,str,d,cs,hb,hg⟩:=fU (f:=none) hl (by simp)
 obtain⟨arr,fr,ho,hr⟩:=h.cells hb
 have hc:=j9 n o l hg
 intro j v hj
 rw[bC,List.getElem?_map,aX]at hj
 obtain⟨x,hx,rfl⟩:=hj
 simp only[World.cell?,ho,Option.isSome_none,bg,if_false]
 rw[Nat.add_assoc]
 exact hr.cell _ _ (hc.2 j x hx)
theorem Cx.readB_cells(h:Cx P E F M c w t a){n b o:Nat}{vs:List V}{r:Option Nat}(hr:Ev.readB F M 1 n b o=some (vs,r)):
 vs.length=n∧ ∀j v,(aB E vs)[j]?=some v→w.cell? ⟨E.ρ b,E.β b+o+j,none⟩=some v:=by
 refine⟨by have:=(h.readB hr).2.2;omega,?_⟩
 unfold Ev.readB at hr
 rw[bK]at hr
 by_cases hn:n=0
 ·rw[af hn,cond_true]at hr;obtain⟨rfl,_⟩:=Prod.mk.inj (ag hr);intro j v hj;simp[aB]at hj
 ·rw[ah hn,cond_false]at hr;split at hr
  ·rename_i us hl;obtain⟨rfl,_⟩:=Prod.mk.inj (ag hr);exact h.loadN_cells hl
  ·cases hr
theorem pz{r o n s cap:Nat}{vs:List V}(hs:ff vs=some (n,s))(hc:∀j v,(aB E vs)[j]?=some v→w.cell? ⟨r,o+j,none⟩=some v):(Extern.Bytes.bytesOf (.slice (some ⟨r,o,none⟩) vs.length cap)).run P w= .ok (ba n s) w:=by
 obtain⟨ns,rfl,rfl,hb⟩:=kL _ _ _ hs
 have:=Lib.run_loadBytesX (P:=P) w (ns.map Int.ofNat) ⟨r,o,none⟩ .empty fun j x hj=>by
  rw[Addr.add_eq];refine hc j (.int .u8 x) ?_;rw[List.getElem?_map,aX]at hj;obtain⟨k,hk,rfl⟩:=hj;rw[bC,List.getElem?_map,List.getElem?_map,hk];rfl
 rw[List.length_map]at this
 rw[List.length_map]
 show(Extern.Bytes.loadBytes ⟨r,o,none⟩ _ .empty).run P w=_
 rw[this]
 congr 1
 apply sH
 rw[hb]
 simp[Lib.bytesOf,List.map_map,Function.comp_def]
theorem Ab{l cap:Nat}:(Extern.Bytes.bytesOf (.slice none l cap)).run P w= .ok (ba 0 0) w:=by
 show Result.ok ByteArray.empty w=_
 congr 1
theorem Cx.bytesOf(h:Cx P E F M c w t a){v:V}{n m s:Nat}{vs:List V}{r:Option Nat}(hv:∀a b,v≠ .s a b)(hn:qx v=some n)(hr:Ev.readL F M 1 n v=some (vs,r))(hs:ff vs=some (m,s)):(Extern.Bytes.bytesOf (conc E v)).run P w= .ok (ba m s) w:=by
 have nil:∀{us:List V} {q:Option Nat},(bif Nat.beq 0 0 then some (([]:List V),(none:Option Nat))else none)=some (us,q)→us=[]:=fun he=>by
  obtain⟨rfl,_⟩:=Prod.mk.inj (ag he);rfl
 have z:∀{us:List V},us=[]→ff us=some (m,s)→m=0∧s=0:=fun e hb=>by
  subst e;obtain⟨rfl,rfl⟩:=Prod.mk.inj (ag hb);exact⟨rfl,rfl⟩
 cases v with
 |l b o len cap=>
  obtain rfl:=ag hn;obtain⟨e,hc⟩:=h.readB_cells (show Ev.readB F M 1 len b o=some (vs,r)from hr);subst e;exact pz hs hc
 |u b o len el kn=>
  obtain rfl:=ag hn;obtain⟨e,hc⟩:=h.readB_cells (show Ev.readB F M 1 len b o=some (vs,r)from hr);subst e;exact pz hs hc
 |ue b o0 o=>
  obtain rfl:=ag hn;obtain rfl:=nil (show _=some (vs,r)from hr);obtain⟨rfl,rfl⟩:=z rfl hs;show Result.ok ByteArray.empty w=_
  congr 1
 |l0=>
  obtain rfl:=ag hn;obtain rfl:=nil (show _=some (vs,r)from hr);obtain⟨rfl,rfl⟩:=z rfl hs;exact Ab
 |s a b=>exact absurd rfl (hv a b)
 |_=>cases hn
theorem Yu(h:Cx P E F M c w t a){o:Oper}{cl:Call}{f:FuncId}{fn:Func}(hop:o.op= .call cl)(hcal:cl.callee= .value (.func f))(hf:P.funcs[f]?=some fn)(hb:fn.body.isNone=true){q:QO}(hc:gJ P fn cl.args.toList=some (.q q)){x:V}(hx:(dh q F M t).val=some x):tE P E c w a o x:=by
 unfold gJ at hc
 split at hc
 ·cases hc
 ·rename_i hor;have hor:fn.origin= "" :=by simpa using hor
  split at hc
  ·rename_i y z hargs;split at hc
   ·rename_i hnm;have hnm:fn.name= "internal/bytealg.IndexByteString" :=by simpa using hnm
    split at hc
    ·rename_i xa xb h1 h2;obtain rfl:QO.xib xa xb=q:=by simpa [Ev.q]using hc
     have e1:=h.ev h1;have e2:=h.ev h2;obtain⟨n,s,hv,hg⟩:=oW (show(tY (xa.ev t) QR.f fun n s=>cd0 n s (zX (xb.ev t))).val=some x from hx);unfold cd0 at hg;split at hg
     ·rename_i k hk;rw[hv]at e1;rw[BW hk]at e2;have hfi:=tS k n s 0;have hge:=Lib.indexByte_ge (bl n s) (UInt8.ofNat k);have hxx:conc E x= .int .i64 (Lib.indexByte (bl n s) (UInt8.ofNat k))∧bd c x:=by
       unfold Yx at hg;split at hg
       ·rename_i i hi;obtain rfl:=ag hg;refine⟨?_,trivial⟩;rw[show tR (k%256) n s 0=some i from hi]at hfi;simp only at hfi;simp only[conc]
        congr 1
        show(i:Int)=_;split at hfi<;>omega
       ·rename_i hi;obtain rfl:=ag hg;refine⟨?_,trivial⟩;rw[show tR (k%256) n s 0=none from hi]at hfi;simp only at hfi;simp only[conc]
        congr 1
        show(-1:Int)=_;split at hfi<;>omega
      refine⟨?_,hxx.2⟩;refine nR hop hcal hf hb (by rw[hnm];decide) (t5 hnm hor cH0 wN) (wi hnm cD1 cR5 ck6) hargs ?_;simp only[List.map_cons,List.map_nil,e1.1,e2.1,conc];rw[Lib.run_indexByteString,gS,hxx.1];rfl
     ·cases(show(none:Option V)=some x from hg)
    ·cases hc
   ·split at hc
    ·rename_i hnm;have hnm:fn.name= "internal/bytealg.CountString" :=by simpa using hnm
     split at hc
     ·rename_i xa xb h1 h2;obtain rfl:QO.xcn xa xb=q:=by simpa [Ev.q]using hc
      cases(show(none:Option V)=some x from hx)
     ·cases hc
    ·split at hc
     ·rename_i hnm;have hnm:fn.name= "internal/bytealg.abigen_runtime_cmpstring" :=by simpa using hnm
      split at hc
      ·rename_i xa xb h1 h2;obtain rfl:QO.xcmp xa xb=q:=by simpa [Ev.q]using hc
       cases(show(none:Option V)=some x from hx)
      ·cases hc
     ·split at hc
      ·rename_i hnm;have hnm:fn.name= "internal/bytealg.IndexByte" :=by simpa using hnm
       split at hc
       ·rename_i xa xb h1 h2;obtain rfl:QO.xibB xa xb=q:=by simpa [Ev.q]using hc
        cases(show(none:Option V)=some x from hx)
       ·cases hc
      ·cases hc
  ·rename_i y hargs;split at hc
   ·rename_i hnm;have hnm:fn.name= "internal/abi.NoEscape" :=by simpa using hnm
    obtain⟨z,hz,rfl⟩:=mi (f:=fun x=> .mv x) hc;obtain rfl:z.ev t=x:=ag hx;have e:=h.ev hz;refine⟨?_,e.2⟩;refine nR hop hcal hf hb (by rw[hnm];decide) (t5 hnm hor cH1 wN) (wi hnm cD2 cR6 ck7) hargs ?_;simp only[List.map_cons,List.map_nil,e.1];rfl
   ·split at hc
    ·split at hc
     ·split at hc
      ·split at hc<;>cases hc
      ·cases hc
     ·cases hc
    ·split at hc
     ·obtain⟨z,_,e⟩:=aX.1 hc;cases e
     ·cases hc
  ·cases hc
theorem Fk(h:Cx P E F M c w t a){o:Oper}{d:TypeId}{y:Operand}(hop:o.op= .sliceToArrayPointer d y){q:QO}(hc:aF P o.op=some (.q q)){x:V}(hx:(dh q F M t).val=some x):tE P E c w a o x:=by
 rw[hop]at hc
 simp only[aF]at hc
 split at hc
 ·rename_i n el z hu hz;obtain rfl:QO.sap n z=q:=by simpa [Ev.q]using hc
  cases(show(none:Option V)=some x from hx)
 ·cases hc
theorem cL3(h:Cx P E F M c w t a){o:Oper}{q:QO}(hc:aF P o.op=some (.q q)){x:V}(hx:(dh q F M t).val=some x):tE P E c w a o x:=by
 cases hop:o.op with
 |move y=>exact Yw h (.inl hop) hc hx
 |assign y=>exact Yw h (.inr hop) hc hx
 |pick p y z=>exact bM9 h hop hc hx
 |alloc ty=>rw[hop]at hc;obtain⟨z,_,e⟩:=aX.1 hc;cases e
 |box ty y=>
  rw[hop]at hc;simp only[aF]at hc;split at hc<;>cases hc
 |build ty ps=>exact aw4 h hop hc hx
 |buildSlice ty n ps=>
  rw[hop]at hc;simp only[aF]at hc;split at hc
  ·split at hc
   ·split at hc
    ·cases hc
    ·obtain⟨z,_,e⟩:=aX.1 hc;cases e
   ·cases hc
  ·cases hc
 |insert ty m k v=>
  rw[hop]at hc;simp only[aF]at hc;split at hc
  ·obtain⟨z,_,e⟩:=aX.1 hc;cases e
  ·cases hc
 |load ty y=>exact bM8 h hop hc hx
 |store ty y z=>
  rw[hop]at hc;simp only[aF]at hc;split at hc<;>cases hc
 |ready g=>rw[hop]at hc;cases hc
 |waits g=>rw[hop]at hc;cases hc
 |nilCheck y=>exact Fm h hop hc hx
 |binOp op ty y z ty'=>exact aw3 h hop hc hx
 |unOp op ty y=>exact ax6 h hop hc hx
 |convert s d y=>exact MX h hop hc hx
 |sliceToArrayPointer d y=>exact Fk h hop hc hx
 |makeInterface ty y=>exact uI h hop hc hx
 |makeFunc fn l1 l2=>
  cases fn with
  |func f=>exact Fl h hop hc hx
  |_=>rw[hop]at hc;cases hc
 |makeMap ty r=>
  cases r with
  |none=>rw[hop]at hc;cases hc
  |some z=>rw[hop]at hc;cases hc
 |makeChan ty y=>rw[hop]at hc;cases hc
 |makeSlice ty l k=>
  rw[hop]at hc;simp only[aF]at hc;split at hc
  ·split at hc
   ·split at hc<;>cases hc
   ·cases hc
  ·cases hc
 |slice ty y lo hi mx=>exact ax4 h hop hc hx
 |fieldAddr ty y f=>exact CG h hop hc hx
 |field ty y f=>exact aw8 h hop hc hx
 |indexAddr ty y i=>exact CI h hop hc hx
 |index ty y i=>exact aw9 h hop hc hx
 |lookup ty y i ok=>exact Yv h hop hc hx
 |mapUpdate ty m k v=>
  rw[hop]at hc;simp only[aF]at hc;split at hc
  ·obtain⟨z,_,e⟩:=aX.1 hc;cases e
  ·cases hc
 |mapEntry ty m k=>rw[hop]at hc;cases hc
 |entryStore ty m s v=>rw[hop]at hc;cases hc
 |range ty y=>
  rw[hop]at hc;simp only[aF]at hc;split at hc<;>cases hc
 |next y b=>
  rw[hop]at hc;cases b<;>(obtain⟨z,_,e⟩:=aX.1 hc;cases e)
 |entry y=>rw[hop]at hc;obtain⟨z,_,e⟩:=aX.1 hc;cases e
 |typeAssert y ty ty' ok=>exact AM h hop hc hx
 |extract y i=>exact MZ h hop hc hx
 |call cl=>
  rw[hop]at hc;simp only[aF]at hc;split at hc
  ·rename_i b hcal;exact MW h hop hcal hc hx
  ·rename_i f hcal;split at hc
   ·rename_i fn hf;split at hc
    ·rename_i hb;exact Yu h hop hcal hf hb hc hx
    ·obtain⟨z,_,e⟩:=aX.1 hc;cases e
   ·cases hc
  ·split at hc<;>cases hc
  ·split at hc<;>cases hc
 |go cl=>rw[hop]at hc;cases hc
 |defer cl=>rw[hop]at hc;cases hc
 |panic y=>rw[hop]at hc;cases hc
 |send y z=>rw[hop]at hc;cases hc
 |recv ty y b=>rw[hop]at hc;cases hc
 |select cs b=>rw[hop]at hc;cases hc
end
theorem cM(n:Nat)(d:List V)(cs:T)(k:Nat):cell n d cs k=if k<n then(match cs.get k with|some v=>some v|none=>d[k%d.length]?)else none:=by
 show(Bool.rec (motive:=fun _=>Option V) none (Option.rec (motive:=fun _=>Option V) (yp d (Nat.mod k d.length)) (fun v=>some v) (cs.get k)) (Nat.blt k n))=_
 rw[bb,eT]
 simp only[decide_eq_true_eq]
 by_cases h:k<n
 ·rw[ae h,ae h];cases cs.get k with
  |none=>exact l8 d _
  |some v=>rfl
 ·rw[ab h,ab h]
theorem jN{l:List V}{k:Nat}{v:V}(h:cell l.length [] (bz l 0 .e) k=some v):l[k]?=some v:=by
 rw[cM,dH]at h
 by_cases hk:k<l.length
 ·rw[ae hk,ae (by omega)]at h;simp only[Nat.sub_zero]at h;rw[List.getElem?_eq_getElem hk]at h⊢;exact h
 ·rw[ab hk]at h;cases h
section
variable{P:Program}{E:dj}{F:RO}{M:Mem}{c:Nat→Prop}{w:World}{t:T}{a:Act}
theorem wF{E':dj}{l:List V}{b ty:Nat}(he:qP c E E')(hl:i9 c l)(hβ:E'.β b=0){arr:Array Value}(ha:arr=(aB E l).toArray):
 ft P E' b (.cells ty l.length true 0 false [] (bz l 0 .e)) (.cells arr ty):=by
 refine⟨arr,(0,0),rfl,⟨fun k v hk=>?_,?_,?_,?_⟩⟩
 ·have hk:=jN hk;rw[hβ,Nat.zero_add,ha,dO he v (eI hl hk)];simp[eM hk]
 ·simp[hβ,ha,bC]
 ·intro o _ _ h;omega
 ·intro _;exact .inl rfl
theorem rG{l:List V}{ty:Nat}{c':Nat→Prop}{ex str:Bool}{fz:Nat}(hl:i9 c l)(hc:∀b,c b→c' b):fw c' (.cells ty l.length ex fz str [] (bz l 0 .e)):=
 fun k v hk=>dZ hc v (eI hl (jN hk))
abbrev AOk(P:Program)(F:RO)(E:dj)(M:Mem)(c:Nat→Prop)(w:World)(a:Act)(o:Oper)(b:Nat)(c':Nat→Prop)(v:V)(blk:bL):Prop:=
 ∃E' w',(execOp a.eval o).run P w= .ok (.value (conc E' v)) w'∧mY P F E M c w E' (M.set b blk) c' w'∧qP (· ≠b) E E'∧bd c' v
theorem af4(h:Cx P E F M c w t a){o:Oper}{ty:TypeId}(hop:o.op= .alloc ty){ao:AO}(hc:aF P o.op=some (.a ao)){b:Nat}{c':Nat→Prop}(hb:¬c b)(hbc:c' b)(hcc:∀b,c b→c' b){v:V}{blk:bL}(ha:lz ao b t=some (v,blk)):AOk P F E M c w a o b c' v blk:=by
 rw[hop]at hc
 obtain⟨z,hz,e⟩:=aX.1 hc
 obtain rfl:AO.al ty (bQ z)=ao:=by simpa using e
 have ha':bA0 ty (bQ z) b t=some (v,blk):=ha
 unfold bA0 at ha'
 by_cases h1:bj (bQ z)=true
 ·rw[h1,cond_true]at ha';simp only[Option.some.injEq,Prod.mk.injEq]at ha';obtain⟨rfl,rfl⟩:=ha';have hz':=ph (E:=E) (c:=c) (w:=w) hz;have hcell:(conc E z).cells=(aB E (bQ z)).toArray:=by rw[dg,eg]
  have hbd:i9 c (bQ z):=by rw[eg];exact fK hz'.2
  obtain⟨E',hS,hE,hρ,hβ,_⟩:=h.rel.alloc (.cells ty (bQ z).length true 0 false [] (bz (bQ z) 0 .e)) (.cells (conc E z).cells ty) b 0 c' hb hbc hcc (rG hbd hcc) {w with heap:=w.heap.push (.cells (conc E z).cells ty)} rfl rfl rfl rfl
   (fun E' he _ hβ _=>wF he hbd hβ hcell)
  refine⟨E',_,?_,hS,hE,hbc⟩;simp only[execOp,hop];refine bf ?_;simp only[Instr.alloc,aT,hz'.1,aZ,newVar,newRow,run_newObj,aO,conc,hρ,hβ,cT]
 ·rw[Bool.not_eq_true]at h1;rw[h1]at ha';cases ha'
theorem ck1(h:Cx P E F M c w t a){o:Oper}{ty:TypeId}{y:Operand}(hop:o.op= .box ty y){ao:AO}(hc:aF P o.op=some (.a ao)){b:Nat}{c':Nat→Prop}(hb:¬c b)(hbc:c' b)(hcc:∀b,c b→c' b){v:V}{blk:bL}(ha:lz ao b t=some (v,blk)):AOk P F E M c w a o b c' v blk:=by
 rw[hop]at hc
 simp only[aF]at hc
 split at hc
 ·rename_i s x hs hx;obtain rfl:AO.bx ty s x=ao:=by simpa using hc
  have ha':Lt ty s x b t=some (v,blk):=ha;unfold Lt at ha';rw[bK]at ha';by_cases h1:(flatten (x.ev t)).length=s
  ·by_cases h2:bj (flatten (x.ev t))=true
   ·rw[af h1,h2]at ha';simp only[Bool.and_self,cond_true,Option.some.injEq,Prod.mk.injEq]at ha';obtain⟨rfl,rfl⟩:=ha';subst h1;have e:=h.ev hx;have hbd:=fK e.2
    obtain⟨E',hS,hE,hρ,hβ,_⟩:=h.rel.alloc (.cells ty (flatten (x.ev t)).length true 0 false [] (bz (flatten (x.ev t)) 0 .e)) (.cells (conc E (x.ev t)).cells ty) b 0 c' hb hbc hcc (rG hbd hcc) {w with heap:=w.heap.push (.cells (conc E (x.ev t)).cells ty)} rfl rfl rfl rfl
     (fun E' he _ hβ _=>wF he hbd hβ (dg E _))
    refine⟨E',_,?_,hS,hE,hbc⟩;simp only[execOp,hop];refine bf ?_;rw[e.1];simp only[Instr.box,aT,aZ,newVar,newRow,run_newObj,aO,conc,hρ,hβ,cT]
   ·rw[Bool.not_eq_true]at h2;rw[h2,Bool.and_false]at ha';cases ha'
  ·rw[ah h1]at ha';cases ha'
 ·cases hc
theorem Lv(h:Cx P E F M c w t a){o:Oper}{ty:TypeId}(hop:o.op= .makeMap ty none){ao:AO}(hc:aF P o.op=some (.a ao)){b:Nat}{c':Nat→Prop}(hb:¬c b)(hbc:c' b)(hcc:∀b,c b→c' b){v:V}{blk:bL}(ha:lz ao b t=some (v,blk)):AOk P F E M c w a o b c' v blk:=by
 rw[hop]at hc
 obtain rfl:AO.mkm=ao:=by simpa [aF]using hc
 cases(show(none:Option (V×bL))=some (v,blk)from ha)
theorem OW(h:Cx P E F M c w t a){o:Oper}{ty:TypeId}{y:Operand}(hop:o.op= .range ty y){ao:AO}(hc:aF P o.op=some (.a ao)){b:Nat}{c':Nat→Prop}(hb:¬c b)(hbc:c' b)(hcc:∀b,c b→c' b){v:V}{blk:bL}(ha:lz ao b t=some (v,blk)):AOk P F E M c w a o b c' v blk:=by
 rw[hop]at hc
 simp only[aF]at hc
 split at hc
 ·rename_i x hu hx;obtain rfl:AO.rgs x=ao:=by simpa using hc
  have e:=h.ev hx;cases hv:x.ev t with
  |s n s=>
   have ha':(tY (x.ev t) none fun n s=>some (V.p b 0,bL.siter n s 0))=some (v,blk):=ha;rw[hv]at ha' e;have ha2:some (V.p b 0,bL.siter n s 0)=some (v,blk):=ha';simp only[Option.some.injEq,Prod.mk.injEq]at ha2;obtain⟨rfl,rfl⟩:=ha2;obtain⟨E',hS,hE,hρ,hβ,_⟩:=h.rel.alloc (.siter n s 0) (.stringIter (ba n s) 0) b 0 c' hb hbc hcc trivial {w with heap:=w.heap.push (.stringIter (ba n s) 0)} rfl rfl rfl rfl (fun E' _ _ hβ _=>⟨hβ,rfl⟩);refine⟨E',_,?_,hS,hE,hbc⟩;simp only[execOp,hop];refine bf ?_;rw[e.1];simp[Instr.range,aR hu,conc,hρ,hβ]
  |_=>
   have ha':(tY (x.ev t) none fun n s=>some (V.p b 0,bL.siter n s 0))=some (v,blk):=ha;rw[hv]at ha';cases(show(none:Option (V×bL))=some (v,blk)from ha')
 ·cases hc
 ·cases hc
theorem py(n:Nat):∀(x j:Nat) (v:V),(cC n x)[j]?=some v→bd c v:=fun x j v hj=>eI (mg n x) hj
theorem Lu(h:Cx P E F M c w t a){o:Oper}{s d:TypeId}{y:Operand}(hop:o.op= .convert s d y){ao:AO}(hc:aF P o.op=some (.a ao)){b:Nat}{c':Nat→Prop}(hb:¬c b)(hbc:c' b)(hcc:∀b,c b→c' b){v:V}{blk:bL}(ha:lz ao b t=some (v,blk)):AOk P F E M c w a o b c' v blk:=by
 rw[hop]at hc
 simp only[aF]at hc
 split at hc
 ·cases hc
 ·cases hc
 ·split at hc<;>cases hc
 ·rename_i el x hs hd hx;split at hc
  ·rename_i hu8;obtain rfl:AO.sb el x=ao:=by simpa using hc
   rw[aC]at hu8;have hel:P.underlying el=some (.int .u8):=by
    have:=hu8.1;unfold Cm at this;split at this
    ·assumption
    ·cases this
   have hsz:P.cellsOf el=1:=ka (by simpa using hu8.2);have e:=h.ev hx;have ha':(tY (x.ev t) none fun n s=>some (V.u b 0 n 0 n,bL.cells el n false 0 true [] (bz (cC n s) 0 .e)))=some (v,blk):=ha;cases hv:x.ev t with
   |s n sx=>
    rw[hv]at ha' e;have ha2:some (V.u b 0 n 0 n,bL.cells el n false 0 true [] (bz (cC n sx) 0 .e))=some (v,blk):=ha';simp only[Option.some.injEq,Prod.mk.injEq]at ha2;obtain⟨rfl,rfl⟩:=ha2;have hrun:=run_bytes_of_string (P:=P) w s d el (ba n sx) hs hd hel;have hgc:n≤grownCap w n 0 el:=by simp[grownCap,Question.cut]
    have hrow:bytesRow (ba n sx) (grownCap w n 0 el)=(aB E (cC n sx)).toArray++Array.replicate (grownCap w n 0 el-n) (.int .u8 0):=by
     rw[bytesRow,jZ,ec]
     congr 1
     simp[ba]
    have hrs:(bytesRow (ba n sx) (grownCap w n 0 el)).size=grownCap w n 0 el:=by
     rw[hrow];simp[bC,iJ];omega
    rw[ec]at hrun
    obtain⟨E',hS,hE,hρ,hβ,hκ⟩:=h.rel.alloc (.cells el n false 0 true [] (bz (cC n sx) 0 .e)) (.cells (bytesRow (ba n sx) (grownCap w n 0 el)) el ((bytesRow (ba n sx) (grownCap w n 0 el)).size,(bytesRow (ba n sx) (grownCap w n 0 el)).size+1)) b (grownCap w n 0 el-n) c' hb hbc hcc
     (fun k v hk=>dZ hcc v (by
      have hk':=jN (l:=cC n sx) (by rw[iJ];exact hk);exact py n sx _ v hk'))
     (w.drew.alloc (.cells (bytesRow (ba n sx) (grownCap w n 0 el)) el ((bytesRow (ba n sx) (grownCap w n 0 el)).size,(bytesRow (ba n sx) (grownCap w n 0 el)).size+1))) rfl rfl rfl rfl
     (fun E' he _ hβ hκ=>by
      refine⟨_,_,rfl,⟨fun k v hk=>?_,?_,?_,?_⟩⟩
      ·have hk':=jN (l:=cC n sx) (by rw[iJ];exact hk);have hlt:k<(cC n sx).length:=(List.getElem?_eq_some_iff.1 hk').1;rw[hβ,Nat.zero_add,hrow,dO he v (py n sx _ v hk'),Array.getElem?_append_left (by simpa [bC]using hlt)];simp[eM hk']
      ·simp only[bg,if_false];rw[hrs,hβ,hκ,hsz];omega
      ·intro o _ ho hf;have:=hf.1;simp only at this;omega
      ·intro hf;cases hf)
    refine⟨E',_,?_,hS,hE,hbc⟩;simp only[execOp,hop];refine bf ?_;rw[e.1];simp only[conc];rw[hrun,hρ,hβ,hκ];have e0:grownCap w n 0 el=n-0+(grownCap w n 0 el-n):=by omega
    rw[←e0]
   |_=>
    rw[hv]at ha';cases(show(none:Option (V×bL))=some (v,blk)from ha')
  ·cases hc
 ·split at hc<;>cases hc
 ·split at hc<;>cases hc
 ·split at hc<;>cases hc
 ·cases hc
theorem Dj(zero:Array Value)(n j:Nat)(hj:j<n)(hz:0<zero.size):((Array.range n).map (zero[· %zero.size]!))[j]?=zero[j%zero.size]?:=by
 have hm:j%zero.size<zero.size:=Nat.mod_lt _ hz
 simp[hj,hm]
structure yE(E:dj)(m:Nat)(zero:List V)(tr:T)(arr:Array Value):Prop where
 size:arr.size=m
 get:∀k v,cell m zero tr k=some v→arr[k]?=some (conc E v)
 bd:∀k v,cell m zero tr k=some v→Ev.bd c v
theorem sU(h:Cx P E F M c w t a){sz m:Nat}{zero:List V}:∀{ps:List (Nat×Operand)} {qs:List (Nat×X)} {tr r:T} {arr:Array Value},mh sz ps=some qs→fillP sz m t qs tr=some r→yE (c:=c) E m zero tr arr→
 ∃arr',Instr.fill (fun i=>some (i*sz,sz)) arr (ps.map fun p=>(p.1,a.eval p.2))=some arr'∧yE (c:=c) E m zero r arr'
 |[],qs,tr,r,arr,hc,hf,hR=>by
  obtain rfl:=ag hc;obtain rfl:=ag hf;exact⟨arr,rfl,hR⟩
 |(i,y)::ps,qs,tr,r,arr,hc,hf,hR=>by
  rw[mh]at hc;split at hc
  ·rename_i x l h1 h2;obtain rfl:=ag hc;rw[fillP,bK,cE,Tr.force_eq]at hf;have e:=h.ev h1;by_cases g1:(flatten (x.ev t)).length=sz
   ·by_cases g2:i*sz+sz≤m
    ·by_cases g3:bj (flatten (x.ev t))=true
     ·rw[af g1,show Nat.add (i*sz) sz=i*sz+sz from rfl,af g2,g3]at hf;simp only[Bool.and_self,cond_true]at hf;have hcells:(a.eval y).cells=(aB E (flatten (x.ev t))).toArray:=by rw[e.1,dg]
      have hlen:(aB E (flatten (x.ev t))).length=sz:=by simp[bC,g1]
      have hfold:=oN (i*sz) (aB E (flatten (x.ev t))) 0 arr
      have hR':yE (c:=c) E m zero (bz (flatten (x.ev t)) (i*sz) tr) (((aB E (flatten (x.ev t))).zipIdx 0).foldl (fun cs (p:Value×Nat)=>cs.setIfInBounds (i*sz+p.2) p.1) arr):=by
       refine⟨by rw[hfold.1,hR.size],fun k v hk=>?_,fun k v hk=>?_⟩
       ·rw[cM,dH]at hk;by_cases hkm:k<m
        ·rw[ae hkm]at hk;rw[hfold.2 k (by rw[hR.size];exact hkm),hlen,cT];rw[g1]at hk;by_cases hin:i*sz≤k∧k<i*sz+sz
         ·rw[ae hin]at hk⊢;have hlt:k-i*sz<(flatten (x.ev t)).length:=by omega
          rw[List.getElem?_eq_getElem hlt]at hk;obtain rfl:=ag hk;exact eM (List.getElem?_eq_getElem hlt)
         ·rw[ab hin]at hk⊢;exact hR.get k v (by rw[cM,ae hkm];exact hk)
        ·rw[ab hkm]at hk;cases hk
       ·rw[cM,dH]at hk;by_cases hkm:k<m
        ·rw[ae hkm]at hk;by_cases hin:i*sz≤k∧k<i*sz+(flatten (x.ev t)).length
         ·rw[ae hin]at hk;have hlt:k-i*sz<(flatten (x.ev t)).length:=by omega
          rw[List.getElem?_eq_getElem hlt]at hk;obtain rfl:=ag hk;exact eI (fK e.2) (List.getElem?_eq_getElem hlt)
         ·rw[ab hin]at hk;exact hR.bd k v (by rw[cM,ae hkm];exact hk)
        ·rw[ab hkm]at hk;cases hk
      obtain⟨arr',ha,hR''⟩:=sU h h2 hf hR';refine⟨arr',?_,hR''⟩;simp only[List.map_cons,Instr.fill,hcells];have c1:(aB E (flatten (x.ev t))).toArray.size=sz:=by simp[bC,g1]
      rw[c1,hR.size];have c2:¬(i*sz+sz>m):=by omega
      simp only[ne_eq,not_true_eq_false,decide_false,Bool.false_or,decide_eq_true_eq,c2,if_false];rw[←ha]
      congr 1
      simp
     ·rw[Bool.not_eq_true]at g3;rw[g3,Bool.and_false]at hf;cases hf
    ·rw[show Nat.add (i*sz) sz=i*sz+sz from rfl,ah g2]at hf;simp at hf
   ·rw[ah g1]at hf;simp at hf
  ·cases hc
theorem ad1{zero:List V}{m:Nat}(hz:i9 c zero)(hpos:0<zero.length):yE (c:=c) E m zero .e ((Array.range m).map ((aB E zero).toArray[· %(aB E zero).toArray.size]!)):=by
 have hsz:(aB E zero).toArray.size=zero.length:=by simp[bC]
 refine⟨by simp,fun k v hk=>?_,fun k v hk=>?_⟩
 ·rw[cM]at hk;by_cases hkm:k<m
  ·rw[ae hkm]at hk;rw[Dj _ _ _ hkm (by rw[hsz];exact hpos),hsz];simp only[Tr.get_e]at hk;simp[eM hk]
  ·rw[ab hkm]at hk;cases hk
 ·rw[cM]at hk;by_cases hkm:k<m
  ·rw[ae hkm]at hk;simp only[Tr.get_e]at hk;exact eI hz hk
  ·rw[ab hkm]at hk;cases hk
theorem Kp{E':dj}{m b ty:Nat}{zero:List V}{tr:T}{arr:Array Value}(he:qP c E E')(hR:yE (c:=c) E m zero tr arr)(hβ:E'.β b=0):ft P E' b (.cells ty m true 0 false zero tr) (.cells arr ty):=by
 refine⟨arr,(0,0),rfl,⟨fun k v hk=>?_,?_,?_,?_⟩⟩
 ·rw[hβ,Nat.zero_add,hR.get k v hk,dO he v (hR.bd k v hk)]
 ·simp[hβ,hR.size]
 ·intro o _ _ h;omega
 ·intro _;exact .inl rfl
theorem LV{m:Nat}(hm:m=0)(zero:List V):yE (c:=c) E m zero .e ((Array.range m).map ((#[]:Array Value)[· %(#[]:Array Value).size]!)):=by
 subst hm
 refine⟨by simp,fun k v hk=>?_,fun k v hk=>?_⟩<;>(rw[cM,ab (by omega)]at hk;cases hk)
theorem zV(h:Cx P E F M c w t a){o:Oper}{ty:TypeId}{n:Nat}{parts:Array (Nat×Operand)}(hop:o.op= .buildSlice ty n parts){ao:AO}(hc:aF P o.op=some (.a ao)){b:Nat}{c':Nat→Prop}(hb:¬c b)(hbc:c' b)(hcc:∀b,c b→c' b){v:V}{blk:bL}(ha:lz ao b t=some (v,blk)):AOk P F E M c w a o b c' v blk:=by
 rw[hop]at hc
 simp only[aF]at hc
 have hparts:(parts.map fun(p:Nat×Operand)=>(p.1,a.eval p.2)).toList=parts.toList.map fun p=>(p.1,a.eval p.2):=by simp
 split at hc
 ·rename_i el hu;split at hc
  ·rename_i s z hs hz;split at hc
   ·cases hc
   ·rename_i hcond;simp only[Bool.or_eq_true,decide_eq_true_eq,not_or]at hcond;obtain⟨qs,hqs,e⟩:=aX.1 hc;obtain rfl:AO.bsl el n s (bQ z) qs=ao:=by simpa using e
    have ha':yG el n s (bQ z) qs b t=some (v,blk):=ha;unfold yG at ha';split at ha'
    ·rename_i tr htr;rw[b9]at ha';simp only[Option.some.injEq,Prod.mk.injEq]at ha';obtain⟨rfl,rfl⟩:=ha';have hz':=ph (E:=E) (c:=c) (w:=w) hz;have hcell:(conc E z).cells=(aB E (bQ z)).toArray:=by rw[dg,eg]
     have hbd:i9 c (bQ z):=by rw[eg];exact fK hz'.2
     by_cases hpos:0<(bQ z).length
     ·by_cases hns:n*s=0
      ·obtain⟨arr,hfill,hR⟩:=sU h hqs (m:=n*s) htr (LV (E:=E) hns (bQ z))
       obtain⟨E',hS,hE,hρ,hβ,_⟩:=h.rel.alloc (.cells el (n*s) true 0 false (bQ z) tr) (.cells arr el) b 0 c' hb hbc hcc (fun k v hk=>dZ hcc v (hR.bd k v hk)) {w with heap:=w.heap.push (.cells arr el)} rfl rfl rfl rfl
        (fun E' he _ hβ _=>Kp he hR hβ)
       refine⟨E',_,?_,hS,hE,hbc⟩;simp only[execOp,hop];refine bf ?_;have hns':¬(n*s>2^24):=by omega
       simp only[Instr.buildSlice,aT,aR hu,aZ,eA hs,hns',if_false,Sem.run_ite,hns,if_true,aO,hparts];rw[hns]at hfill;simp only[hfill,newRow,aT,run_newObj,aO,aZ,conc,hρ,hβ,cT];rw[ab (by decide)]
      ·obtain⟨arr,hfill,hR⟩:=sU h hqs (m:=n*s) htr (ad1 (E:=E) hbd hpos)
       obtain⟨E',hS,hE,hρ,hβ,_⟩:=h.rel.alloc (.cells el (n*s) true 0 false (bQ z) tr) (.cells arr el) b 0 c' hb hbc hcc (fun k v hk=>dZ hcc v (hR.bd k v hk)) {w with heap:=w.heap.push (.cells arr el)} rfl rfl rfl rfl
        (fun E' he _ hβ _=>Kp he hR hβ)
       refine⟨E',_,?_,hS,hE,hbc⟩;simp only[execOp,hop];refine bf ?_;have hns':¬(n*s>2^24):=hcond.1.2;simp only[Instr.buildSlice,aT,aR hu,aZ,eA hs,hns',if_false,Sem.run_ite,hns,hz'.1,aO,hparts,hcell];simp only[hfill,newRow,aT,run_newObj,aO,aZ,conc,hρ,hβ,cT]
     ·exfalso;have:=hcond.2;cases hcz:bQ z with
      |nil=>rw[hcz]at this;simp at this
      |cons x l=>rw[hcz]at hpos;simp at hpos
    ·cases ha'
  ·cases hc
 ·cases hc
theorem BO(h:Cx P E F M c w t a){o:Oper}{ty:TypeId}{l k:Operand}(hop:o.op= .makeSlice ty l k){ao:AO}(hc:aF P o.op=some (.a ao)){b:Nat}{c':Nat→Prop}(hb:¬c b)(hbc:c' b)(hcc:∀b,c b→c' b){v:V}{blk:bL}(ha:lz ao b t=some (v,blk)):AOk P F E M c w a o b c' v blk:=by
 rw[hop]at hc
 simp only[aF]at hc
 split at hc
 ·rename_i el xl xk hu h1 h2;split at hc
  ·rename_i s by_ z hs hby hz;split at hc
   ·cases hc
   ·rename_i hcond;simp only[Bool.or_eq_true,decide_eq_true_eq,not_or]at hcond;obtain rfl:AO.mks el s by_ (bQ z) xl xk=ao:=by simpa using hc
    cases(show(none:Option (V×bL))=some (v,blk)from ha)
  ·cases hc
 ·cases hc
theorem C4(n:Nat):∀(x:Nat) (acc:Array Value),(Extern.BytealgMakeNoZero.digits n x acc).size=acc.size+n:=by
 induction n with
 |zero=>intro x acc;rfl
 |succ n ih=>intro x acc;rw[Extern.BytealgMakeNoZero.digits,ih];simp;omega
theorem DP{v:V}{n:Nat}(h:GF v=some n):v= .i .i64 (n:Int):=by
 unfold GF at h
 split at h
 ·obtain rfl:=ag h;rfl
 ·cases h
theorem F9{ps rs:Array TypeId}{ty el n:Nat}(hr:rs[0]?=some ty)(hu:P.underlying ty=some (.slice el))(hn:n≤1099511627776):
 ∃bytes,(Extern.BytealgMakeNoZero.makeNoZero ps rs #[.int .i64 (n:Int)]).run P w= .ok (.slice (some ⟨w.heap.size,0,none⟩) n (grownCap w n 0 el))
  {w with heap:=w.heap.push (.cells (Extern.BytealgMakeNoZero.digits (grownCap w n 0 el) bytes #[]) el),drawn:=w.drawn+1+1}:=by
 have h1:¬((n:Int)<0):=by omega
 have h2:¬((n:Int)>2^48):=by
  have h48:(2:Int)^48=281474976710656:=by decide
  rw[h48];omega
 refine⟨?_,?_⟩
 rotate_left
 ·conv=>lhs;arg 2;whnf
  simp only[hr,aT,aR hu,aZ,h1,h2,decide_false,Bool.or_self,bg,if_false,Sem.run_ite,Int.toNat_natCast,run_choose,Question.forced,run_askRoom,newRow,run_newObj,aO,Question.cut];rfl
theorem OV(h:Cx P E F M c w t a){o:Oper}{cl:Call}{f:FuncId}{fn:Func}(hop:o.op= .call cl)(hcal:cl.callee= .value (.func f))(hf:P.funcs[f]?=some fn)(hb0:fn.body.isNone=true){ao:AO}(hc:gJ P fn cl.args.toList=some (.a ao)){b:Nat}{c':Nat→Prop}(hb:¬c b)(hbc:c' b)(hcc:∀b,c b→c' b){v:V}{blk:bL}(ha:lz ao b t=some (v,blk)):AOk P F E M c w a o b c' v blk:=by
 unfold gJ at hc
 split at hc
 ·cases hc
 ·rename_i hor;have hor:fn.origin= "" :=by simpa using hor
  split at hc
  ·split at hc
   ·split at hc<;>cases hc
   ·split at hc
    ·split at hc<;>cases hc
    ·split at hc
     ·split at hc<;>cases hc
     ·split at hc
      ·split at hc<;>cases hc
      ·cases hc
  ·rename_i y hargs;split at hc
   ·obtain⟨z,hz,e⟩:=bk.1 hc;cases e
   ·split at hc
    ·rename_i hnm;have hnm:fn.name= "internal/bytealg.MakeNoZero" :=by simpa using hnm
     split at hc
     ·rename_i x ty hx hres;split at hc
      ·rename_i el hu;split at hc
       ·rename_i hu8;rw[aC]at hu8;have hsz:P.cellsOf el=1:=ka (by simpa using hu8.2);obtain rfl:AO.nz el x=ao:=by simpa using hc
        have ha':Lw el x b t=some (v,blk):=ha;unfold Lw at ha';split at ha'
        ·rename_i n hn;rw[cE]at ha';by_cases g1:n≤1099511627776
         ·rw[af g1]at ha';simp only[cond_true,Option.some.injEq,Prod.mk.injEq]at ha';obtain⟨rfl,rfl⟩:=ha';have e1:=DP hn;have v1:=h.ev hx;rw[e1]at v1;have hres0:fn.resultTypes[0]?=some ty:=by rw[eW hres];rfl
          have hgc:n≤grownCap w n 0 el:=by simp[grownCap,Question.cut]
          obtain⟨bytes,w',hrun,hheap,hos,hout,htape⟩:∃bytes w',(Extern.BytealgMakeNoZero.makeNoZero fn.params fn.resultTypes #[.int .i64 (n:Int)]).run P w= .ok (.slice (some ⟨w.heap.size,0,none⟩) n (grownCap w n 0 el)) w'∧
           w'.heap=w.heap.push (.cells (Extern.BytealgMakeNoZero.digits (grownCap w n 0 el) bytes #[]) el)∧w'.os=w.os∧w'.output=w.output∧w'.tape=w.tape:=by
           obtain⟨bytes,hb2⟩:=F9 (P:=P) (w:=w) (ps:=fn.params) hres0 hu g1;exact⟨bytes,_,hb2,rfl,rfl,rfl,rfl⟩
          obtain⟨E',hS,hE,hρ,hβ,hκ⟩:=h.rel.alloc (.cells el n false 0 false [] .e) (.cells (Extern.BytealgMakeNoZero.digits (grownCap w n 0 el) bytes #[]) el) b (grownCap w n 0 el-n) c' hb hbc hcc
           (fun k v hk=>by
            rw[cM]at hk;simp only[Tr.get_e,List.getElem?_nil]at hk;split at hk<;>cases hk) w' hheap hos hout htape
           (fun E' he _ hβ hκ=>by
            refine⟨_,_,rfl,⟨fun k v hk=>?_,?_,?_,?_⟩⟩
            ·rw[cM]at hk;simp only[Tr.get_e,List.getElem?_nil]at hk;split at hk<;>cases hk
            ·simp only[bg,if_false];rw[C4,hβ,hκ,hsz];simp;omega
            ·intro o _ _ h;omega
            ·intro _;exact .inl rfl)
          refine⟨E',w',?_,hS,hE,hbc⟩;refine nR hop hcal hf hb0 (by rw[hnm];decide) (t5 hnm hor cH2 wN) (EH hnm cD3 cR7) hargs ?_;simp only[List.map_cons,List.map_nil,v1.1,conc];rw[hrun,hρ,hβ,hκ];have e0:grownCap w n 0 el=n-0+(grownCap w n 0 el-n):=by omega
          rw[←e0]
         ·rw[ah g1]at ha';cases ha'
        ·cases ha'
       ·cases hc
      ·cases hc
     ·cases hc
    ·split at hc
     ·obtain⟨z,_,e⟩:=aX.1 hc;cases e
     ·cases hc
  ·cases hc
theorem aH2(h:Cx P E F M c w t a){o:Oper}{ao:AO}(hc:aF P o.op=some (.a ao)){b:Nat}{c':Nat→Prop}(hb:¬c b)(hbc:c' b)(hcc:∀b,c b→c' b){v:V}{blk:bL}(ha:lz ao b t=some (v,blk)):AOk P F E M c w a o b c' v blk:=by
 cases hop:o.op with
 |alloc ty=>exact af4 h hop hc hb hbc hcc ha
 |box ty y=>exact ck1 h hop hc hb hbc hcc ha
 |buildSlice ty n ps=>exact zV h hop hc hb hbc hcc ha
 |convert s d y=>exact Lu h hop hc hb hbc hcc ha
 |makeMap ty r=>
  cases r with
  |none=>exact Lv h hop hc hb hbc hcc ha
  |some z=>rw[hop]at hc;cases hc
 |makeSlice ty l k=>exact BO h hop hc hb hbc hcc ha
 |range ty y=>exact OW h hop hc hb hbc hcc ha
 |call cl=>
  rw[hop]at hc;simp only[aF]at hc;split at hc
  ·rename_i b' hcal;exfalso;unfold eY at hc;split at hc
   ·split at hc<;>first|cases hc|(split at hc<;>cases hc)
   ·split at hc<;>cases hc
   ·split at hc
    ·split at hc
     ·split at hc
      ·split at hc
       ·split at hc<;>cases hc
       ·cases hc
      ·split at hc<;>cases hc
     ·cases hc
    ·cases hc
   ·split at hc
    ·split at hc
     ·split at hc<;>cases hc
     ·cases hc
    ·cases hc
   ·split at hc
    ·split at hc
     ·split at hc<;>cases hc
     ·cases hc
    ·cases hc
   ·split at hc<;>cases hc
   ·split at hc<;>cases hc
   ·split at hc
    ·obtain⟨z,_,e⟩:=aX.1 hc;cases e
    ·cases hc
   ·split at hc
    ·split at hc<;>cases hc
    ·cases hc
   ·obtain⟨z,_,e⟩:=bk.1 hc;cases e
   ·split at hc
    ·obtain⟨z,_,e⟩:=aX.1 hc;cases e
    ·cases hc
   ·cases hc
  ·rename_i f hcal;split at hc
   ·rename_i fn hf;split at hc
    ·rename_i hb0;exact OV h hop hcal hf hb0 hc hb hbc hcc ha
    ·obtain⟨z,_,e⟩:=aX.1 hc;cases e
   ·cases hc
  ·split at hc<;>cases hc
  ·split at hc<;>cases hc
 |move y=>rw[hop]at hc;obtain⟨z,_,e⟩:=bk.1 hc;cases e
 |assign y=>rw[hop]at hc;obtain⟨z,_,e⟩:=bk.1 hc;cases e
 |pick p y z=>rw[hop]at hc;simp only[aF]at hc;split at hc<;>cases hc
 |build ty ps=>
  rw[hop]at hc;simp only[aF]at hc;split at hc
  ·split at hc
   ·obtain⟨z,_,e⟩:=bk.1 hc;cases e
   ·cases hc
  ·split at hc
   ·obtain⟨z,_,e⟩:=bk.1 hc;cases e
   ·cases hc
  ·cases hc
 |insert ty m k v=>
  rw[hop]at hc;simp only[aF]at hc;split at hc
  ·obtain⟨z,_,e⟩:=aX.1 hc;cases e
  ·cases hc
 |load ty y=>rw[hop]at hc;simp only[aF]at hc;split at hc<;>cases hc
 |store ty y z=>rw[hop]at hc;simp only[aF]at hc;split at hc<;>cases hc
 |nilCheck y=>rw[hop]at hc;obtain⟨z,_,e⟩:=bk.1 hc;cases e
 |binOp op ty y z ty'=>
  rw[hop]at hc;simp only[aF]at hc;split at hc
  ·cases hc
  ·cases hc
  ·split at hc
   ·obtain⟨z,_,e⟩:=bk.1 hc;cases e
   ·obtain⟨z,_,e⟩:=bk.1 hc;cases e
   ·cases hc
  ·cases hc
 |unOp op ty y=>rw[hop]at hc;obtain⟨z,_,e⟩:=bk.1 hc;cases e
 |makeInterface ty y=>rw[hop]at hc;simp only[aF]at hc;split at hc<;>cases hc
 |makeFunc fn l1 l2=>
  cases fn with
  |func f=>rw[hop]at hc;simp only[aF]at hc;split at hc<;>cases hc
  |_=>rw[hop]at hc;cases hc
 |slice ty y lo hi mx=>
  rw[hop]at hc;simp only[aF]at hc;split at hc
  ·split at hc
   ·split at hc<;>cases hc
   ·obtain⟨z,_,e⟩:=bk.1 hc;split at e<;>cases e
   ·obtain⟨z,_,e⟩:=bk.1 hc;split at e<;>cases e
   ·split at hc
    ·obtain⟨z,_,e⟩:=bk.1 hc;split at e<;>cases e
    ·cases hc
   ·cases hc
  ·cases hc
 |fieldAddr ty y f=>
  rw[hop]at hc;simp only[aF]at hc;split at hc
  ·split at hc
   ·split at hc<;>cases hc
   ·cases hc
  ·cases hc
 |field ty y f=>
  rw[hop]at hc;simp only[aF]at hc;split at hc
  ·split at hc
   ·split at hc<;>cases hc
   ·cases hc
  ·cases hc
 |indexAddr ty y i=>
  rw[hop]at hc;simp only[aF]at hc;split at hc
  ·obtain⟨z,_,e⟩:=bk.1 hc;cases e
  ·obtain⟨z,_,e⟩:=bk.1 hc;cases e
  ·cases hc
 |index ty y i=>
  rw[hop]at hc;simp only[aF]at hc;split at hc
  ·split at hc<;>cases hc
  ·cases hc
  ·cases hc
 |lookup ty y i ok=>
  rw[hop]at hc;simp only[aF]at hc;split at hc
  ·split at hc<;>cases hc
  ·cases hc
 |mapUpdate ty m k v=>
  rw[hop]at hc;simp only[aF]at hc;split at hc
  ·obtain⟨z,_,e⟩:=aX.1 hc;cases e
  ·cases hc
 |entry y=>rw[hop]at hc;obtain⟨z,_,e⟩:=aX.1 hc;cases e
 |next y b=>
  rw[hop]at hc;cases b<;>(obtain⟨z,_,e⟩:=aX.1 hc;cases e)
 |typeAssert y ty ty' ok=>rw[hop]at hc;simp only[aF]at hc;split at hc<;>cases hc
 |extract y i=>rw[hop]at hc;obtain⟨z,_,e⟩:=bk.1 hc;cases e
 |sliceToArrayPointer d y=>rw[hop]at hc;simp only[aF]at hc;split at hc<;>cases hc
 |_=>rw[hop]at hc;cases hc
end
def NV(nx:Next)(v:Value):Prop:=nx= .value v∨(nx= .skip∧v=Go.undef)
theorem zh{h:Array Obj}{r:Nat}{x:Obj}(f:Obj→Obj)(hx:h[r]?=some x):h.modify r f=h.setIfInBounds r (f x):=by
 apply Array.ext_getElem?
 intro j
 rw[Array.getElem?_modify]
 by_cases e:r=j
 ·subst e;obtain⟨hlt,hx'⟩:=Array.getElem?_eq_some_iff.1 hx;simp[hlt,hx']
 ·rw[ab e,Array.getElem?_setIfInBounds_ne e]
theorem Fx{w:World}{r o:Nat}{arr:Array Value}{ty:TypeId}{fr:Nat×Nat}(h:w.heap[r]?=some (.cells arr ty fr))(v:Value):
 w.setCell ⟨r,o,none⟩ v={w with heap:=w.heap.setIfInBounds r (.cells (arr.setIfInBounds o v) ty fr)}:=by
 unfold World.setCell
 rw[zh _ h]
 simp
def eO(arr:Array Value)(off:Nat)(vs:List Value)(k:Nat):Array Value:=(vs.zipIdx k).foldl (fun cs (p:Value×Nat)=>cs.setIfInBounds (off+p.2) p.1) arr
theorem iv{P:Program}(r off:Nat)(ty:TypeId)(fr:Nat×Nat):∀(vs:List Value) (k:Nat) (arr:Array Value) (w:World),w.heap[r]?=some (.cells arr ty fr)→
 vv fr (off+k) arr.size→off+k+vs.length≤arr.size→(∀v∈vs,v.oneCell'=true)→
 (storeCells ⟨r,off,none⟩ vs k).run P w= .ok () {w with heap:=w.heap.setIfInBounds r (.cells (eO arr off vs k) ty fr)}
 |[],k,arr,w,h,_,_,_=>by
  have hlt:=(Array.getElem?_eq_some_iff.1 h)
  simp only[storeCells,aO,eO,List.zipIdx_nil,List.foldl_nil]
  congr 1
  have:w.heap.setIfInBounds r (.cells arr ty fr)=w.heap:=by
   apply Array.ext_getElem?;intro j;by_cases e:r=j
   ·subst e;rw[h];simp[hlt.1]
   ·rw[Array.getElem?_setIfInBounds_ne e]
  rw[this]
 |v::vs,k,arr,w,h,hf,hs,h1=>by
  simp only[aP]at hs
  have hc:w.cell? ⟨r,off+k,none⟩=some (arr[off+k]'(by omega)):=by
   simp only[World.cell?,h,Option.isSome_none,bg,if_false];exact Array.getElem?_eq_getElem (by omega)
  have hz:w.frozen? ⟨r,off+k,none⟩=false:=by
   simp only[World.frozen?,h];have:=hf (off+k) (ak _) (by omega);rw[Bool.and_eq_false_iff];simp only[decide_eq_false_iff_not];omega
  have hlt:=(Array.getElem?_eq_some_iff.1 h).1;rw[storeCells,aT,Addr.add_eq,run_store P w _ v _ (h1 v (by simp)),hc];simp only[hz,bg,if_false,aZ];rw[Fx h]
  have h':({w with heap:=w.heap.setIfInBounds r (.cells (arr.setIfInBounds (off+k) v) ty fr)}:World).heap[r]?=some (.cells (arr.setIfInBounds (off+k) v) ty fr):=by
   simp[hlt]
  have ih:=iv (P:=P) r off ty fr vs (k+1) (arr.setIfInBounds (off+k) v) _ h' (fun o ho ho'=>hf o (by omega) (by simpa using ho')) (by simp;omega) (fun x hx=>h1 x (by simp[hx]));rw[ih];simp only[eO,List.zipIdx_cons,List.foldl_cons]
  congr 2
  apply Array.ext_getElem?;intro j;by_cases e:r=j
  ·subst e;simp[hlt]
  ·rw[Array.getElem?_setIfInBounds_ne e,Array.getElem?_setIfInBounds_ne e,Array.getElem?_setIfInBounds_ne e]
section
variable{P:Program}{E:dj}{F:RO}{M:Mem}{c:Nat→Prop}{w:World}{t:T}{a:Act}
theorem qp{v:V}(h:dD v=true):(conc E v).oneCell'=true:=by
 cases v<;>first|rfl|cases(show false=true from h)
theorem lW:∀{l:List V},bj l=true→ ∀v∈l,dD v=true
 |[],_,v,hv=>by cases hv
 |x::l,h,v,hv=>by
  have h':(Bool.rec (motive:=fun _=>Bool) false (bj l) (dD x))=true:=h;rw[bb]at h';by_cases hx:dD x=true
  ·rw[ae hx]at h';cases hv with
   |head=>exact hx
   |tail _ hm=>exact lW h' v hm
  ·rw[ab hx]at h';cases h'
theorem ow{b o:Nat}{vs:List V}{M':Mem}(h:dK M b o vs=some M'):∃ty n ex fz str d cs,M.get b=some (.cells ty n ex fz str d cs)∧o+vs.length≤n∧fz≤o∧bj vs=true∧
 M'=M.set b (.cells ty n ex fz str d (bz vs o cs)):=by
 have h':Option.rec (motive:=fun _=>Option Mem) none (fun blk=>oY M b o vs blk) (M.get b)=some M':=h
 cases hb:M.get b with
 |none=>rw[hb]at h';cases(show(none:Option Mem)=some M' from h')
 |some blk=>
  rw[hb]at h';cases blk with
  |cells ty n ex fz str d cs=>
   have h2:(Bool.rec (motive:=fun _=>Option Mem) none (Bool.rec (motive:=fun _=>Option Mem) none (Bool.rec (motive:=fun _=>Option Mem) none (fR M b o vs ty n ex fz str d cs) (bj vs)) (Nat.ble fz o)) (Nat.ble (Nat.add o vs.length) n))=some M':=h';rw[bb,bb,bb,cE,cE]at h2;split at h2
   ·rename_i g1;split at h2
    ·rename_i g2;split at h2
     ·rename_i g3;refine⟨ty,n,ex,fz,str,d,cs,rfl,aY g1,aY g2,g3,?_⟩;unfold fR at h2;rw[Tr.force_eq,Tr.force_eq]at h2;exact(ag h2).symm
     ·cases h2
    ·cases h2
   ·cases h2
  |_=>cases(show(none:Option Mem)=some M' from h')
theorem Cx.store(h:Cx P E F M c w t a){b o:Nat}{vs:List V}{M':Mem}(hs:dK M b o vs=some M')(hb:i9 c vs):
 ∃w',(storeCells ⟨E.ρ b,E.β b+o,none⟩ (aB E vs)).run P w= .ok () w'∧mY P F E M c w E M' c w':=by
 obtain⟨ty,n,ex,fz,str,d,cs,hM,h1,h2,h3,rfl⟩:=ow hs
 obtain⟨arr,fr,ho,hr⟩:=h.cells (ay hM)
 have hle:=hr.le
 have hlen:(aB E vs).length=vs.length:=by simp[bC]
 have hone:∀v∈aB E vs,v.oneCell'=true:=by
  intro v hv;rw[bC,List.mem_map]at hv;obtain⟨x,hx,rfl⟩:=hv;exact qp (lW h3 x hx)
 have hrun:=iv (P:=P) (E.ρ b) (E.β b+o) ty fr (aB E vs) 0 arr w ho (fun k hk hk'=>hr.free k (by omega) hk') (by rw[hlen];omega) hone
 refine⟨_,hrun,h.rel.write b _ _ hM _ ?_ _ rfl rfl rfl rfl ?_⟩
 ·intro k v hk;rw[cM,dH]at hk;have hold:=(h.rel.has _ _ (ay hM)).2.1;split at hk
  ·rename_i hkn;by_cases hin:o≤k∧k<o+vs.length
   ·rw[ae hin]at hk;have hlt:k-o<vs.length:=by omega
    rw[List.getElem?_eq_getElem hlt]at hk;obtain rfl:=ag hk;exact eI hb (List.getElem?_eq_getElem hlt)
   ·rw[ab hin]at hk;exact hold k v (by rw[cM,ae hkn];exact hk)
  ·cases hk
 ·have hsp:=oN (E.β b+o) (aB E vs) 0 arr;refine⟨_,_,rfl,⟨fun k v hk=>?_,?_,?_,hr.plain⟩⟩
  ·rw[cM,dH]at hk;split at hk
   ·rename_i hkn;show(eO arr (E.β b+o) (aB E vs) 0)[E.β b+k]?=_;unfold eO;rw[hsp.2 (E.β b+k) (by omega),hlen,cT];by_cases hin:o≤k∧k<o+vs.length
    ·rw[ae hin]at hk;rw[ae (by omega),show E.β b+k-(E.β b+o)=k-o by omega];have hlt:k-o<vs.length:=by omega
     rw[List.getElem?_eq_getElem hlt]at hk;obtain rfl:=ag hk;exact eM (List.getElem?_eq_getElem hlt)
    ·rw[ab hin]at hk;rw[ab (by omega)];exact hr.cell k v (by rw[cM,ae hkn];exact hk)
   ·cases hk
  ·show if ex then E.β b=0∧(eO arr (E.β b+o) (aB E vs) 0).size=n else(eO arr (E.β b+o) (aB E vs) 0).size=E.β b+n+E.κ b*P.cellsOf ty
   unfold eO;rw[hsp.1];exact hr.size
  ·show vv fr (E.β b+fz) (eO arr (E.β b+o) (aB E vs) 0).size;unfold eO;rw[hsp.1];exact hr.free
structure jA(c:Nat→Prop)(ct:Nat)(c':Nat→Prop)(ct':Nat):Prop where
 le:ct≤ct'
 new:∀b,c' b→c b∨(ct≤b∧b<ct')
theorem jA.refl(c:Nat→Prop)(ct:Nat):jA c ct c ct:=⟨ak _,fun _ h=> .inl h⟩
theorem jA.trans{c c₁ c₂:Nat→Prop}{n n₁ n₂:Nat}(h:jA c n c₁ n₁)(h':jA c₁ n₁ c₂ n₂):jA c n c₂ n₂:=
 ⟨bF h.le h'.le,fun b hb=>by
  have l1:=h.le;have l2:=h'.le;rcases h'.new b hb with hb|hb
  ·rcases h.new b hb with hb|hb
   ·exact .inl hb
   ·exact .inr (by omega)
  ·exact .inr (by omega)⟩
def gP(c:Nat→Prop)(ct:Nat):Prop:=∀b,ct≤b→ ¬c b
theorem gP.grow{c c':Nat→Prop}{n n':Nat}(h:gP c n)(g:jA c n c' n'):gP c' n':=fun b hb hc=>by
 have:=g.le
 rcases g.new b hc with h1|h1
 ·exact h b (by omega) h1
 ·omega
abbrev Oh(P:Program)(F:RO)(E:dj)(M:Mem)(c:Nat→Prop)(ct:Nat)(w:World)(a:Act)(o:Oper)(v:V)(M':Mem)(ct':Nat):Prop:=
 ∃E' w' nx c',(execOp a.eval o).run P w= .ok nx w'∧NV nx (conc E' v)∧mY P F E M c w E' M' c' w'∧bd c' v∧jA c ct c' ct'
theorem bM2{v:V}{g:Nat→Nat→RC}{x:V}{M':Mem}{c':Nat}(h:t8 v .f g= .k x M' c'):∃b o,v= .p b o∧g b o= .k x M' c':=by
 cases v with
 |p b o=>exact⟨b,o,rfl,h⟩
 |_=>cases(show RC.f= .k x M' c' from h)
theorem aq4(h:Cx P E F M c w t a){o:Oper}{ty:TypeId}{y z:Operand}(hop:o.op= .store ty y z){eo:EO}(hc:aF P o.op=some (.e eo)){k:Kn}(hk:k.F=F){v:V}{M':Mem}{ct ct':Nat}(he:iV eo k M ct t= .k v M' ct'):Oh P F E M c ct w a o v M' ct':=by
 rw[hop]at hc
 simp only[aF]at hc
 split at hc
 ·rename_i n xa xv hs h1 h2;obtain rfl:EO.st n xa xv=eo:=by simpa using hc
  have e1:=h.ev h1;have e2:=h.ev h2;obtain⟨b,off,hv,hg⟩:=bM2 (show t8 (xa.ev t) .f (fun b o=>yO n b o (flatten (xv.ev t)) M ct)= .k v M' ct' from he);unfold yO at hg;rw[bb,bK]at hg;split at hg
  ·rename_i hn;have hn:(flatten (xv.ev t)).length=n:=aY hn;unfold er at hg;cases hst:dK M b off (flatten (xv.ev t))with
   |none=>rw[hst]at hg;cases(show RC.f= .k v M' ct' from hg)
   |some M''=>
    rw[hst]at hg;have hg':RC.k undef M'' ct= .k v M' ct':=hg;injection hg' with g1 g2 g3
    subst g1 g2 g3;obtain⟨w',hrun,hS⟩:=h.store hst (fK e2.2);rw[hv]at e1;refine⟨E,w',.skip,c,?_,.inr ⟨rfl,rfl⟩,hS,trivial,.refl _ _⟩;have hcs:(a.eval z).cells.size=n:=by rw[e2.1,dg];simp[bC,hn]
    have hcl:(a.eval z).cells.toList=aB E (flatten (xv.ev t)):=by rw[e2.1,dg]
    simp only[execOp,hop,e1.1,conc,Instr.storeAt,Instr.sureAddr,storeVar,aT,aO,aZ,hcs,eA hs,ne_eq,not_true_eq_false,if_false,Sem.run_ite,hcl,hrun]
  ·cases hg
 ·cases hc
end
section
variable{P:Program}{E:dj}{F:RO}{M:Mem}{c:Nat→Prop}{w:World}{t:T}{a:Act}
theorem rZ(M:Mem)(c b:Nat)(blk:bL)(v:V):az3 M c b blk v= .k v (M.set b blk) c:=Tr.force_eq _ _
theorem xu{r:Nat}{o o':Obj}(h:w.heap[r]?=some o)(hn:∀x y z,o≠ .cells x y z):(setObj r o').run P w= .ok () {w with heap:=w.heap.setIfInBounds r o'}:=by
 simp only[setObj,Sem.run,h]
theorem tP(h:Cx P E F M c w t a){o:Oper}{ty:TypeId}{m y z:Operand}(hop:o.op= .mapUpdate ty m y z∨o.op= .insert ty m y z){eo:EO}(hc:aF P o.op=some (.e eo)){k:Kn}(hk:k.F=F){v:V}{M':Mem}{ct ct':Nat}(he:iV eo k M ct t= .k v M' ct'):Oh P F E M c ct w a o v M' ct':=by
 have hc':(match P.underlying ty,bp m,bp y,bp z with
  |some (.map kt _),some m,some k,some v=>(JK P kt).map fun sh=>OK.e (.mu sh m k v)
  |_,_,_,_=>none)=some (.e eo):=by rcases hop with hop|hop<;>(rw[hop]at hc;exact hc)
 split at hc'
 ·rename_i kt et xm xk xv hu h1 h2 h3;obtain⟨sh,hks,e⟩:=aX.1 hc';obtain rfl:EO.mu sh xm xk xv=eo:=by simpa using e
  cases(show RC.f=RC.k v M' ct' from he)
 ·cases hc'
end
section
variable{P:Program}{E:dj}{F:RO}{M:Mem}{c:Nat→Prop}{w:World}{t:T}{a:Act}
end
section
variable{P:Program}{E:dj}{F:RO}{M:Mem}{c:Nat→Prop}{w:World}{t:T}{a:Act}
theorem Cx.world{w':World}(h:Cx P E F M c w t a)(hh:w'.heap=w.heap):Cx P E F M c w' t a:=⟨h.rel.world hh,h.glob,h.big,h.tr,h.bt⟩
theorem ku.drop(h:ku P E F M c w)(b:Nat):mY P F E M c w E (M.del b) c w:=by
 have hl:∀x y,look F (M.del b) x=some y→look F M x=some y∨(x=b∧be F x=some y):=by
  intro x y hx;by_cases e:x=b
  ·right;refine⟨e,?_⟩
   rwa [aQ (by rw[Tr.get_del,ae e])]at hx
  ·left
   rwa [ey (M:=M) (by rw[Tr.get_del,ab e])]at hx
 have hl':∀x y,look F (M.del b) x=some y→look F M x=some y:=by
  intro x y hx;rcases hl x y hx with h1|⟨h1,h2⟩
  ·exact h1
  ·rw[aQ (h.apart x (by rw[h2];rfl))];exact h2
 have hs:∀x,(look F (M.del b) x).isSome→(look F M x).isSome:=by
  intro x hx;obtain⟨y,hy⟩:=bM.1 hx;rw[hl' x y hy];rfl
 refine⟨.refl c E,fun _ h=>h,⟨fun x y hx=>h.has x y (hl' x y hx),fun x x' hx hx' e=>h.inj x x' (hs x hx) (hs x' hx') e,fun x hx=>?_⟩,fun x hx=>?_,fun _ _ _=>rfl,ak _,rfl,rfl,rfl⟩
 ·rw[Tr.get_del];split
  ·rfl
  ·exact h.apart x hx
 ·rw[Tr.get_del]at hx;split at hx
  ·cases hx
  ·exact .inl ⟨x,hx,rfl⟩
theorem ku.take(h:ku P E F M c w)(b n:Nat)(blk blk':bL)(hb:M.get b=some blk)(o':Obj)(β' κ':Nat)(c':Nat→Prop)(hn:¬c n)(hn':c' n)(hcc:∀b,c b→c' b)
 (hbd:fw c' blk') (w':World) (hh:w'.heap=w.heap.setIfInBounds (E.ρ b) o') (hos:w'.os=w.os) (hout:w'.output=w.output) (htape:w'.tape=w.tape)
 (hr:∀E':dj,qP c E E'→E'.ρ n=E.ρ b→E'.β n=β'→E'.κ n=κ'→ft P E' n blk' o'):
 ∃E',mY P F E M c w E' ((M.del b).set n blk') c' w'∧E'.ρ n=E.ρ b∧E'.β n=β'∧E'.κ n=κ':=by
 let E':dj:=⟨fun x=>if x=n then E.ρ b else E.ρ x,fun x=>if x=n then β' else E.β x,fun x=>if x=n then κ' else E.κ x⟩
 have he:qP (· ≠n) E E':=⟨fun x hx=>ab hx,fun x hx=>ab hx,fun x hx=>ab hx⟩
 have hec:qP c E E':=he.sub fun x hx e=>hn (e▸hx)
 have hρ:E'.ρ n=E.ρ b:=ae rfl
 have hbc:=(h.has b blk (ay hb)).1
 have hbn:b≠n:=fun e=>hn (e▸hbc)
 have hlt:E.ρ b<w.heap.size:=by
  obtain⟨_,_,o,ho,_⟩:=h.has b blk (ay hb);exact(Array.getElem?_eq_some_iff.1 ho).1
 have hold:∀x y,look F ((M.del b).set n blk') x=some y→x≠n→x≠b∧look F M x=some y:=by
  intro x y hx hne;rw[ey (M:=M.del b) (by rw[Tr.get_set,ab hne])]at hx;by_cases e:x=b
  ·exfalso;rw[aQ (by rw[Tr.get_del,ae e])]at hx;have:=h.apart x (by rw[hx];rfl);rw[e,hb]at this;cases this
  ·exact⟨e,by rwa [ey (M:=M) (by rw[Tr.get_del,ab e])]at hx⟩
 refine⟨E',⟨hec,hcc,⟨?_,?_,?_⟩,?_,?_,?_,hos,hout,htape⟩,hρ,ae rfl,ae rfl⟩
 ·intro x y hx;by_cases hxn:x=n
  ·subst hxn;rw[ay (by rw[Tr.get_set,ae rfl])]at hx;obtain rfl:blk'=y:=by simpa using hx
   exact⟨hn',hbd,o',by rw[hρ,hh];simp[hlt],hr E' hec hρ (ae rfl) (ae rfl)⟩
  ·obtain⟨hxb,hx'⟩:=hold x y hx hxn;obtain⟨h1,h2,o,h3,h4⟩:=h.has x y hx';refine⟨hcc x h1,fH hcc y h2,o,?_,h4.ext hec h1 h2⟩;have hne:E.ρ b≠E.ρ x:=fun e'=>hxb (h.inj b x (by rw[ay hb];rfl) (by rw[hx'];rfl) e').symm;rw[hec.ρ x h1,hh,Array.getElem?_setIfInBounds_ne hne];exact h3
 ·have key:∀x y,look F ((M.del b).set n blk') x=some y→x≠n→E'.ρ x≠E.ρ b:=by
   intro x y hx hxn e;obtain⟨hxb,hx'⟩:=hold x y hx hxn;rw[hec.ρ x (h.has x y hx').1]at e;exact hxb (h.inj x b (by rw[hx'];rfl) (by rw[ay hb];rfl) e)
  intro x x' hx hx' e;obtain⟨y,hy⟩:=bM.1 hx;obtain⟨y',hy'⟩:=bM.1 hx';by_cases h1:x=n
  ·by_cases h2:x'=n
   ·rw[h1,h2]
   ·rw[h1,hρ]at e;exact absurd e.symm (key x' y' hy' h2)
  ·by_cases h2:x'=n
   ·rw[h2,hρ]at e;exact absurd e (key x y hy h1)
   ·obtain⟨_,g1⟩:=hold x y hy h1;obtain⟨_,g2⟩:=hold x' y' hy' h2;rw[hec.ρ x (h.has x y g1).1,hec.ρ x' (h.has x' y' g2).1]at e;exact h.inj x x' (by rw[g1];rfl) (by rw[g2];rfl) e
 ·intro x hx;have hM:=h.apart x hx;obtain⟨y,hy⟩:=bM.1 hx;have hxc:=(h.has x y (by rw[aQ hM];exact hy)).1;rw[Tr.get_set,ab (fun e:x=n=>hn (e▸hxc)),Tr.get_del];split
  ·rfl
  ·exact hM
 ·intro x hx;by_cases hxn:x=n
  ·exact .inl ⟨b,by rw[hb];rfl,by rw[hxn,hρ]⟩
  ·rw[Tr.get_set,ab hxn,Tr.get_del]at hx;split at hx
   ·cases hx
   ·obtain⟨y,hy⟩:=bM.1 hx;exact .inl ⟨x,hx,(hec.ρ x (h.has x y (ay hy)).1).symm⟩
 ·intro r _ hnr;have hne:E.ρ b≠r:=hnr b (by rw[hb];rfl);rw[hh,Array.getElem?_setIfInBounds_ne hne]
 ·rw[hh];simp
def lV(P:Program)(ats:Array TypeId):Prop:=(∃t2 d,ats[1]?=some t2∧P.underlying t2=some d∧ ∀k,d≠ .int k)∨ats[1]?=none
theorem mZ{ats:Array TypeId}{rty ty e:TypeId}{i:TypeInfo}{z:Value}(hat:ats[0]?=some ty)(hu:P.underlying ty=some (.slice e))(hzs:lV P ats)(hi:P.info? e=some i)(hz:i.zero=some z)
 {X:Value} {base:Option Addr} {sLen sCap n:Nat} {old new:Array Value} (hlen:(Builtin.lenOf X).run P w= .ok n w) (hold:(Builtin.firstCells i.size sLen (.slice base sLen sCap)).run P w.drew= .ok old w.drew)
 (hnew:(Builtin.firstCells i.size n X).run P w.drew= .ok new w.drew) (hg:sCap<sLen+n) (h63:sLen+n≤9223372036854775807) (h48:Builtin.nextslicecap (sLen+n) sCap*i.bytes≤281474976710656):
 (Builtin.append_ ats rty #[.slice base sLen sCap,X]).run P w= .ok (.slice (some ⟨w.heap.size,0,none⟩) (sLen+n) (grownCap w (sLen+n) sCap e))
  (w.drew.alloc (.cells (old++new++Builtin.zeroCells z.cells (grownCap w (sLen+n) sCap e-(sLen+n))) e)):=by
 have hn:¬(sLen+n≤sCap):=by omega
 have h63':¬(9223372036854775807<((sLen:Int)+(n:Int))):=by omega
 have h48':¬(281474976710656<Builtin.nextslicecap (sLen+n) sCap*i.bytes):=by omega
 rcases hzs with⟨t2,d,h1,h2,h3⟩|h1
 ·have hd:(d matches .int _)=false:=by cases d<;>first|rfl|exact absurd rfl (h3 _)
  simp[Builtin.append_,hat,h1,run_underlying hu,run_underlying h2,hd,Go.sizeOf,typeInfo,zeroValue,hi,hz,hlen,hn,h63',h48',Question.forced,hold,hnew,newRow,grownCap]
 ·simp[Builtin.append_,hat,h1,run_underlying hu,Go.sizeOf,typeInfo,zeroValue,hi,hz,hlen,hn,h63',h48',Question.forced,hold,hnew,newRow,grownCap]
theorem iU{ats:Array TypeId}{rty ty e:TypeId}{i:TypeInfo}(hat:ats[0]?=some ty)(hu:P.underlying ty=some (.slice e))(hzs:lV P ats)(hi:P.info? e=some i)
 {X:Value} {ad:Addr} {sLen sCap n:Nat} {new:Array Value} {w':World} (hlen:(Builtin.lenOf X).run P w= .ok n w)
 (hnew:(Builtin.firstCells i.size n X).run P w= .ok new w) (hg:sLen+n≤sCap) (hst:(storeCells (ad.add (sLen*i.size)) new.toList).run P w= .ok () w'):
 (Builtin.append_ ats rty #[.slice (some ad) sLen sCap,X]).run P w= .ok (.slice (some ad) (sLen+n) sCap) w':=by
 rcases hzs with⟨t2,d,h1,h2,h3⟩|h1
 ·have hd:(d matches .int _)=false:=by cases d<;>first|rfl|exact absurd rfl (h3 _)
  simp[Builtin.append_,hat,h1,run_underlying hu,run_underlying h2,hd,Go.sizeOf,typeInfo,hi,hlen,hg,hnew,hst]
 ·simp[Builtin.append_,hat,h1,run_underlying hu,Go.sizeOf,typeInfo,hi,hlen,hg,hnew,hst]
theorem uq{ats:Array TypeId}{rty ty e:TypeId}{i:TypeInfo}(hat:ats[0]?=some ty)(hu:P.underlying ty=some (.slice e))(hzs:lV P ats)(hi:P.info? e=some i)
 {X:Value} {base:Option Addr} {sLen sCap:Nat} (hlen:(Builtin.lenOf X).run P w= .ok 0 w)
 (hnew:(Builtin.firstCells i.size 0 X).run P w= .ok #[] w) (hg:sLen≤sCap):
 (Builtin.append_ ats rty #[.slice base sLen sCap,X]).run P w= .ok (.slice base sLen sCap) w:=by
 rcases hzs with⟨t2,d,h1,h2,h3⟩|h1
 ·have hd:(d matches .int _)=false:=by cases d<;>first|rfl|exact absurd rfl (h3 _)
  cases base<;>simp[Builtin.append_,hat,h1,run_underlying hu,run_underlying h2,hd,Go.sizeOf,typeInfo,hi,hlen,hg,hnew,storeCells]
 ·cases base<;>simp[Builtin.append_,hat,h1,run_underlying hu,Go.sizeOf,typeInfo,hi,hlen,hg,hnew,storeCells]
theorem Z5(h:Cx P E F M c w t a){sz n:Nat}{y:V}{new:List V}(hs:gu F M sz y=some (n,new)):
 (Builtin.lenOf (conc E y)).run P w= .ok n w∧(Builtin.firstCells sz n (conc E y)).run P w= .ok (aB E new).toArray w∧i9 c new:=by
 unfold gu at hs
 split at hs
 ·rename_i m x;rw[bK]at hs;by_cases h1:sz=1
  ·rw[af h1,cond_true]at hs;simp only[Option.some.injEq,Prod.mk.injEq]at hs;obtain⟨rfl,rfl⟩:=hs;refine⟨by simp[conc,Builtin.lenOf,ec],?_,mg _ _⟩;simp only[conc,Builtin.firstCells,aO,jZ]
   congr 1
   have he:(ba m x).extract 0 m=ba m x:=by
    apply ByteArray.ext;rw[ByteArray.data_extract];have h2:=Array.extract_size (xs:=(ba m x).data);have h3:(ba m x).data.size=m:=ec m x
    rwa [h3]at h2
   rw[he];simp[ba]
  ·rw[ah h1]at hs;cases hs
 ·rename_i y' hne;split at hs
  ·rename_i k hk;unfold az9 at hs;split at hs
   ·rename_i vs r hr;simp only[Option.some.injEq,Prod.mk.injEq]at hs;obtain⟨rfl,rfl⟩:=hs;obtain⟨⟨ad,len,cap,hcv,hld⟩,hb,hl⟩:=h.readL hr;rcases iM (E:=E) hk with⟨ad',cap',hcv'⟩|⟨x,hx⟩
    ·rw[hcv]at hcv';injection hcv' with e1 e2 e3
     subst e1 e2 e3;rw[hcv];refine⟨by simp[Builtin.lenOf],?_,hb⟩;cases ad with
     |none=>simp only at hld;subst hld;simp[Builtin.firstCells,aB]
     |some ad=>simp only[Builtin.firstCells];exact hld
    ·exact absurd hx (hne _ _)
   ·cases hs
  ·cases hs
theorem Di{e sz:Nat}{i:TypeInfo}(hi:P.info? e=some i)(h:zOk P e sz=true):∃z,i.zero=some z∧z.cells.size=sz:=by
 unfold zOk at h
 split at h
 ·rename_i z hz;unfold nB at hz;rw[hi]at hz;obtain⟨zv,h1,h2⟩:=bk.1 hz;have h1':i.zero=some zv:=by simpa using h1
  have:=(oz ⟨id,id,id⟩ (fun _=>True) _ _ _ h2).1;refine⟨zv,h1',?_⟩;rw[←this,dg,←eg];simp[bC]
  simpa using h
 ·cases h
theorem oG(zero:Array Value)(n:Nat):(Builtin.zeroCells zero n).size=n*zero.size:=by simp[Builtin.zeroCells]
theorem ie(E:dj)(l r:List V):aB E (l++r)=aB E l++aB E r:=by simp[bC]
theorem iH{l r:List V}(h:i9 c l)(h':i9 c r):i9 c (l++r):=by
 rw[kK]at *
 intro v hv
 rcases List.mem_append.1 hv with hv|hv
 ·exact h v hv
 ·exact h' v hv
theorem Mt{E':dj}{b e len fz cap:Nat}{str:Bool}{vs:List V}{zero:Array Value}(he:qP c E E')(hb:i9 c vs)(hβ:E'.β b=0)(hκ:E'.κ b=cap-len)(hl:vs.length=len*P.cellsOf e)(hc:len≤cap)(hz:zero.size=P.cellsOf e):
 ft P E' b (.cells e vs.length false fz str [] (bz vs 0 .e)) (.cells ((aB E vs).toArray++Builtin.zeroCells zero (cap-len)) e):=by
 refine⟨_,_,rfl,⟨fun k v hk=>?_,?_,?_,fun _=> .inl rfl⟩⟩
 ·have hk':=jN hk;have hlt:k<vs.length:=(List.getElem?_eq_some_iff.1 hk').1;rw[hβ,Nat.zero_add,dO he v (eI hb hk'),Array.getElem?_append_left (by simpa [bC]using hlt)];simp[eM hk']
 ·simp only[bg,if_false];rw[Array.size_append,oG,hβ,hκ,hz];simp[bC]
 ·intro o _ ho hf;have h1:=hf.1;have h2:=hf.2;simp only at h1 h2;omega
end
end
end Go.Proofs.YtcnblipfcihcpaaGreatDoor.Ev
