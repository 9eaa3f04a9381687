/- What is proved here: pieces of the evaluator's soundness: if the evaluator comes to a value, the model's run comes to it, for every world and tape; no conditions beyond the hypotheses of each theorem. -/
import Derived.Test.YtkcelmimbmbfkaaGreatDoorEv1
import Derived.Lib.UnsafeStr
import Derived.RangeFuncRecord
import Derived.LoopNIn
import Derived.RangeFuncNested
import Derived.OrdersIn
set_option linter.unusedSimpArgs false
set_option linter.unusedVariables false
set_option linter.defProp false
namespace Go.Proofs.YtkcelmimbmbfkaaGreatDoor.Ev
open Go
noncomputable section
section
variable{P:Program}{E:cT}{F:RO}{M:Mem}{c:Nat→Prop}{w:World}{t:T}{a:Act}
theorem tA.op{o:Oper}{cl:Call}{b:Builtin}(hop:o.op= .call cl)(hb:cl.callee= .builtin b){l:List Operand}(hl:cl.args.toList=l){s:Sem Value}{v:V}{M':Mem}{ct ct':Nat}
 (he:∀fs,builtin b cl.argTypes o.type fs (l.map a.eval).toArray=(s>>=fun v=>pure (Next.value v))) (h:tA P F E M c ct w s v M' ct'):C6 P F E M c ct w a o v M' ct':=by
 obtain⟨E',w',c',hr,hS,hb',hG⟩:=h
 exact⟨E',w',.value (conc E' v),c',bJ hop hb hl (by rw[he];exact aF hr),.inl rfl,hS,hb',hG⟩
theorem At(h:Cx P E F M c w t a){ct:Nat}(hf:gb c ct){o:Oper}{cl:Call}(hop:o.op= .call cl)(hb:cl.callee= .builtin .append){y z:Operand}(hargs:cl.args.toList=[y,z]){ty e:TypeId}(hat:cl.argTypes[0]?=some ty)(hzs:lO P cl.argTypes)
 (hu:P.underlying ty=some (.slice e)) {sz by_:Nat} (hsz:dX P e=some sz) (hby:Ud P e=some by_) (hpos:sz≠0) (hzo:Y6 P e sz=true) {xx xy:X} (h1:b7 y=some xx) (h2:b7 z=some xy)
 {k:Kn} (hk:k.F=F) {v:V} {M':Mem} {ct':Nat} (he:iG (.app e sz by_ xx xy) k M ct t= .k v M' ct'):C6 P F E M c ct w a o v M' ct':=by
 have he':kR k.F M ct e sz by_ (xx.ev t) (gf k.F M sz (xy.ev t))= .k v M' ct':=he
 rw[hk]at he'
 obtain⟨i,hi,rfl⟩:=ym hsz
 have hby':i.bytes=by_:=by
  unfold Ud at hby;rw[hi]at hby;simpa using hby
 subst hby'
 have e1:=h.ev h1
 have e2:=h.ev h2
 cases hs:gf F M i.size (xy.ev t)with
 |none=>rw[hs]at he';cases(show RC.f= .k v M' ct' from he')
 |some r=>
  obtain⟨n,new⟩:=r;rw[hs]at he';have he2:(bif br new&&Nat.beq new.length (Nat.mul n i.size)then app F M ct e i.size i.bytes (xx.ev t) n new else .f)= .k v M' ct':=he';rw[bp]at he2;by_cases hc1:br new=true
  ·by_cases hc2:new.length=n*i.size
   ·rw[hc1,af (show new.length=Nat.mul n i.size from hc2)]at he2;have he3:app F M ct e i.size i.bytes (xx.ev t) n new= .k v M' ct':=he2;have:=Ys (rty:=o.type) h hf hat hu hzs hi hpos hzo hs e1.2 hc1 hc2 he3;refine tA.op hop hb hargs (s:=Builtin.append_ cl.argTypes o.type #[conc E (xx.ev t),conc E (xy.ev t)]) (fun fs=>?_) this;simp only[builtin,List.map_cons,List.map_nil,e1.1,e2.1]
   ·rw[hc1,ag (show¬new.length=Nat.mul n i.size from hc2)]at he2;cases he2
  ·rw[Bool.not_eq_true]at hc1;rw[hc1]at he2;cases he2
theorem CZ(h:Cx P E F M c w t a){sz n m:Nat}{y:V}{vs:List V}(hl:qK y=some m)(hn:n≤m)(hs:pD F M sz n y=some vs):
 (Builtin.lenOf (conc E y)).run P w= .ok m w∧(Builtin.firstCells sz n (conc E y)).run P w= .ok (au E vs).toArray w∧fq c vs:=by
 unfold pD at hs
 split at hs
 ·rename_i m' x;obtain rfl:m'=m:=ae hl;rw[bp]at hs;by_cases h1:sz=1
  ·rw[af h1,cond_true]at hs;obtain rfl:=ae hs;refine⟨by simp[conc,Builtin.lenOf,dv],?_,lV _ _⟩;simp only[conc,Builtin.firstCells,az,jO]
   congr 1
   apply Array.ext';simp only[ba,Array.toList_map,ByteArray.data_extract,Array.toList_extract,List.extract_eq_take_drop,Nat.sub_zero,List.drop_zero]
   congr 1
   have e:=uN m' x;rw[←yP n m' _ hn];show List.take n (bl m' x)=List.take n (bl m' (x%256^m'));rw[e]
  ·rw[ag h1]at hs;cases hs
 ·rename_i y' hne;obtain⟨⟨vs',r⟩,hr,rfl⟩:=be.1 hs;obtain⟨⟨ad,len,cap,hcv,hld⟩,hb,_⟩:=h.readL hr;rcases iy (E:=E) hl with⟨ad',cap',hcv'⟩|⟨x,hx⟩
  ·rw[hcv]at hcv';injection hcv' with e1 e2 e3
   subst e1 e2 e3;rw[hcv];refine⟨by simp[Builtin.lenOf],?_,hb⟩;cases ad with
   |none=>simp only at hld;subst hld;simp[Builtin.firstCells,au]
   |some ad=>simp only[Builtin.firstCells];exact hld
  ·exact absurd hx (hne _ _)
theorem K4(w:World){y:V}{m:Nat}(hl:qK y=some m):(Builtin.lenOf (conc E y)).run P w= .ok m w:=by
 rcases iy (E:=E) hl with⟨ad,cap,h⟩|⟨x,rfl⟩
 ·rw[h];simp[Builtin.lenOf]
 ·simp[conc,Builtin.lenOf,dv]
theorem bb9(h:Cx P E F M c w t a){o:Oper}{cl:Call}(hop:o.op= .call cl)(hb:cl.callee= .builtin .copy){y z:Operand}(hargs:cl.args.toList=[y,z]){ty e:TypeId}(hat:cl.argTypes[0]?=some ty)
 (hu:P.underlying ty=some (.slice e)) {sz:Nat} (hsz:dX P e=some sz) {xx xy:X} (h1:b7 y=some xx) (h2:b7 z=some xy)
 {k:Kn} (hk:k.F=F) {v:V} {M':Mem} {ct ct':Nat} (he:iG (.cpy sz xx xy) k M ct t= .k v M' ct'):C6 P F E M c ct w a o v M' ct':=by
 have he':Au sz xx xy k.F M ct t= .k v M' ct':=he
 rw[hk]at he'
 have e1:=h.ev h1
 have e2:=h.ev h2
 unfold Au at he'
 split at he'
 ·cases he'
 ·rename_i x hne;unfold UA at he';split at he'
  ·rename_i dn sn hd hs;rw[aQ,bG]at he';have hmin:(bif decide (sn≤dn)then sn else dn)=Nat.min sn dn:=by
    by_cases hh:sn≤dn
    ·rw[af hh,cond_true];exact(Nat.min_eq_left hh).symm
    ·rw[ag hh,cond_false];exact(Nat.min_eq_right (by omega)).symm
   rw[hmin,bp]at he';rcases iy (E:=E) hd with⟨ad,cap,hcx⟩|⟨x,hx⟩
   case inr=>exact absurd hx (hne _ _)
   refine tA.op hop hb hargs (s:=Builtin.copy_ cl.argTypes o.type #[conc E (xx.ev t),conc E (xy.ev t)]) (fun fs=>by simp only[builtin,List.map_cons,List.map_nil,e1.1,e2.1]) ?_;have hlo:=K4 (P:=P) (E:=E) w hs;by_cases h0:Nat.min sn dn=0
   ·rw[af h0,cond_true]at he';injection he' with g1 g2 g3
    subst g1 g2 g3;refine⟨E,w,c,?_,.refl h.rel,trivial,.refl _ _⟩;have hfc:(Builtin.firstCells sz 0 (conc E (xy.ev t))).run P w= .ok #[] w:=by
     rcases iy (E:=E) hs with⟨ad',cap',hcy⟩|⟨x,hx⟩
     ·rw[hcy];cases ad'<;>simp[Builtin.firstCells,loadCells,loadCellsFrom]
     ·rw[hx];simp[conc,Builtin.firstCells]
    rw[hcx];cases ad<;>simp[Builtin.copy_,hat,av hu,hlo,h0,dK hsz,hfc,storeCells,conc,goInt]
   ·rw[ag h0,cond_false]at he';cases hsrc:pD F M sz (Nat.min sn dn) (xy.ev t)with
    |none=>rw[hsrc]at he';cases(show RC.f= .k v M' ct' from he')
    |some vs=>
     rw[hsrc]at he';obtain⟨_,hfc,hbv⟩:=CZ h hs (Nat.min_le_left _ _) hsrc;have fin:∀b off,conc E (xx.ev t)= .slice (some ⟨E.ρ b,E.β b+off,none⟩) dn cap→(match dA M b off vs with
      |some M=>RC.k (.i .i64 (.ofNat (Nat.min sn dn))) M ct
      |none=> .f)= .k v M' ct'→tA P F E M c ct w (Builtin.copy_ cl.argTypes o.type #[conc E (xx.ev t),conc E (xy.ev t)]) v M' ct':=by
      intro b off hcx' hg;split at hg
      ·rename_i M'' hst;injection hg with g1 g2 g3
       subst g1 g2 g3;obtain⟨w',hrun,hS⟩:=h.store hst hbv;refine⟨E,w',c,?_,hS,trivial,.refl _ _⟩;rw[hcx'];simp[Builtin.copy_,hat,av hu,hlo,dK hsz,hfc,hrun,conc,goInt]
      ·cases hg
     cases hv:xx.ev t with
     |l b off len cp=>
      rw[hv]at he' hcx fin;have hcx':Value.slice (some ⟨E.ρ b,E.β b+off,none⟩) len cp= .slice ad dn cap:=hcx;injection hcx' with q1 q2 q3
      subst q1 q2 q3;exact fin b off rfl he'
     |u b off len el kn=>
      rw[hv]at he' hcx fin;have hcx':Value.slice (some ⟨E.ρ b,E.β b+off,none⟩) len (kn-el+E.κ b)= .slice ad dn cap:=hcx;injection hcx' with q1 q2 q3
      subst q1 q2 q3;exact fin b off rfl he'
     |_=>rw[hv]at he';cases(show RC.f= .k v M' ct' from he')
  ·cases he'
theorem wW(E:cT)(z:Array Value)(zs:List V)(hz:z=(au E zs).toArray)(n:Nat):(Builtin.zeroCells z n).toList=au E (vY zs n):=by
 subst hz
 have hsz:(au E zs).length=zs.length:=by simp[bf]
 by_cases h0:zs.length=0
 ·have hz0:zs=[]:=List.eq_nil_of_length_eq_zero h0;subst hz0;have:∀n,vY [] n=[]:=by intro n;induction n with|zero=>rfl|succ n ih=>simp[vY,ih]
  rw[this];simp[Builtin.zeroCells,au]
 ·induction n with
  |zero=>simp[Builtin.zeroCells,vY,au]
  |succ n ih=>
   rw[vY,bf E (zs++vY zs n),List.map_append,←bf,←bf,←ih];apply List.ext_getElem?;intro i;simp only[Builtin.zeroCells,Array.toList_map,Array.toList_range,List.getElem?_map,List.size_toArray,hsz];by_cases hi:i<zs.length
   ·rw[List.getElem?_append_left (by omega),List.getElem?_range (by rw[Nat.succ_mul];omega)];simp only[Option.map_some,Nat.mod_eq_of_lt hi];rw[List.getElem?_eq_getElem (by omega)];simp[hsz,hi]
   ·rw[List.getElem?_append_right (by omega),hsz,List.getElem?_map];by_cases h2:i<(n+1)*zs.length
    ·rw[List.getElem?_range h2,List.getElem?_range (by rw[Nat.succ_mul]at h2;omega)];simp only[Option.map_some];have:(i-zs.length)%zs.length=i%zs.length:=(Nat.mod_eq_sub_mod (by omega)).symm;rw[this]
    ·rw[List.getElem?_eq_none (by simp;omega),List.getElem?_eq_none (by rw[Nat.succ_mul]at h2;simp;omega)]
theorem ac1{zs:List V}(h:fq c zs)(n:Nat):fq c (vY zs n):=by
 induction n with
 |zero=>exact trivial
 |succ n ih=>
  rw[jm]at *;intro v hv;rw[vY,List.mem_append]at hv;rcases hv with hv|hv
  ·exact h v hv
  ·exact ih v hv
theorem Z1(h:Cx P E F M c w t a){o:Oper}{cl:Call}(hop:o.op= .call cl)(hb:cl.callee= .builtin .clear){y:Operand}(hargs:cl.args.toList=[y]){ty e:TypeId}(hat:cl.argTypes[0]?=some ty)
 (hu:P.underlying ty=some (.slice e)) {z:V} (hz:mT P e=some z) {xx:X} (h1:b7 y=some xx)
 {k:Kn} {v:V} {M':Mem} {ct ct':Nat} (he:iG (.clr (aV z) xx) k M ct t= .k v M' ct'):C6 P F E M c ct w a o v M' ct':=by
 have he':Hl (aV z) xx k.F M ct t= .k v M' ct':=he
 have e1:=h.ev h1
 have hz':=gE (P:=P) (E:=E) (c:=c) (w:=w) hz
 have hcell:(conc E z).cells=(au E (aV z)).toArray:=by rw[cq,cN]
 have hbd:fq c (aV z):=by rw[cN];exact dZ hz'.2
 refine tA.op hop hb hargs (s:=Builtin.clear_ cl.argTypes o.type #[conc E (xx.ev t)]) (fun fs=>by simp only[builtin,List.map_cons,List.map_nil,e1.1]) ?_
 have nothing:∀{ad:Option Addr} {cap:Nat},conc E (xx.ev t)= .slice ad 0 cap→RC.k undef M ct= .k v M' ct'→tA P F E M c ct w (Builtin.clear_ cl.argTypes o.type #[conc E (xx.ev t)]) v M' ct':=by
  intro ad cap hcx hg;injection hg with g1 g2 g3
  subst g1 g2 g3;refine⟨E,w,c,?_,.refl h.rel,trivial,.refl _ _⟩;rw[hcx];cases ad<;>simp[Builtin.clear_,hat,av hu,conc,undef,au]
 have fin:∀b off n cap,conc E (xx.ev t)= .slice (some ⟨E.ρ b,E.β b+off,none⟩) n cap→YR M ct b off n (aV z)= .k v M' ct'→tA P F E M c ct w (Builtin.clear_ cl.argTypes o.type #[conc E (xx.ev t)]) v M' ct':=by
  intro b off n cap hcx hg;unfold YR at hg;rw[bp]at hg;by_cases h0:n=0
  ·subst h0;rw[af rfl,cond_true]at hg;exact nothing hcx hg
  ·rw[ag h0,cond_false]at hg;cases hst:dA M b off (vY (aV z) n)with
   |none=>rw[hst]at hg;cases(show RC.f= .k v M' ct' from hg)
   |some M2=>
    rw[hst]at hg;have hg':RC.k undef M2 ct= .k v M' ct':=hg;injection hg' with g1 g2 g3
    subst g1 g2 g3;obtain⟨w',hrun,hS⟩:=h.store hst (ac1 hbd n);refine⟨E,w',c,?_,hS,trivial,.refl _ _⟩;rw[hcx];have hzc:=wW E _ _ hcell n;obtain⟨m,rfl⟩:∃m,n=m+1:=⟨n-1,by omega⟩
    simp[Builtin.clear_,hat,av hu,hz'.1,hzc,hrun,conc,undef,au]
 unfold Hl at he'
 split at he'
 ·rename_i hv;exact nothing (ad:=none) (cap:=0) (by rw[hv];rfl) he'
 ·rename_i b o0 off hv;exact nothing (by rw[hv];rfl) he'
 ·rename_i b off n cp hv;exact fin b off n cp (by rw[hv];rfl) he'
 ·rename_i b off n el kn hv;exact fin b off n _ (by rw[hv];rfl) he'
 ·cases he'
theorem Dt{e:TypeId}(hc:P.cellsOf e=1)(count off n:Nat)(hn:off+n≤count):liesAt P P.depth e count off e n=true:=by
 have hd:P.depth=(2*(P.types.size+Made.depth)+1)+1:=rfl
 rw[hd]
 simp only[liesAt,Bool.or_eq_true]
 left
 rw[hd]
 simp[rowAt,hc,hn,sameLayout,Nat.mod_one]
theorem zb{b o n:Nat}{M':Mem}(h:jp M b o n=some M'):∃ty m ex fz d cs,M.get b=some (.cells ty m ex fz false d cs)∧M'=M.set b (.cells ty m ex (if fz≤o+n then o+n else fz) false d cs):=by
 unfold jp at h
 split at h
 ·rename_i ty m ex fz str d cs hM;cases str with
  |true=>cases h
  |false=>
   rw[cond_false,aQ,bG]at h;obtain rfl:=ae h;refine⟨_,_,_,_,_,_,hM,?_⟩
   congr 2
   by_cases hh:fz≤o+n
   ·rw[af (show fz≤Nat.add o n from hh),ac hh];rfl
   ·rw[ag (show¬fz≤Nat.add o n from hh),ab hh];rfl
 ·cases h
theorem pf(r:Nat):∀(ns:List Nat) (off:Nat) (acc:ByteArray),(∀j (hj:j<ns.length),w.cell? ⟨r,off+j,none⟩=some (.int .u8 (ns[j]:Int)))→
 (loadBytes ⟨r,off,none⟩ acc ns.length).run P w= .ok ⟨acc.data++(ns.map fun c=>UInt8.ofNat c).toArray⟩ w
 |[],off,acc,_=>by simp[loadBytes]
 |x::l,off,acc,h=>by
  have h0:w.cell? ⟨r,off,none⟩=some (.int .u8 (x:Int)):=h 0 (by simp)
  have ih:=pf r l (off+1) (acc.push x.toUInt8) (fun j hj=>by
   have:=h (j+1) (by simpa using hj);rw[show off+1+j=off+(j+1) by omega]
   simpa using this)
  simp only[bk,loadBytes,aC,run_load,h0,Result.andThen,Int.toNat_natCast,Addr.add_eq];rw[ih]
  congr 1
  apply ByteArray.ext;simp[ByteArray.push]
theorem Wy{ats:Array TypeId}{rty pt:TypeId}(hat:ats[0]?=some pt)(p:Option Addr)(k:IntKind):(Builtin.unsafeString_ ats rty #[.pointer p,.int k 0]).run P w= .ok (.string .empty) w:=by
 have hmax:IntKind.i64.max=9223372036854775807:=rfl
 conv=>lhs;arg 2;whnf
 cases p<;>simp[asInt,asIntOf,hmax,hat]
theorem ae9{ats:Array TypeId}{rty pt e:TypeId}(hat:ats[0]?=some pt)(hu:P.underlying pt=some (.pointer e))(ad:Addr)(k:IntKind){n:Nat}(h0:n≠0)(hn:n≤1099511627776)(hv:(variablesAt ad e n).run P w= .ok true w){s:ByteArray}(hl:(loadBytes ad .empty n).run P w= .ok s w):
 (Builtin.unsafeString_ ats rty #[.pointer (some ad),.int k n]).run P w= .ok (.string s) (w.freeze ad n):=by
 have hmax:IntKind.i64.max=9223372036854775807:=rfl
 have h1:¬((n:Int)<0):=by omega
 have h2:¬((9223372036854775807:Int)<(n:Int)):=by omega
 have h3:¬((n:Int)=0):=by omega
 conv=>lhs;arg 2;whnf
 simp[asInt,asIntOf,hmax,hat,h1,h2,h3,h0,elemOf,av hu,hv,hl,run_freeze]
theorem v7(h:Cx P E F M c w t a){o:Oper}{cl:Call}(hop:o.op= .call cl)(hb:cl.callee= .builtin .unsafeString){y z:Operand}(hargs:cl.args.toList=[y,z]){pt e:TypeId}(hat:cl.argTypes[0]?=some pt)
 (hu:P.underlying pt=some (.pointer e)) (hsz:dX P e=some 1) {xx xy:X} (h1:b7 y=some xx) (h2:b7 z=some xy)
 {k:Kn} (hk:k.F=F) {v:V} {M':Mem} {ct ct':Nat} (he:iG (.us e xx xy) k M ct t= .k v M' ct'):C6 P F E M c ct w a o v M' ct':=by
 have he':UD e xx xy k.F M ct t= .k v M' ct':=he
 rw[hk]at he'
 have e1:=h.ev h1
 have e2:=h.ev h2
 have hmax:IntKind.i64.max=9223372036854775807:=rfl
 unfold UD at he'
 split at he'
 ·rename_i n hn;obtain⟨ik,hy⟩:=iQ hn;rw[hy]at e2;refine tA.op hop hb hargs (s:=Builtin.unsafeString_ cl.argTypes o.type #[conc E (xx.ev t),.int ik n]) (fun fs=>by simp only[builtin,List.map_cons,List.map_nil,e1.1,e2.1,conc]) ?_;have hz:(conc E (.s 0 0))= .string .empty:=by simp only[conc];rfl
  split at he'
  ·rename_i hv;rw[bp]at he';by_cases h0:n=0
   ·subst h0;rw[af rfl,cond_true]at he';injection he' with g1 g2 g3
    subst g1 g2 g3;refine⟨E,w,c,?_,.refl h.rel,trivial,.refl _ _⟩;rw[hv,hz];exact Wy hat none ik
   ·rw[ag h0]at he';cases he'
  ·rename_i b off hv;unfold xw at he';rw[bp]at he';by_cases h0:n=0
   ·subst h0;rw[af rfl,cond_true]at he';injection he' with g1 g2 g3
    subst g1 g2 g3;refine⟨E,w,c,?_,.refl h.rel,trivial,.refl _ _⟩;rw[hv,hz];exact Wy hat _ ik
   ·rw[ag h0,cond_false,bG]at he';cases hty:Ei M b e with
    |false=>rw[hty]at he';cases he'
    |true=>
     by_cases hnb:n≤1099511627776
     ·rw[hty,af hnb]at he';simp only[Bool.and_self,cond_true]at he';split at he'
      ·rename_i vs hld;unfold xz at he';split at he'
       ·rename_i n' s hbv;split at he'
        ·rename_i M'' hfz;rw[aQ,aQ]at he';injection he' with g1 g2 g3
         subst g1 g2 g3;obtain⟨ty,m,ex,fz,d,cs,hM,rfl⟩:=zb hfz;obtain⟨arr,fr,ho,hr⟩:=h.cells (am hM);have hte:ty=e:=by
          unfold Ei at hty;rw[hM]at hty;simp only[bp]at hty;exact aP hty
         subst hte;have hl:=h.loadN hld;obtain⟨ns,rfl,rfl,hbb⟩:=nr _ _ _ hbv;have hnl:ns.length=n:=by simpa using hl.2.2
         have hcells:∀j (hj:j<ns.length),w.cell? ⟨E.ρ b,E.β b+off+j,none⟩=some (.int .u8 (ns[j]:Int)):=by
          intro j hjn;obtain⟨ty',m',ex',fz',str',d',cs',hb',hg⟩:=gN (f:=none) hld (by simp);rw[am hM]at hb';injection hb' with hb'
          injection hb' with q1 q2 q3 q4 q5 q6 q7
          subst q2 q6 q7;have hcell:=(kC _ _ _ hg).2 j (.i .u8 (.ofNat ns[j])) (by simp[hjn]);have:=hr.cell _ _ hcell;simp only[World.cell?,ho,Option.isSome_none,aR,if_false];rw[Nat.add_assoc,this];rfl
         have hsize:E.β b+off+n≤arr.size:=by
          have:=hcells (n-1) (by omega);simp only[World.cell?,ho,Option.isSome_none,aR,if_false]at this;have:=(Array.getElem?_eq_some_iff.1 this).1;omega
         have hlb:=pf (P:=P) (w:=w) (E.ρ b) ns (E.β b+off) .empty hcells
         have hba:(⟨ByteArray.empty.data++(ns.map fun c=>UInt8.ofNat c).toArray⟩:ByteArray)=ba ns.length s:=by
          unfold ba;rw[hbb];apply ByteArray.ext;simp
         rw[hba]at hlb;have hco:=jT hsz;have hva:(variablesAt ⟨E.ρ b,E.β b+off,none⟩ ty n).run P w= .ok true w:=by
          have hsh:w.shape? (E.ρ b)=some (ty,arr.size):=by simp[World.shape?,ho]
          simp[variablesAt,run_shape,hsh,hco,Dt hco arr.size (E.β b+off) n hsize]
         subst hnl;have hrun:=ae9 (w:=w) (rty:=o.type) hat hu ⟨E.ρ b,E.β b+off,none⟩ ik h0 hnb hva hlb
         have hfw:w.freeze ⟨E.ρ b,E.β b+off,none⟩ ns.length={w with heap:=w.heap.setIfInBounds (E.ρ b) (.cells arr ty (if fr.1==fr.2 then(E.β b+off,E.β b+off+ns.length)else(min fr.1 (E.β b+off),max fr.2 (E.β b+off+ns.length))))}:=by
          unfold World.freeze;rw[ab h0,s7 _ ho]
         rw[hfw]at hrun;generalize hnf:(if fr.1==fr.2 then(E.β b+off,E.β b+off+ns.length)else(min fr.1 (E.β b+off),max fr.2 (E.β b+off+ns.length)))=nf at hrun;refine⟨E,{w with heap:=w.heap.setIfInBounds (E.ρ b) (.cells arr ty nf)},c,?_,h.rel.write b _ _ hM (.cells arr ty nf) ?_ {w with heap:=w.heap.setIfInBounds (E.ρ b) (.cells arr ty nf)} rfl rfl rfl rfl ?_,trivial,.refl _ _⟩
         ·rw[hv];exact hrun
         ·exact(h.rel.has _ _ (am hM)).2.1
         ·subst hnf;have hhi:(if fr.1==fr.2 then(E.β b+off,E.β b+off+ns.length)else(min fr.1 (E.β b+off),max fr.2 (E.β b+off+ns.length))).2≤E.β b+(if fz≤off+ns.length then off+ns.length else fz):=by
           by_cases hfe:fr.1=fr.2
           ·rw[ac (by simpa using hfe)];simp only;split<;>omega
           ·rw[ab (by simpa using hfe)];simp only;rcases hr.plain rfl with hp|⟨hp,hp'⟩
            ·exact absurd hp hfe
            ·split<;>omega
          refine⟨arr,_,rfl,⟨hr.cell,hr.size,fun k hk hk' hf=>?_,fun _=> .inr ⟨?_,hhi⟩⟩⟩
          ·have:=hf.2;omega
          ·split<;>omega
        ·cases he'
       ·cases he'
      ·cases he'
     ·rw[ag hnb,Bool.and_false]at he';cases he'
  ·cases he'
 ·cases he'
end
section
variable{P:Program}{E:cT}{F:RO}{M:Mem}{c:Nat→Prop}{w:World}{t:T}{a:Act}
theorem fT{r:Nat}{o:Obj}(h:w.heap[r]?=some o)(hn:∀x y z,o≠ .cells x y z):(getObj r).run P w= .ok o w:=by
 simp only[getObj,Sem.run,h]
theorem b75{n s i:Nat}(h:i<n):((ba n s).get! i).toNat=s/256^i%256:=by
 have hb:=CL n s i h
 have:(ba n s).get! i=UInt8.ofNat (s/256^i%256):=by
  show(bl n s).toArray[i]! =_;simp[hb]
 rw[this]
 simp[UInt8.toNat_ofNat']
theorem Z4(h:Cx P E F M c w t a){o:Oper}{y:Operand}(hop:o.op= .next y true){x:X}(hx:b7 y=some x){k:Kn}{v:V}{M':Mem}{ct ct':Nat}(he:iG (.nxs x) k M ct t= .k v M' ct'):C6 P F E M c ct w a o v M' ct':=by
 have he':Ho x k.F M ct t= .k v M' ct':=he
 have e:=h.ev hx
 unfold Ho at he'
 split at he'
 ·rename_i b hv;rw[hv]at e;unfold aZ7 at he';split at he'
  ·rename_i n s pos hM;obtain⟨_,_,ob,hob,hβ,rfl⟩:=h.rel.has _ _ (am hM);have hgo:=fT (P:=P) hob (by intros;simp);have hpt:a.eval y= .pointer (some ⟨E.ρ b,0,none⟩):=by rw[e.1];simp[conc,hβ]
   rw[eT]at he';by_cases hp:pos<n
   ·rw[af hp,cond_true,aQ,eT]at he';by_cases hch:s/256^pos%256<128
    ·rw[af (show Nat.mod (Nat.div s (kW pos)) 256<128 from hch),cond_true,aQ,iJ]at he';injection he' with g1 g2 g3
     subst g1 g2 g3;have hdec:Utf8.decode (ba n s) pos=(s/256^pos%256,1):=by
      have:=b75 (s:=s) hp;simp only[Utf8.decode,cE,this,ac hch]
     have hso:=gq (P:=P) (o':= .stringIter (ba n s) (pos+1)) hob (by intros;simp);refine⟨E,_,.value (.tuple #[.bool true,goInt pos,.int .i32 (s/256^pos%256:Nat)]),c,?_,.inl rfl,h.rel.write b _ (.siter n s (pos+1)) hM (.stringIter (ba n s) (pos+1)) trivial {w with heap:=w.heap.setIfInBounds (E.ρ b) (.stringIter (ba n s) (pos+1))} rfl rfl rfl rfl ⟨hβ,rfl⟩,⟨trivial,trivial,trivial,trivial⟩,.refl _ _⟩;simp only[execOp,hop];refine aF ?_;rw[hpt];simp only[Instr.next,aC,hgo,aG,dv,hp,if_true,hdec,hso,az,Sem.run_ite]
    ·rw[ag (show¬Nat.mod (Nat.div s (kW pos)) 256<128 from hch),cond_false]at he';unfold bO9 at he';rw[aQ,aQ,iJ]at he';injection he' with g1 g2 g3
     subst g1 g2 g3;have hso:=gq (P:=P) (o':= .stringIter (ba n s) (pos+(Utf8.decode (ba n s) pos).2)) hob (by intros;simp);refine⟨E,_,.value (.tuple #[.bool true,goInt pos,.int .i32 ((Utf8.decode (ba n s) pos).1:Nat)]),c,?_,.inl rfl,h.rel.write b _ (.siter n s (pos+(Utf8.decode (ba n s) pos).2)) hM (.stringIter (ba n s) (pos+(Utf8.decode (ba n s) pos).2)) trivial {w with heap:=w.heap.setIfInBounds (E.ρ b) (.stringIter (ba n s) (pos+(Utf8.decode (ba n s) pos).2))} rfl rfl rfl rfl ⟨hβ,rfl⟩,⟨trivial,trivial,trivial,trivial⟩,.refl _ _⟩;simp only[execOp,hop];refine aF ?_;rw[hpt];simp only[Instr.next,aC,hgo,aG,dv,hp,if_true,hso,az,Sem.run_ite]
   ·rw[ag hp,cond_false]at he';injection he' with g1 g2 g3
    subst g1 g2 g3;refine⟨E,w,.value (.tuple #[.bool false]),c,?_,.inl rfl,.refl h.rel,⟨trivial,trivial⟩,.refl _ _⟩;simp only[execOp,hop];refine aF ?_;rw[hpt];simp only[Instr.next,aC,hgo,aG,dv,hp,if_false,az,Sem.run_ite]
  ·cases he'
 ·cases he'
theorem UC(h:Cx P E F M c w t a){ct:Nat}(hf:gb c ct){o:Oper}{ty kt et:TypeId}{y:Operand}(hop:o.op= .range ty y)(hu:P.underlying ty=some (.map kt et)){x:X}(hx:b7 y=some x){k:Kn}(hk:k.F=F){v:V}{M':Mem}{ct':Nat}(he:iG (.rgm x) k M ct t= .k v M' ct'):C6 P F E M c ct w a o v M' ct':=by
 have he':Hp x k.F M ct t= .k v M' ct':=he
 rw[hk]at he'
 have e:=h.ev hx
 unfold Hp at he'
 split at he'
 ·rename_i hv;rw[aQ,iJ]at he';injection he' with g1 g2 g3
  subst g1 g2 g3;rw[hv]at e;obtain⟨E',hS,hE,hρ,hβ,_⟩:=h.rel.alloc (.miter none 0 [] 0) (.mapIter none 0 #[] 0) ct 0 (fun b=>c b∨b=ct) (hf ct (ah _)) (.inr rfl) (fun _ h=> .inl h) (fun b hb=>by cases hb) {w with heap:=w.heap.push (.mapIter none 0 #[] 0)} rfl rfl rfl rfl (fun E' _ _ hβ _=>⟨hβ,rfl⟩);refine⟨E',_,.value (conc E' (.p ct 0)),_,?_,.inl rfl,hS,.inr rfl,gc c ct⟩;simp only[execOp,hop];refine aF ?_;rw[e.1];simp[Instr.range,av hu,conc,hρ,hβ]
 ·rename_i b hv;obtain⟨es,clock,hM,hg⟩:=qn he';rw[aQ,iJ]at hg;injection hg with g1 g2 g3
  subst g1 g2 g3;rw[hv]at e;obtain⟨ho,hbd⟩:=h.map hM;obtain⟨E',hS,hE,hρ,hβ,_⟩:=h.rel.alloc (.miter (some b) clock [] clock) (.mapIter (some (E.ρ b)) clock #[] clock) ct 0 (fun b=>c b∨b=ct) (hf ct (ah _)) (.inr rfl) (fun _ h=> .inl h) (fun b' hb'=>by cases hb';exact .inl e.2) {w with heap:=w.heap.push (.mapIter (some (E.ρ b)) clock #[] clock)} rfl rfl rfl rfl (fun E' he _ hβ _=>⟨hβ,by simp[he.ρ b e.2]⟩);refine⟨E',_,.value (conc E' (.p ct 0)),_,?_,.inl rfl,hS,.inr rfl,gc c ct⟩;simp only[execOp,hop];refine aF ?_;rw[e.1];simp[Instr.range,av hu,conc,hρ,hβ,cG ho]
 ·cases he'
theorem vw(seen:List Nat):∀es,qJ seen es=es.filter fun e=> !seen.contains e.2.2
 |[]=>rfl
 |h::r=>by
  have:qJ seen (h::r)=(bif s6 h.2.2 seen then qJ seen r else h::qJ seen r):=rfl;rw[this,zn,vw seen r,List.filter_cons];cases seen.contains h.2.2<;>rfl
theorem uH(since:Nat):∀es:List (V×V×Nat),uG since es=true→ ∀e∈es,e.2.2<since
 |[],_,e,he=>by cases he
 |h::r,ha,e,he=>by
  have h':(Nat.blt h.2.2 since&&uG since r)=true:=by rw[←ha];rfl
  rw[eT,aJ]at h';cases he with
  |head=>exact aP h'.1
  |tail _ hm=>exact uH since r h'.2 e hm
theorem Kb{ty r m:Nat}{esr left:List MapEntry}{clock since st:Nat}{seen:List Nat}(hr:w.heap[r]?=some (.mapIter (some m) since seen.toArray st))(hm:w.heap[m]?=some (.map esr.toArray clock))
 (hold:∀e∈esr,e.born<since) (hst:since≤st) (hl:esr.filter (fun e=> !seen.contains e.born)=left):
 (left=[]→(Instr.next (.pointer (some ⟨r,0,none⟩)) false ty).run P w= .ok (.tuple #[.bool false]) w)∧
 (∀e,left=[e]→(Instr.next (.pointer (some ⟨r,0,none⟩)) false ty).run P w= .ok (.tuple #[.bool true,e.key,e.val]) {w with heap:=w.heap.setIfInBounds r (.mapIter (some m) since (seen.toArray.push e.born) clock)}):=by
 have hgo:=fT (P:=P) hr (by intros;simp)
 have hgm:=cG (P:=P) hm
 have hc:(!seen.toArray.isEmpty&& !esr.toArray.isEmpty&&esr.toArray.all (fun e=>decide (e.born≥st)))=false:=by
  cases esr with
  |nil=>simp
  |cons h0 r0=>
   have:=hold h0 (by simp);simp;intro _ h1;omega
 have hleft:esr.toArray.filter (fun e=> !seen.toArray.contains e.born)=left.toArray:=by
  rw[List.filter_toArray',←hl]
  ·simp
  ·simp
 have hlold:∀e∈left,e.born<since:=by
  intro e he;rw[←hl]at he;exact hold e (List.mem_filter.1 he).1
 have h1:left.toArray.filter (fun e=>decide (e.born<since))=left.toArray:=by
  rw[List.filter_toArray' (by simp)]
  congr 1
  exact List.filter_eq_self.2 fun e he=>by simpa using hlold e he
 have h2:left.toArray.filter (fun e=>decide (e.born≥since))=#[]:=by
  rw[List.filter_toArray' (by simp)];rw[List.filter_eq_nil_iff.2];intro e he;have:=hlold e he;simp;omega
 constructor
 ·intro e0;subst e0;simp only[Instr.next,aC,hgo,hgm,aG,hc,aR,if_false,Sem.run_ite,az,hleft,h1,h2];simp[Question.forced]
 ·intro e e0;subst e0;have hso:=gq (P:=P) (o':= .mapIter (some m) since (seen.toArray.push e.born) clock) hr (by intros;simp);simp only[Instr.next,aC,hgo,hgm,aG,hc,aR,if_false,Sem.run_ite,az,hleft,h1,h2];simp only[List.push_toArray]at hso⊢;simp[Question.forced,hso]
theorem Z3(h:Cx P E F M c w t a){o:Oper}{y:Operand}(hop:o.op= .next y false){x:X}(hx:b7 y=some x){k:Kn}(hk:k.F=F){v:V}{M':Mem}{ct ct':Nat}(he:iG (.nxm x) k M ct t= .k v M' ct'):C6 P F E M c ct w a o v M' ct':=by
 have he':Hn x k.F M ct t= .k v M' ct':=he
 rw[hk]at he'
 have e:=h.ev hx
 unfold Hn at he'
 split at he'
 ·rename_i b hv;rw[hv]at e;unfold aZ6 at he';split at he'
  ·rename_i i1 i2 i3 hM;injection he' with g1 g2 g3
   subst g1 g2 g3;obtain⟨_,_,ob,hob,hβ,rfl⟩:=h.rel.has _ _ (am hM);have hgo:=fT (P:=P) hob (by intros;simp);have hpt:a.eval y= .pointer (some ⟨E.ρ b,0,none⟩):=by rw[e.1];simp[conc,hβ]
   refine⟨E,w,.value (.tuple #[.bool false]),c,?_,.inl rfl,.refl h.rel,⟨trivial,trivial⟩,.refl _ _⟩;simp only[execOp,hop];refine aF ?_;rw[hpt];simp[Instr.next,hgo]
  ·rename_i m since seen st hM;obtain⟨_,hbb,ob,hob,hβ,rfl⟩:=h.rel.has _ _ (am hM);have hgo:=fT (P:=P) hob (by intros;simp);have hpt:a.eval y= .pointer (some ⟨E.ρ b,0,none⟩):=by rw[e.1];simp[conc,hβ]
   obtain⟨es,clock,hm,hg⟩:=qn he';obtain⟨ho,hbd⟩:=h.map hm;have hgm:=cG (P:=P) ho;by_cases hal:uG since es=true
   ·by_cases hst:since≤st
    ·rw[hal,bG,af hst]at hg;simp only[Bool.and_self,cond_true]at hg;have hold:=uH since es hal;have hold':∀e∈es.map (entry E),e.born<since:=by
      intro e' he';obtain⟨e0,h0,rfl⟩:=List.mem_map.1 he';exact hold e0 h0
     have hl:(es.map (entry E)).filter (fun e=> !seen.contains e.born)=(qJ seen es).map (entry E):=by
      rw[vw,List.filter_map];rfl
     have key:=Kb (P:=P) (ty:=o.type) (r:=E.ρ b) (m:=E.ρ m) hob ho hold' hst hl;split at hg
     ·rename_i hle;injection hg with g1 g2 g3
      subst g1 g2 g3;refine⟨E,w,.value (.tuple #[.bool false]),c,?_,.inl rfl,.refl h.rel,⟨trivial,trivial⟩,.refl _ _⟩;simp only[execOp,hop];refine aF ?_;rw[hpt];exact key.1 (by rw[hle];rfl)
     ·rename_i k0 v0 born hle;rw[iJ]at hg;injection hg with g1 g2 g3
      subst g1 g2 g3;have hin:(k0,v0,born)∈es:=by
       have:(k0,v0,born)∈qJ seen es:=by rw[hle];simp
       rw[vw]at this;exact(List.mem_filter.1 this).1
      refine⟨E,_,.value (.tuple #[.bool true,conc E k0,conc E v0]),c,?_,.inl rfl,h.rel.write b _ (.miter (some m) since (seen++[born]) clock) hM (.mapIter (some (E.ρ m)) since (seen.toArray.push born) clock) hbb {w with heap:=w.heap.setIfInBounds (E.ρ b) (.mapIter (some (E.ρ m)) since (seen.toArray.push born) clock)} rfl rfl rfl rfl ⟨hβ,by simp⟩,⟨trivial,(hbd _ hin).1,(hbd _ hin).2,trivial⟩,.refl _ _⟩;simp only[execOp,hop];refine aF ?_;rw[hpt];exact key.2 (entry E (k0,v0,born)) (by rw[hle];rfl)
     ·cases hg
    ·rw[hal,bG,ag hst]at hg;cases hg
   ·rw[Bool.not_eq_true]at hal;rw[hal]at hg;cases hg
  ·cases he'
 ·cases he'
end
section
variable{P:Program}{E:cT}{F:RO}{M:Mem}{c:Nat→Prop}{w:World}{t:T}{a:Act}
def EO.plain:EO→Bool
 | .call _ _| .cv _ _=>false
 |_=>true
theorem at0{α:Type}{x:Array α}{y:α}{l:List α}(h:x.toList=y::l):x[0]?=some y:=by rw[dR h];rfl
theorem at1{α:Type}{x:Array α}{y z:α}{l:List α}(h:x.toList=y::z::l):x[1]?=some z:=by rw[dR h];rfl
theorem ck0{α:Type}{x:Array α}{y:α}(h:x.toList=[y]):x[1]?=none:=by rw[dR h];rfl
theorem bI1(h:Cx P E F M c w t a){ct:Nat}(hf:gb c ct){o:Oper}{eo:EO}(hc:aA P o.op=some (.e eo))(hp:eo.plain=true){k:Kn}(hk:k.F=F){v:V}{M':Mem}{ct':Nat}(he:iG eo k M ct t= .k v M' ct'):C6 P F E M c ct w a o v M' ct':=by
 cases hop:o.op with
 |store ty y z=>exact Z6 h hop hc hk he
 |mapUpdate ty m y z=>exact sT h (.inl hop) hc hk he
 |insert ty m y z=>exact sT h (.inr hop) hc hk he
 |next y b=>
  rw[hop]at hc;cases b with
  |true=>
   obtain⟨x,hx,e⟩:=be.1 hc;obtain rfl:EO.nxs x=eo:=by simpa using e
   exact Z4 h hop hx he
  |false=>
   obtain⟨x,hx,e⟩:=be.1 hc;obtain rfl:EO.nxm x=eo:=by simpa using e
   exact Z3 h hop hx hk he
 |range ty y=>
  rw[hop]at hc;simp only[aA]at hc;split at hc
  ·cases hc
  ·rename_i kt et x hu hx;obtain rfl:EO.rgm x=eo:=by simpa using hc
   exact UC h hf hop hu hx hk he
  ·cases hc
 |convert s d y=>
  rw[hop]at hc;simp only[aA]at hc;split at hc
  ·cases hc
  ·cases hc
  ·split at hc<;>cases hc
  ·split at hc<;>cases hc
  ·rename_i e0 el x h1 h2 hx;split at hc
   ·rename_i hcond;obtain rfl:EO.ms x=eo:=by simpa using hc
    rw[aJ]at hcond;have hsd:s=d:=by simpa using hcond.1
    subst hsd;have hel:P.underlying el=some (.int .u8):=by
     have:=hcond.2;unfold AP at this;split at this
     ·assumption
     ·cases this
    exact bc0 h hop h2 hel hx he
   ·cases hc
  ·split at hc<;>cases hc
  ·split at hc<;>cases hc
  ·cases hc
 |call cl=>
  rw[hop]at hc;simp only[aA]at hc;split at hc
  ·rename_i b' hcal;unfold eF at hc;split at hc
   ·split at hc<;>first|cases hc|(split at hc<;>cases hc)
   ·split at hc<;>cases hc
   ·rename_i y z ty t2 ts hargs htys;split at hc
    ·rename_i el x1 x2 hu h1 h2;split at hc
     ·rename_i sz by_ d hsz hby hd;split at hc
      ·cases hc
      ·rename_i hnd;split at hc
       ·cases hc
       ·rename_i hcond;obtain rfl:EO.app el sz by_ x1 x2=eo:=by simpa using hc
        rw[Bool.not_eq_true,Bool.or_eq_false_iff]at hcond;have hpos:sz≠0:=by simpa using hcond.1
        have hzo:Y6 P el sz=true:=by simpa using hcond.2
        exact At h hf hop hcal hargs (at0 htys) (.inl ⟨t2,d,at1 htys,hd,fun k e=>hnd k e⟩) hu hsz hby hpos hzo h1 h2 hk he
     ·cases hc
    ·cases hc
   ·rename_i y z ty hargs htys;split at hc
    ·rename_i el x1 x2 hu h1 h2;split at hc
     ·rename_i sz by_ hsz hby;split at hc
      ·cases hc
      ·rename_i hcond;obtain rfl:EO.app el sz by_ x1 x2=eo:=by simpa using hc
       rw[Bool.not_eq_true,Bool.or_eq_false_iff]at hcond;have hpos:sz≠0:=by simpa using hcond.1
       have hzo:Y6 P el sz=true:=by simpa using hcond.2
       exact At h hf hop hcal hargs (at0 htys) (.inr (ck0 htys)) hu hsz hby hpos hzo h1 h2 hk he
     ·cases hc
    ·cases hc
   ·rename_i y z ty ts hargs htys;split at hc
    ·rename_i el x1 x2 hu h1 h2;split at hc
     ·rename_i sz hsz;split at hc
      ·cases hc
      ·obtain rfl:EO.cpy sz x1 x2=eo:=by simpa using hc
       exact bb9 h hop hcal hargs (at0 htys) hu hsz h1 h2 hk he
     ·cases hc
    ·cases hc
   ·split at hc<;>cases hc
   ·split at hc<;>cases hc
   ·rename_i m y ty ts hargs htys;split at hc
    ·rename_i kt et xm xk hu h1 h2;obtain⟨sh,hks,e⟩:=be.1 hc;obtain rfl:EO.del sh xm xk=eo:=by simpa using e
     exact UB h hop hcal hargs htys hu hks h1 h2 he
    ·cases hc
   ·rename_i y z ty ts hargs htys;split at hc
    ·rename_i el x1 x2 hu h1 h2;split at hc
     ·rename_i hcond;obtain rfl:EO.us el x1 x2=eo:=by simpa using hc
      rw[aJ]at hcond;exact v7 h hop hcal hargs (at0 htys) hu (by simpa using hcond.2) h1 h2 hk he
     ·cases hc
    ·cases hc
   ·obtain⟨z,_,e⟩:=aU.1 hc;cases e
   ·rename_i y ty ts hargs htys;split at hc
    ·rename_i el x1 hu h1;obtain⟨z,hz,e⟩:=be.1 hc;obtain rfl:EO.clr (aV z) x1=eo:=by simpa using e
     exact Z1 h hop hcal hargs (at0 htys) hu hz h1 he
    ·cases hc
   ·cases hc
  ·rename_i f hcal;split at hc
   ·rename_i fn hf0;split at hc
    ·unfold gp at hc;split at hc
     ·cases hc
     ·split at hc
      ·split at hc
       ·split at hc<;>cases hc
       ·split at hc
        ·split at hc<;>cases hc
        ·split at hc
         ·split at hc<;>cases hc
         ·cases hc
      ·split at hc
       ·obtain⟨z,_,e⟩:=aU.1 hc;cases e
       ·split at hc
        ·split at hc
         ·split at hc
          ·split at hc<;>cases hc
          ·cases hc
         ·cases hc
        ·cases hc
      ·cases hc
    ·obtain⟨z,_,e⟩:=be.1 hc;obtain rfl:EO.call f z=eo:=by simpa using e
     cases hp
   ·cases hc
  ·split at hc
   ·rename_i x xs h1 h2;obtain rfl:EO.cv x xs=eo:=by simpa using hc
    cases hp
   ·cases hc
  ·cases hc
 |alloc ty=>rw[hop]at hc;obtain⟨z,_,e⟩:=be.1 hc;cases e
 |box ty y=>rw[hop]at hc;simp only[aA]at hc;split at hc<;>cases hc
 |buildSlice ty n ps=>
  rw[hop]at hc;simp only[aA]at hc;split at hc
  ·split at hc
   ·split at hc
    ·cases hc
    ·obtain⟨z,_,e⟩:=be.1 hc;cases e
   ·cases hc
  ·cases hc
 |makeMap ty r=>
  cases r with
  |none=>rw[hop]at hc;cases hc
  |some z=>rw[hop]at hc;cases hc
 |makeSlice ty l k'=>
  rw[hop]at hc;simp only[aA]at hc;split at hc
  ·split at hc
   ·split at hc<;>cases hc
   ·cases hc
  ·cases hc
 |move y=>rw[hop]at hc;obtain⟨z,_,e⟩:=aU.1 hc;cases e
 |assign y=>rw[hop]at hc;obtain⟨z,_,e⟩:=aU.1 hc;cases e
 |pick p y z=>rw[hop]at hc;simp only[aA]at hc;split at hc<;>cases hc
 |build ty ps=>
  rw[hop]at hc;simp only[aA]at hc;split at hc
  ·split at hc
   ·obtain⟨z,_,e⟩:=aU.1 hc;cases e
   ·cases hc
  ·split at hc
   ·obtain⟨z,_,e⟩:=aU.1 hc;cases e
   ·cases hc
  ·cases hc
 |load ty y=>rw[hop]at hc;simp only[aA]at hc;split at hc<;>cases hc
 |nilCheck y=>rw[hop]at hc;obtain⟨z,_,e⟩:=aU.1 hc;cases e
 |binOp op ty y z ty'=>
  rw[hop]at hc;simp only[aA]at hc;split at hc
  ·cases hc
  ·cases hc
  ·split at hc
   ·obtain⟨z,_,e⟩:=aU.1 hc;cases e
   ·obtain⟨z,_,e⟩:=aU.1 hc;cases e
   ·cases hc
  ·cases hc
 |unOp op ty y=>rw[hop]at hc;obtain⟨z,_,e⟩:=aU.1 hc;cases e
 |makeInterface ty y=>rw[hop]at hc;simp only[aA]at hc;split at hc<;>cases hc
 |makeFunc fn l1 l2=>
  cases fn with
  |func f=>rw[hop]at hc;simp only[aA]at hc;split at hc<;>cases hc
  |_=>rw[hop]at hc;cases hc
 |slice ty y lo hi mx=>
  rw[hop]at hc;simp only[aA]at hc;split at hc
  ·split at hc
   ·split at hc<;>cases hc
   ·obtain⟨z,_,e⟩:=aU.1 hc;split at e<;>cases e
   ·obtain⟨z,_,e⟩:=aU.1 hc;split at e<;>cases e
   ·split at hc
    ·obtain⟨z,_,e⟩:=aU.1 hc;split at e<;>cases e
    ·cases hc
   ·cases hc
  ·cases hc
 |fieldAddr ty y f=>
  rw[hop]at hc;simp only[aA]at hc;split at hc
  ·split at hc
   ·split at hc<;>cases hc
   ·cases hc
  ·cases hc
 |field ty y f=>
  rw[hop]at hc;simp only[aA]at hc;split at hc
  ·split at hc
   ·split at hc<;>cases hc
   ·cases hc
  ·cases hc
 |indexAddr ty y i=>
  rw[hop]at hc;simp only[aA]at hc;split at hc
  ·obtain⟨z,_,e⟩:=aU.1 hc;cases e
  ·obtain⟨z,_,e⟩:=aU.1 hc;cases e
  ·cases hc
 |index ty y i=>
  rw[hop]at hc;simp only[aA]at hc;split at hc
  ·split at hc<;>cases hc
  ·cases hc
  ·cases hc
 |lookup ty y i ok=>
  rw[hop]at hc;simp only[aA]at hc;split at hc
  ·split at hc<;>cases hc
  ·cases hc
 |typeAssert y ty ty' ok=>rw[hop]at hc;simp only[aA]at hc;split at hc<;>cases hc
 |extract y i=>rw[hop]at hc;obtain⟨z,_,e⟩:=aU.1 hc;cases e
 |sliceToArrayPointer d y=>rw[hop]at hc;simp only[aA]at hc;split at hc<;>cases hc
 |_=>rw[hop]at hc;cases hc
end
def d7(E:cT)(rd:Option Nat):Fence:={fn:=fun _=>True,depth:=none,alive:=false,round:=rd.map E.ρ}
structure SR(P:Program)(F:RO)(rd:Option Nat)(nt:Nat)(E:cT)(c:Nat→Prop)(w:World)(a:Act)(t:T)(d:List Nat)(M:Mem)(ct:Nat):Prop where
 cx:Cx P E F M c w t a
 fr:gb c ct
 df:a.defers=d.map fun b=>{target:= .collected (E.ρ b),args:=#[]}
 dc:∀b∈d,c b
 sz:nt≤a.tmps.size
 rd:∀l,rd=some l→c l
def LE(P:Program)(F:RO)(rd:Option Nat)(nt:Nat)(E:cT)(c:Nat→Prop)(w:World)(M:Mem)(ct:Nat)(t':T)(d':List Nat)(M':Mem)(ct':Nat)(a':Act)(w':World):Prop:=
 ∃E' c',mG P F E M c w E' M' c' w'∧jl c ct c' ct'∧SR P F rd nt E' c' w' a' t' d' M' ct'
section
variable{P:Program}{E E':cT}{F:RO}{M M':Mem}{c c':Nat→Prop}{ct ct' nt:Nat}{w w':World}{t:T}{d:List Nat}{a:Act}{rd:Option Nat}
theorem KL(t:T)(v:V):setT t none v=t:=rfl
theorem lE(t:T)(p:aE)(v:V):setT t (some p) v=t.setP p v:=rfl
theorem ub{p:aE}{v:V}(h:t.getP p=some v):cz t p=v:=by unfold cz;rw[h]
theorem xM{p:aE}(h:t.getP p=none):cz t p=undef:=by unfold cz;rw[h]
theorem JV(t:T)(k j:Nat)(v:V):cz (t.setP (bq k) v) (bq j)=if j=k then v else cz t (bq j):=by
 have:=tN t k j v
 by_cases h:j=k
 ·rw[ac h]at this⊢;exact ub this
 ·rw[ab h]at this⊢;unfold cz;rw[this]
theorem De(t:T)(p q:aE)(v:V):cz (t.setP p v) q=v∨cz (t.setP p v) q=cz t q:=by
 by_cases h:q=p
 ·subst h;exact .inl (ub (Tr.getP_setP_same q v t))
 ·right;unfold cz;rw[Tr.getP_setP_ne p v q t h]
theorem yN{dst:Option aE}{v:V}(h:U5 c t)(hv:bd c v):U5 c (setT t dst v):=by
 cases dst with
 |none=>exact h
 |some p=>
  intro q;rw[lE];rcases De t p q v with e|e
  ·rw[e];exact hv
  ·rw[e];exact h q
theorem uz{dst:Option Nat}{v:V}{val:Value}(h:rE E t a.tmps)(hd:∀k,dst=some k→k<a.tmps.size)(hv:val=conc E v):rE E (setT t (dst.map bq) v) (a.put dst val).tmps:=by
 cases dst with
 |none=>exact h
 |some k=>
  intro n;have hk:=hd k rfl;rw[Option.map_some,lE,JV];show(a.tmps.setIfInBounds k val).getD n Go.undef=_;by_cases e:n=k
  ·subst e;rw[ac rfl,hv];simp[Array.getD_eq_getD_getElem?,hk]
  ·rw[ab e,←h n];simp[Array.getD_eq_getD_getElem?,Array.getElem?_setIfInBounds_ne (Ne.symm e)]
theorem Act.put_defers(a:Act)(dst:Option Tmp)(v:Value):(a.put dst v).defers=a.defers:=by cases dst<;>rfl
theorem Act.put_size(a:Act)(dst:Option Tmp)(v:Value):(a.put dst v).tmps.size=a.tmps.size:=by cases dst<;>simp[Act.put]
theorem SR.put(h:SR P F rd nt E c w a t d M ct){dst:Option Nat}(hd:sS nt dst=true){v:V}{val:Value}(hv:val=conc E v)(hb:bd c v):SR P F rd nt E c w (a.put dst val) (setT t (dst.map bq) v) d M ct:=by
 refine⟨⟨h.cx.rel,h.cx.glob,h.cx.big,uz h.cx.tr (fun k hk=>?_) hv,yN h.cx.bt hb⟩,h.fr,by rw[Act.put_defers];exact h.df,h.dc,by rw[Act.put_size];exact h.sz,h.rd⟩
 subst hk
 have:k<nt:=by simpa [sS]using hd
 exact Nat.lt_of_lt_of_le this h.sz
theorem SR.stp(h:SR P F rd nt E c w a t d M ct)(hS:mG P F E M c w E' M' c' w')(hG:jl c ct c' ct'):SR P F rd nt E' c' w' a t d M' ct':=by
 refine⟨⟨hS.rel,fun g hg=>?_,fun g hg=>hS.le g (h.cx.big g hg),h.cx.tr.ext hS.ext h.cx.bt,fun p=>dw hS.le _ (h.cx.bt p)⟩,h.fr.grow hG,?_,fun b hb=>hS.le b (h.dc b hb),h.sz,fun l hl=>hS.le l (h.rd l hl)⟩
 ·rw[hS.ext.ρ g (h.cx.big g hg),hS.ext.β g (h.cx.big g hg)];exact h.cx.glob g hg
 ·rw[h.df];apply List.map_congr_left;intro b hb;rw[hS.ext.ρ b (h.dc b hb)]
theorem SR.res(h:SR P F rd nt E c w a t d M ct):LE P F rd nt E c w M ct t d M ct a w:=⟨E,c,.refl h.cx.rel,.refl _ _,h⟩
theorem gv(h:qe c E E')(hr:∀l,rd=some l→c l):d7 E' rd=d7 E rd:=by
 cases rd with
 |none=>rfl
 |some l=>unfold d7;simp only[Option.map_some];rw[h.ρ l (hr l rfl)]
theorem AH(h:rE E t a.tmps){ops:Array Oper}{o:Oper}{g:Option (aE×Bool)} (hg:(match o.guard with
 |none=>some none
 |some (j,want)=>match (ops[j]?).bind (·.dst)with
  |some d=>some (some (bq d,want))
  |none=>none)=some g):Region.wanted o (yielded ops a.tmps)=wanted t g:=by
 unfold Region.wanted
 cases ho:o.guard with
 |none=>rw[ho]at hg;obtain rfl:=ae hg;rfl
 |some jw=>
  obtain⟨j,want⟩:=jw;rw[ho]at hg;simp only at hg;cases hd:(ops[j]?).bind (·.dst)with
  |none=>rw[hd]at hg;cases hg
  |some dn=>
   rw[hd]at hg;obtain rfl:=ae hg;simp only[yielded,hd,Option.bind_some];show _=hU want (cz t (bq dn));have hn:=h dn;rw[Array.getD_eq_getD_getElem?]at hn;cases hv:a.tmps[dn]? with
   |none=>
    rw[hv]at hn;have hn':conc E (cz t (bq dn))= .tuple #[]:=hn.symm;cases hx:cz t (bq dn)<;>rw[hx]at hn'<;>first|rfl|(simp[conc]at hn')
   |some val=>
    rw[hv]at hn;have hn':val=conc E (cz t (bq dn)):=hn;cases hx:cz t (bq dn)with
    |b x=>
     rw[hx]at hn';rw[hn'];show(some x==some want)=Bool.rec (motive:=fun _=>Bool) (s9 want) want x;cases x<;>cases want<;>rfl
    |_=>rw[hx]at hn';rw[hn'];rfl
def n9(P:Program)(k:Kn):Prop:=∀(F:RO) (f:Nat) (args:List V) (M:Mem) (ct:Nat) (v:V) (M':Mem) (ct':Nat),mI (rX k F) f args M ct= .k v M' ct'→
 ∀(E:cT) (c:Nat→Prop) (w:World),kj P E F M c w→(∀g,g<1000→E.ρ g=g∧E.β g=0)→(∀g,g<1000→c g)→gb c ct→fq c args→
  ∃fn,P.funcs[f]?=some fn∧fn.body.isNone=false∧(fn.name== "runtime.NumGoroutine")=false∧
  Calls P f (au E args).toArray w fun e w'=>∃E' c',e= .returned (conc E' v)∧mG P F E M c w E' M' c' w'∧bd c' v∧jl c ct c' ct'
def kw(P:Program)(k:Kn):Prop:=∀(F:RO) (l:Nat) (args:List V) (M:Mem) (ct:Nat) (v:V) (M':Mem) (ct':Nat),qt (rX k F) l args M ct (dF (M.get l))= .k v M' ct'→
 ∀(E:cT) (c:Nat→Prop) (w:World) (rd:Option Nat),kj P E F M c w→(∀g,g<1000→E.ρ g=g∧E.β g=0)→(∀g,g<1000→c g)→gb c ct→fq c args→
  ∃fn tmps asg body,(Instr.yield (E.ρ l) (au E args).toArray).run P w= .ok (.round (E.ρ l) fn tmps asg body) w∧
  RoundIn (d7 E rd) 0 P (E.ρ l) fn tmps asg body w fun e w'=>∃E' c',e= .returned (conc E' v)∧mG P F E M c w E' M' c' w'∧bd c' v∧jl c ct c' ct'
theorem sP{n:Nat}{f:FuncId}{args:Array Value}{R:Ending→World→Prop}(h:Calls P f args w R):CallsIn (d7 E rd) n P f args w R:=callsIn_wide.2 h
theorem fv{o:Op}{op:OK}(h:aA P o=some op):∀cl,o≠ .defer cl:=by
 intro cl e;subst e;cases h
theorem wI{b:Builtin}{as0:List Operand}{ats:List TypeId}{x:EO}(hc:eF P b as0 ats=some (.e x)):x.plain=true:=by
 unfold eF at hc
 split at hc
 ·split at hc<;>first|cases hc|(split at hc<;>cases hc)
 ·split at hc<;>cases hc
 ·split at hc
  ·split at hc
   ·split at hc
    ·cases hc
    ·split at hc
     ·cases hc
     ·obtain rfl:=OK.e.inj (ae hc);rfl
   ·cases hc
  ·cases hc
 ·split at hc
  ·split at hc
   ·split at hc
    ·cases hc
    ·obtain rfl:=OK.e.inj (ae hc);rfl
   ·cases hc
  ·cases hc
 ·split at hc
  ·split at hc
   ·split at hc
    ·cases hc
    ·obtain rfl:=OK.e.inj (ae hc);rfl
   ·cases hc
  ·cases hc
 ·split at hc<;>cases hc
 ·split at hc<;>cases hc
 ·split at hc
  ·obtain⟨z,_,e⟩:=be.1 hc;obtain rfl:=OK.e.inj e;rfl
  ·cases hc
 ·split at hc
  ·split at hc
   ·obtain rfl:=OK.e.inj (ae hc);rfl
   ·cases hc
  ·cases hc
 ·obtain⟨z,_,e⟩:=aU.1 hc;cases e
 ·split at hc
  ·obtain⟨z,_,e⟩:=be.1 hc;obtain rfl:=OK.e.inj e;rfl
  ·cases hc
 ·cases hc
theorem wO{o:Op}(hn:∀cl,o≠ .call cl){x:EO}(hc:aA P o=some (.e x)):x.plain=true:=by
 cases hx:x.plain with
 |true=>rfl
 |false=>
  exfalso;unfold aA at hc;split at hc
  all_goals first
   |exact absurd rfl (hn _)
   |(cases hc;done)
   |(obtain⟨z,_,e⟩:=aU.1 hc;cases e;done)
   |(obtain⟨z,_,e⟩:=be.1 hc;cases e;done)
   |(obtain⟨z,_,e⟩:=be.1 hc;obtain rfl:=OK.e.inj e;cases hx;done)
   |skip
  all_goals (repeat' (first|(cases hc;done)|(obtain⟨z,_,e⟩:=aU.1 hc;cases e;done)|(obtain⟨z,_,e⟩:=aU.1 hc;split at e<;>cases e;done)|(obtain⟨z,_,e⟩:=be.1 hc;cases e;done)|(obtain⟨z,_,e⟩:=be.1 hc;obtain rfl:=OK.e.inj e;cases hx;done)|(obtain rfl:=OK.e.inj (ae hc);cases hx;done)|split at hc))
def J1(P:Program)(F:RO)(rd:Option Nat)(E:cT)(M:Mem)(c:Nat→Prop)(ct:Nat)(w:World)(a:Act)(o:Oper)(v:V)(M':Mem)(ct':Nat):Prop:=
 ∀(next:Act→World→Prop) (Q:Exit→Act→World→Prop),(∀E' c' w',mG P F E M c w E' M' c' w'→jl c ct c' ct'→bd c' v→next (a.put o.dst (conc E' v)) w')→o.wpIn (d7 E rd) 0 P a w next Q
theorem C6.op{o:Oper}(hd:∀cl,o.op≠ .defer cl){v:V}(h:C6 P F E M c ct w a o v M' ct'):J1 P F rd E M c ct w a o v M' ct':=by
 intro next Q hn
 obtain⟨E',w',nx,c',hr,hnv,hS,hb,hG⟩:=h
 refine⟨fun _ _=>trivial,?_⟩
 rw[Oper.semAt_eq _ _ _ hd,hr]
 rcases hnv with rfl|⟨rfl,hv⟩
 ·exact hn E' c' w' hS hG hb
 ·have:=hn E' c' w' hS hG hb;rw[hv]at this;exact this
theorem ab3(h:Cx P E F M c w t a){o:Oper}{q:QO}(hc:aA P o.op=some (.q q)){x:V}(hx:(cY q F M t).val=some x):J1 P F rd E M c ct w a o x M ct:=by
 intro next Q hn
 obtain⟨hr,hb⟩:=bU8 h hc hx
 refine⟨fun _ _=>trivial,?_⟩
 rw[Oper.semAt_eq _ _ _ (fv hc),hr]
 exact hn E c w (.refl h.rel) (.refl _ _) hb
theorem cj8(h:Cx P E F M c w t a)(hf:gb c ct){o:Oper}{ao:AO}(hc:aA P o.op=some (.a ao)){v:V}{blk:bz}(ha:kP ao ct t=some (v,blk)):J1 P F rd E M c ct w a o v (M.set ct blk) (ct+1):=by
 intro next Q hn
 obtain⟨E',w',hr,hS,_,hb⟩:=aj8 h hc (hf ct (ah _)) (c':=fun b=>c b∨b=ct) (.inr rfl) (fun _ h=> .inl h) ha
 refine⟨fun _ _=>trivial,?_⟩
 rw[Oper.semAt_eq _ _ _ (fv hc),hr]
 exact hn E' _ w' hS (gc c ct) hb
theorem Vi(k:Kn)(F:RO):(rX k F).F=F:=by cases k;rfl
theorem bI3{k:Kn}(hcall:n9 P k)(hy:kw P k)(h:Cx P E F M c w t a)(hf:gb c ct){o:Oper}{eo:EO}(hc:aA P o.op=some (.e eo)){v:V}(he:iG eo (rX k F) M ct t= .k v M' ct'):J1 P F rd E M c ct w a o v M' ct':=by
 cases hp:eo.plain with
 |true=>exact C6.op (fv hc) (bI1 h hf hc hp (Vi k F) he)
 |false=>
  have hnd:=fv hc
  have fin:∀(f:Nat) (args:List V),(execOp a.eval o).run P w=(callFunc f (au E args).toArray).run P w→fq c args→mI (rX k F) f args M ct= .k v M' ct'→J1 P F rd E M c ct w a o v M' ct':=by
   intro f args hrun hba hcf next Q hn
   obtain⟨fn,hfn,hbo,hnm,hC⟩:=hcall F f args M ct v M' ct' hcf E c w h.rel h.glob h.big hf hba;refine⟨fun _ _=>trivial,?_⟩;rw[Oper.semAt_eq _ _ _ hnd,hrun];have hcfn:(callFunc f (au E args).toArray).run P w= .ok (.enter f (au E args).toArray) w:=by
    have h1:¬fn.name= "runtime.NumGoroutine" :=by simpa using hnm
    have h2:¬fn.body=none:=fun e=>by rw[e]at hbo;cases hbo
    simp[callFunc,hfn,h1,h2]
   rw[hcfn,Oper.uponIn_enter];refine⟨fun hd=>by simp[d7]at hd,sP (hC.mono ?_)⟩;rintro e w' ⟨E',c',rfl,hS,hb,hG⟩;exact hn E' c' w' hS hG hb
  cases hop:o.op with
  |call cl=>
   rw[hop]at hc;simp only[aA]at hc;split at hc
   ·
    rename_i b' hcal;exfalso;have hq:∀x,eF P b' cl.args.toList cl.argTypes.toList=some (.e x)→x.plain=true:=fun x hx=>wI hx;rw[hq eo hc]at hp;cases hp
   ·rename_i f hcal;split at hc
    ·rename_i fn hf0;split at hc
     ·exfalso;unfold gp at hc;split at hc
      ·cases hc
      ·split at hc
       ·split at hc
        ·split at hc<;>cases hc
        ·split at hc
         ·split at hc<;>cases hc
         ·split at hc
          ·split at hc<;>cases hc
          ·cases hc
       ·split at hc
        ·obtain⟨z,_,e⟩:=aU.1 hc;cases e
        ·split at hc
         ·split at hc
          ·split at hc
           ·split at hc<;>cases hc
           ·cases hc
          ·cases hc
         ·cases hc
       ·cases hc
     ·obtain⟨xs,hxs,e⟩:=be.1 hc;obtain rfl:EO.call f xs=eo:=by simpa using e
      have ev:=h.evs hxs;have hm:cl.args.map a.eval=(au E (evs xs t)).toArray:=by
       rw[←ev.1];apply Array.ext';simp
      refine fin f (evs xs t) ?_ ev.2 he;simp only[execOp,hop,resolve,hcal,hm,Act.eval,Deferred.ofValue,aC,az,aG,invoke,Array.empty_append,Array.append_empty]
    ·cases hc
   ·rename_i y hny hcal;split at hc
    ·rename_i x xs hx hxs;obtain rfl:EO.cv x xs=eo:=by simpa using hc
     have ev:=h.evs hxs;have e1:=h.ev hx;have hm:cl.args.map a.eval=(au E (evs xs t)).toArray:=by
      rw[←ev.1];apply Array.ext';simp
     have he':lh (rX k F) (x.ev t) (evs xs t) M ct= .k v M' ct':=he;cases hv:x.ev t with
     |f f first caps=>
      rw[hv]at he' e1;have he2:mI (rX k F) f (first++(evs xs t++caps)) M ct= .k v M' ct':=he';refine fin f _ ?_ (ir e1.2.1 (ir ev.2 e1.2.2)) he2;simp only[execOp,hop,resolve,hcal,hm,e1.1,conc,Deferred.ofValue,aC,az,aG,invoke]
      congr 2
      rw[gO,gO];simp
     |y l=>
      rw[hv]at he' e1;have he2:qt (rX k F) l (evs xs t) M ct (dF (M.get l))= .k v M' ct':=he';intro next Q hn
      obtain⟨fn,tmps,asg,body,hyr,hR⟩:=hy F l (evs xs t) M ct v M' ct' he2 E c w rd h.rel h.glob h.big hf ev.2;refine⟨fun _ _=>trivial,?_⟩;rw[Oper.semAt_eq _ _ _ hnd];have hrun:(execOp a.eval o).run P w= .ok (.round (E.ρ l) fn tmps asg body) w:=by
       simp only[execOp,hop,resolve,hcal,hm,e1.1,conc,Deferred.ofValue,aC,az,aG,invoke,Array.empty_append,hyr]
      rw[hrun,Oper.uponIn_round];refine⟨fun hd=>by simp[d7]at hd,hR.mono ?_⟩;rintro e w' ⟨E',c',rfl,hS,hb,hG⟩;exact hn E' c' w' hS hG hb
     |_=>rw[hv]at he';cases(show RC.f= .k v M' ct' from he')
    ·cases hc
   ·cases hc
  |_=>
   exfalso;have:=wO (by rw[hop];intro cl;simp) hc;rw[this]at hp;cases hp
end
section
variable{P:Program}{E E':cT}{F:RO}{M M':Mem}{c c':Nat→Prop}{ct ct' nt:Nat}{w w':World}{t t':T}{d d':List Nat}{a:Act}{rd:Option Nat}
theorem LE.trans{E₁:cT}{c₁:Nat→Prop}{w₁:World}{M₁:Mem}{ct₁:Nat}(hS:mG P F E M c w E₁ M₁ c₁ w₁)(hG:jl c ct c₁ ct₁){a':Act}(h:LE P F rd nt E₁ c₁ w₁ M₁ ct₁ t' d' M' ct' a' w'):LE P F rd nt E c w M ct t' d' M' ct' a' w':=by
 obtain⟨E',c',hS',hG',hR⟩:=h
 exact⟨E',c',hS.trans hS',hG.trans hG',hR⟩
theorem gj(dst:Option aE)(d:List Nat)(M:Mem)(ct:Nat)(t:T)(v:V):vP dst d M ct t v=some (.mk (setT t dst v) d M ct):=by
 unfold vP;rw[Tr.force_eq]
theorem W4(dst:Option aE)(op:OK)(g:Option (aE×Bool))(k:Kn)(t:T)(d:List Nat)(M:Mem)(ct:Nat):
 eb (.mk dst op g) k (.mk t d M ct)=if wanted t g then sop op k dst t d M ct else some (.mk (setT t dst undef) d M ct):=by
 cases g with
 |none=>rfl
 |some g=>
  show(Bool.rec (motive:=fun _=>Option St) (vP dst d M ct t undef) (sop op k dst t d M ct) (wanted t (some g)))=_;rw[bb,gj]
theorem Bv(o:CO)(r:List CO)(k:Kn)(s:St):dy (o::r) k s=(eb o k s).bind fun s=>dy r k s:=by
 show Option.rec (motive:=fun _=>Option St) none (fun s=>dy r k s) (eb o k s)=_
 cases eb o k s<;>rfl
theorem bk6{k:Kn}(hcall:n9 P k)(hy:kw P k)(h:SR P F rd nt E c w a t d M ct){o:Oper}(hd:sS nt o.dst=true){op:OK}(hc:aA P o.op=some op){s':St}(hs:sop op (rX k F) (o.dst.map bq) t d M ct=some s'):
 ∃v M' ct',s'= .mk (setT t (o.dst.map bq) v) d M' ct'∧J1 P F rd E M c ct w a o v M' ct':=by
 cases op with
 |q q=>
  have hs':ac9 (o.dst.map bq) t d M ct (cY q (rX k F).F M t)=some s':=hs;rw[Vi]at hs';cases hq:cY q F M t with
  |f=>rw[hq]at hs';cases(show(none:Option St)=some s' from hs')
  |v x=>
   rw[hq]at hs';have hs2:vP (o.dst.map bq) d M ct t x=some s':=hs';rw[gj]at hs2;exact⟨x,M,ct,(ae hs2).symm,ab3 h.cx hc (by rw[hq];rfl)⟩
  |r x b=>
   rw[hq]at hs';have hs2:vP (o.dst.map bq) d M ct t x=some s':=hs';rw[gj]at hs2;exact⟨x,M,ct,(ae hs2).symm,ab3 h.cx hc (by rw[hq];rfl)⟩
 |a ao=>
  have hs':ac8 (o.dst.map bq) t d M ct (kP ao ct t)=some s':=hs;cases ha:kP ao ct t with
  |none=>rw[ha]at hs';cases(show(none:Option St)=some s' from hs')
  |some p=>
   obtain⟨v,blk⟩:=p;rw[ha]at hs';have hs2:W2 (o.dst.map bq) t d M ct v blk=some s':=hs';unfold W2 at hs2;rw[Tr.force_eq,aQ,gj]at hs2;exact⟨v,M.set ct blk,ct+1,(ae hs2).symm,cj8 h.cx h.fr hc ha⟩
 |e eo=>
  have hs':wQ (o.dst.map bq) t d (iG eo (rX k F) M ct t)=some s':=hs;cases he:iG eo (rX k F) M ct t with
  |f=>rw[he]at hs';cases(show(none:Option St)=some s' from hs')
  |k v M' ct'=>
   rw[he]at hs';have hs2:vP (o.dst.map bq) d M' ct' t v=some s':=hs';rw[gj]at hs2;exact⟨v,M',ct',(ae hs2).symm,bI3 hcall hy h.cx h.fr hc he⟩
theorem uT{ops:Array Oper}{o:Oper}{co:CO}(h:xn P nt ops o=some co):sS nt o.dst=true∧ ∃g op,co= .mk (o.dst.map bq) op g∧
 (match o.guard with
 |none=>some none
 |some (j,want)=>match (ops[j]?).bind (·.dst)with
  |some d=>some (some (bq d,want))
  |none=>none)=some g∧(aA P o.op=some op∨op= .q .bad):=by
 unfold xn at h
 split at h
 ·cases h
 ·rename_i hd;have hd':sS nt o.dst=true:=by simpa using hd
  split at h
  ·cases h
  ·rename_i g hg;split at h
   ·rename_i op hop;obtain rfl:=ae h;exact⟨hd',g,op,rfl,hg,.inl hop⟩
   ·obtain rfl:=ae h;exact⟨hd',g,_,rfl,hg,.inr rfl⟩
theorem DX{k:Kn}(hcall:n9 P k)(hy:kw P k){ops:Array Oper}{Q:Exit→Act→World→Prop}:∀(l:List Oper) (cos:List CO) (i:Nat) (E:cT) (c:Nat→Prop) (w:World) (a:Act) (t:T) (M:Mem) (ct:Nat),ops.toList.drop i=l→nu P nt ops l=some cos→
 dy cos (rX k F) (.mk t d M ct)=some (.mk t' d' M' ct')→SR P F rd nt E c w a t d M ct→(∀a' w',LE P F rd nt E c w M ct t' d' M' ct' a' w'→Q .normal a' w')→wpOpsIn (d7 E rd) 0 P ops Q (List.range' i l.length) a w
 |[],cos,i,E,c,w,a,t,M,ct,hl,hc,hs,h,hQ=>by
  obtain rfl:=ae hc;have hs':some (St.mk t d M ct)=some (.mk t' d' M' ct'):=hs;injection hs' with hs'
  injection hs' with e1 e2 e3 e4
  subst e1 e2 e3 e4;exact hQ a w h.res
 |o::l,cos,i,E,c,w,a,t,M,ct,hl,hc,hs,h,hQ=>by
  rw[nu]at hc;split at hc
  ·rename_i co cr h1 h2;obtain rfl:=ae hc;have hi:ops[i]?=some o:=by
    have:(ops.toList.drop i)[0]?=some o:=by rw[hl];rfl
    simpa using this
   have hl':ops.toList.drop (i+1)=l:=by
    rw[←List.drop_drop,hl];rfl
   obtain⟨hd,g,op,rfl,hg,hop⟩:=uT h1;rw[Bv,W4]at hs;rw[bk,List.range'_succ];simp only[wpOpsIn,hi];rw[AH h.cx.tr hg];by_cases hw:wanted t g=true
   ·rw[ac hw]at hs;rw[ac hw];obtain⟨s1,hs1,hs2⟩:=aU.1 hs;rcases hop with hop|rfl
    ·obtain⟨v,M1,ct1,rfl,hO⟩:=bk6 hcall hy h hd hop hs1;refine hO _ _ fun E1 c1 w1 hS hG hb=>?_;have h1:=(h.stp hS hG).put hd rfl hb;rw[←gv hS.ext h.rd];exact DX hcall hy l cr (i+1) E1 c1 w1 _ _ M1 ct1 hl' h2 hs2 h1 fun a' w' hr=>hQ a' w' (hr.trans hS hG)
    ·cases(show(none:Option St)=some s1 from hs1)
   ·rw[ab hw]at hs;rw[ab hw];refine⟨fun _ _=>trivial,?_⟩;have h1:=h.put hd (v:=undef) (val:=Go.undef) rfl trivial;exact DX hcall hy l cr (i+1) E c w _ _ M ct hl' h2 hs h1 hQ
  ·cases hc
end
def qF:Ex→Exit
 | .nrm=> .normal
 | .ret=> .ret
 | .ext id=> .exit id
 | .gto l=> .goto l
def A6(P:Program)(ex:wB):Prop:=∀(rd:Option Nat) (fn:Nat) (F:RO) (cc:CC) (t:T) (d:List Nat) (M:Mem) (ct:Nat) (e:Ex) (t':T) (d':List Nat) (M':Mem) (ct':Nat),
 ex rd fn F cc (.mk t d M ct)= .k e (.mk t' d' M' ct')→ ∀(nt:Nat) (code:Code),Y9 P nt code cc→ ∀(E:cT) (c:Nat→Prop) (w:World) (a:Act),SR P F rd nt E c w a t d M ct→
  ∀Q:Exit→Act→World→Prop,(∀a' w',LE P F rd nt E c w M ct t' d' M' ct' a' w'→Q (qF e) a' w')→code.wpIn (d7 E rd) 0 P Q a w
def bt3(P:Program)(ex:wB)(m:Nat):Prop:=∀(rd:Option Nat) (fn:Nat) (F:RO) (b:CC) (t:T) (d:List Nat) (M:Mem) (ct:Nat) (e:Ex) (t':T) (d':List Nat) (M':Mem) (ct':Nat),
 ex rd fn F (.loop b) (.mk t d M ct)= .k e (.mk t' d' M' ct')→ ∀(nt:Nat) (code:Code),Y9 P nt code b→ ∀(E:cT) (c:Nat→Prop) (w:World) (a:Act),SR P F rd nt E c w a t d M ct→
  ∀Q:Exit→Act→World→Prop,(∀a' w',LE P F rd nt E c w M ct t' d' M' ct' a' w'→Q (qF e) a' w')→Code.roundsIn (d7 E rd) 0 P code Q m a w
def aj7(P:Program)(nt:Nat)(body:Code)(tbl:CC):Prop:=∀l cl,kI l tbl=some cl→ ∃rest,findLabel body l=some rest∧Y9 P nt rest cl
def bg(P:Program)(f:Nat)(g:RO→List V→Mem→Nat→RC):Prop:=∀(F:RO) (args:List V) (M:Mem) (ct:Nat) (v:V) (M':Mem) (ct':Nat),g F args M ct= .k v M' ct'→
 ∀(E:cT) (c:Nat→Prop) (w:World),kj P E F M c w→(∀g,g<1000→E.ρ g=g∧E.β g=0)→(∀g,g<1000→c g)→gb c ct→fq c args→
  ∃fn,P.funcs[f]?=some fn∧fn.body.isNone=false∧(fn.name== "runtime.NumGoroutine")=false∧
  Calls P f (au E args).toArray w fun e w'=>∃E' c',e= .returned (conc E' v)∧mG P F E M c w E' M' c' w'∧bd c' v∧jl c ct c' ct'
def bt1(P:Program)(f:Nat)(cf:CF):Prop:=
 match cf with
 | .mk n res body=>∃fn,P.funcs[f]?=some fn∧YS P fn=some (.mk n res body)
 | .orc g=>bg P f g
def eC(P:Program)(Φ:Nat→Option CF):Prop:=∀f cf,Φ f=some cf→bt1 P f cf
section
variable{P:Program}{E E':cT}{F:RO}{M M':Mem}{c c':Nat→Prop}{ct ct' nt:Nat}{w w':World}{t t':T}{d d':List Nat}{a:Act}{rd:Option Nat}
theorem Bz{n:Nat}:∀k,(KT n).get k=none:=by
 induction n with
 |zero=>intro k;rfl
 |succ n ih=>
  intro k;show(Tr.n (KT n) none (KT n)).get k=none;rw[Tr.get_n];split
  ·rfl
  ·split
   ·exact ih _
   ·exact ih _
theorem Jr(E:cT)(args:List V)(m n:Nat):rE E (aS m args) ((au E args).toArray++Array.replicate n Go.undef):=by
 intro k
 have hg:(aS m args).getP (bq k)=args[k]?:=by
  rw[ea];show(aX args 0 (KT m)).get k=_;rw[dk];by_cases h:k<args.length
  ·rw[ac (by omega)];rfl
  ·rw[ab (by omega),List.getElem?_eq_none (by omega)];exact Bz k
 rw[Array.getD_eq_getD_getElem?]
 by_cases h:k<args.length
 ·have hv:args[k]?=some args[k]:=List.getElem?_eq_getElem h;rw[ub (hg.trans hv)];rw[Array.getElem?_append_left (by simpa [bf]using h)];simp[bf,h]
 ·have hv:args[k]?=none:=List.getElem?_eq_none (by omega);rw[xM (hg.trans hv)];rw[Array.getElem?_append_right (by simp[bf];omega)];by_cases h2:k-(au E args).toArray.size<n
  ·rw[Array.getElem?_replicate,ac h2];rfl
  ·rw[Array.getElem?_replicate,ab h2];rfl
theorem VH{p q:aE}(h:∀t:Tr Unit,t.getP p=t.getP q):p=q:=by
 by_cases e:q=p
 ·exact e.symm
 ·have:=h (Tr.e.setP p ());rw[Tr.getP_setP_same,Tr.getP_setP_ne p () q _ e,Tr.getP_e]at this;cases this
theorem y9(k:Nat):bq (2*k+1)= .l (bq k):=VH fun t=>by
 rw[ea]
 cases t with
 |e=>rw[Tr.getP_e];rfl
 |n l v r=>rw[Tr.getP_l,ea,Tr.get_n,ab (by omega),ab (by omega),show(2*k+1)/2=k by omega]
theorem vO(k:Nat):bq (2*k+2)= .r (bq k):=VH fun t=>by
 rw[ea]
 cases t with
 |e=>rw[Tr.getP_e];rfl
 |n l v r=>rw[Tr.getP_r,ea,Tr.get_n,ab (by omega),ac (by omega),show(2*k+2)/2-1=k by omega]
theorem mm:∀p:aE,∃k,bq k=p
 | .h=>⟨0,rfl⟩
 | .l p=>let⟨k,hk⟩:=mm p;⟨2*k+1,by rw[y9,hk]⟩
 | .r p=>let⟨k,hk⟩:=mm p;⟨2*k+2,by rw[vO,hk]⟩
theorem Mk{m:Nat}{args:List V}(h:fq c args):U5 c (aS m args):=by
 intro p
 have key:∀(vs:List V) (k:Nat) (t:T),fq c vs→U5 c t→U5 c (aX vs k t):=by
  intro vs
  induction vs with
  |nil=>intro k t _ ht;exact ht
  |cons v vs ih=>
   intro k t hv ht;rw[cO];refine ih (k+1) _ hv.2 ?_;intro q;obtain⟨j,rfl⟩:=mm q;have hg:(t.set k v).getP (bq j)=if j=k then some v else t.getP (bq j):=by
    rw[ea,ea,Tr.get_set]
   by_cases e:j=k
   ·rw[ac e]at hg;rw[ub hg];exact hv.1
   ·rw[ab e]at hg;have:=ht (bq j);unfold cz at this⊢;rw[hg];exact this
 refine key args 0 (KT m) h ?_ p
 intro q
 obtain⟨j,rfl⟩:=mm q
 rw[xM (by rw[ea];exact Bz j)];trivial
end
section
variable{P:Program}{E E':cT}{F:RO}{M M':Mem}{c c':Nat→Prop}{ct ct' nt:Nat}{w w':World}{t t':T}{d d':List Nat}{a:Act}{rd:Option Nat}
theorem KC(r:RV)(l:List RV):eN F M t (r::l)=(ye F M t r).bind fun v=>(eN F M t l).map (v:: ·):=by
 show Option.rec (motive:=fun _=>Option (List V)) none (fun v=>tY v (eN F M t l)) (ye F M t r)=_
 cases ye F M t r with
 |none=>rfl
 |some v=>
  show tY v (eN F M t l)=(eN F M t l).map (v:: ·);unfold tY;cases eN F M t l<;>rfl
def VU(tmps:Array Value):ResultVar→Sem Value
 | .tmp n=>pure (tmps.getD n Go.undef)
 | .cell ad ty=>do loadVar ty (←asAddr (tmps.getD ad Go.undef))
theorem VV(h:Cx P E F M c w t a){x:ResultVar}{r:RV}(hc:aX3 P x=some r){v:V}(hv:ye F M t r=some v):
 (VU a.tmps x).run P w= .ok (conc E v) w∧bd c v:=by
 unfold VU
 cases x with
 |tmp n=>
  obtain rfl:=ae hc;obtain rfl:cz t (bq n)=v:=ae hv;exact⟨by simp[h.tr n],h.bt _⟩
 |cell ad ty=>
  have hn:=h.tr ad;have hc':(match tT P ty,dX P ty with
   |some true,some n=>some (RV.cn (bq ad) n)
   |some false,some _=>some (RV.c1 (bq ad))
   |_,_=>none)=some r:=hc
  replace hc:=hc';clear hc'
  ·split at hc
   ·rename_i n h1 h2;obtain rfl:=ae hc;have hv':(sc (cz t (bq ad)) none fun b o=>Option.rec (motive:=fun _=>Option V) none (fun l=>some (.g l)) (loadN F M b o n))=some v:=hv;cases hg:cz t (bq ad)with
    |p b o=>
     rw[hg]at hv' hn;have hv2:Option.rec (motive:=fun _=>Option V) none (fun l=>some (.g l)) (loadN F M b o n)=some v:=hv';cases hl:loadN F M b o n with
     |none=>rw[hl]at hv2;cases hv2
     |some l=>
      rw[hl]at hv2;obtain rfl:V.g l=v:=ae hv2;have hL:=h.loadN hl;refine⟨?_,hL.2.1⟩;simp only[hn,conc,asAddr,loadVar,aC,az,aG,lr h1,Sem.run_ite,if_true,dK h2,hL.1]
    |_=>rw[hg]at hv';cases(show(none:Option V)=some v from hv')
   ·rename_i n h1 h2;obtain rfl:=ae hc;have hv':(sc (cz t (bq ad)) none fun b o=>load1 F M b o)=some v:=hv;cases hg:cz t (bq ad)with
    |p b o=>
     rw[hg]at hv' hn;have hL:=h.load1 (show Ev.load1 F M b o=some v from hv');refine⟨?_,hL.2⟩;simp only[hn,conc,asAddr,loadVar,aC,az,aG,lr h1,Sem.run_ite,aR,if_false,run_load,hL.1]
    |_=>rw[hg]at hv';cases(show(none:Option V)=some v from hv')
   ·cases hc
theorem Ip(h:Cx P E F M c w t a):∀{xs:List ResultVar} {rs:List RV} {vs:List V},rO P xs=some rs→eN F M t rs=some vs→
 (xs.mapM (VU a.tmps)).run P w= .ok (au E vs) w∧fq c vs
 |[],rs,vs,hc,hv=>by
  obtain rfl:=ae hc;obtain rfl:[]=vs:=ae hv;exact⟨rfl,trivial⟩
 |x::xs,rs,vs,hc,hv=>by
  rw[rO]at hc;split at hc
  ·rename_i r rr h1 h2;obtain rfl:=ae hc;rw[KC]at hv;obtain⟨v,hv1,hv2⟩:=aU.1 hv;obtain⟨vs',hv3,rfl⟩:=be.1 hv2;have e1:=VV h h1 hv1;have e2:=Ip h h2 hv3;refine⟨?_,e1.2,e2.2⟩;simp only[List.mapM_cons,aC,e1.1,e2.1,aG,az,au]
  ·cases hc
theorem DQ(h:Cx P E F M c w t a){fn:Func}{rs:List RV}{vs:List V}(hc:rO P fn.results.toList=some rs)(hv:eN F M t rs=some vs):
 (results fn a.tmps).run P w= .ok (conc E (tW vs)) w∧bd c (tW vs):=by
 have e:=Ip h hc hv
 have hm:(fn.results.mapM (VU a.tmps)).run P w= .ok (au E vs).toArray w:=by
  rw[←Array.toArray_toList (xs:=fn.results),List.mapM_toArray];simp[e.1]
 show(bind (fn.results.mapM (VU a.tmps)) _).run P w=_∧_
 rw[aC,hm]
 match vs,e.2 with
 |[],_=>exact⟨rfl,trivial⟩
 |[v],hb=>exact⟨rfl,hb.1⟩
 |v::v'::l,hb=>
  refine⟨?_,hb⟩;show Result.ok _ w=_
  congr 1
end
section
variable{P:Program}{E E':cT}{F:RO}{M M':Mem}{c c':Nat→Prop}{ct ct' nt:Nat}{w w':World}{t t':T}{d d':List Nat}{a:Act}{rd:Option Nat}
theorem wS(b:Nat)(ds:List Nat)(M:Mem):cA (b::ds) M=match M.get b with
 |some (.defs false)=>cA ds (M.set b (.defs true))
 |_=>none:=by
 show Option.rec (motive:=fun _=>Option Mem) none (fun blk=>wm (cA ds) M b blk) (M.get b)=_
 cases M.get b with
 |none=>rfl
 |some blk=>
  cases blk with
  |defs x=>
   cases x with
   |true=>rfl
   |false=>exact Tr.force_eq _ _
  |_=>rfl
theorem xW{fn:Func}{R:Ending→World→Prop}{t:T}{tmps:Array Value}{M₂:Mem}:∀(ds:List Nat) (M:Mem) (w:World),cA ds M=some M₂→kj P E F M c w→
 (∀w',mG P F E M c w E M₂ c w'→ ∃v,(results fn tmps).run P w'= .ok v w'∧R (.returned v) w')→
 LeavesInM Fence.wide 0 P fn tmps R (ds.map fun b=>{target:= .collected (E.ρ b),args:=#[]}) .returning w
 |[],M,w,hm,h,hR=>by
  obtain rfl:M=M₂:=ae hm;exact hR w (.refl h)
 |b::ds,M,w,hm,h,hR=>by
  rw[wS]at hm;split at hm
  ·rename_i hM;obtain⟨_,_,o,ho,hrel⟩:=h.has _ _ (am hM);have hrel':o= .deferred (some []):=hrel;subst hrel';have hS:=h.write b _ (.defs true) hM (.deferred none) trivial (w.putObj (E.ρ b) (.deferred none)) rfl rfl rfl rfl rfl;refine⟨by simp,.inl ⟨E.ρ b,w.putObj (E.ρ b) (.deferred none),rfl,run_takeDeferred ho,?_⟩⟩;exact xW (t:=t) ds _ _ hm hS.rel fun w' hS'=>hR w' (hS.trans hS')
  ·cases hm
theorem CQ{ex:wB}{f:Nat}{args:List V}{o:Option CF}{v:V}(h:fu ex F f args M ct o= .k v M' ct'):(∃n res body e t1 d1 M1 vs,o=some (.mk n res body)∧ex none f F body (.mk (aS n args) [] M ct)= .k e (.mk t1 d1 M1 ct')∧(e= .nrm∨e= .ret)∧cA d1 M1=some M'∧eN F M' t1 res=some vs∧v=tW vs)∨ ∃g,o=some (.orc g)∧g F args M ct= .k v M' ct':=by
 cases o with
 |none=>cases(show RC.f= .k v M' ct' from h)
 |some cf=>
  cases cf with
  |orc g=>exact .inr ⟨g,rfl,h⟩
  |mk n res body=>
  left;have h':nA res F (ex none f F body (.mk (aS n args) [] M ct))= .k v M' ct':=h;cases hx:ex none f F body (.mk (aS n args) [] M ct)with
  |f=>rw[hx]at h';cases(show RC.f= .k v M' ct' from h')
  |k e s=>
   obtain⟨t1,d1,M1,c1⟩:=s;rw[hx]at h';have h2:Bool.rec (motive:=fun _=>RC) .f (yZ res F t1 c1 (cA d1 M1)) (HL e)= .k v M' ct':=h';rw[bb]at h2;split at h2
   ·rename_i he;cases hm:cA d1 M1 with
    |none=>rw[hm]at h2;cases(show RC.f= .k v M' ct' from h2)
    |some M2=>
     rw[hm]at h2;have h3:za c1 M2 (eN F M2 t1 res)= .k v M' ct':=h2;cases hr:eN F M2 t1 res with
     |none=>rw[hr]at h3;cases(show RC.f= .k v M' ct' from h3)
     |some vs=>
      rw[hr]at h3;have h4:RC.k (tW vs) M2 c1= .k v M' ct':=h3;injection h4 with e1 e2 e3
      subst e1 e2 e3;refine⟨n,res,body,e,t1,d1,M1,vs,rfl,hx,?_,hm,hr,rfl⟩;cases e with
      |nrm=>exact .inl rfl
      |ret=>exact .inr rfl
      |ext id=>cases(show false=true from he)
      |gto l=>cases(show false=true from he)
   ·cases h2
theorem JB{fn:Func}{n:Nat}{res:List RV}{body:CC}(h:YS P fn=some (.mk n res body)):(fn.name== "runtime.NumGoroutine")=false∧ ∃b,fn.body=some b∧Y9 P fn.ntmps b body∧rO P fn.results.toList=some res:=by
 unfold YS at h
 split at h
 ·cases h
 ·rename_i hn;refine⟨by simpa using hn,?_⟩;split at h
  ·cases h
  ·rename_i b hb;split at h
   ·rename_i body' res' h1 h2;injection h with h
    injection h with e0 e1 e2
    subst e0 e1 e2;exact⟨b,hb,⟨_,h1⟩,h2⟩
   ·cases h
theorem iw{Φ:Nat→Option CF}{ex:wB}(hΦ:eC P Φ)(hex:A6 P ex)(rd:Option Nat)(fn:Nat)(F₀:RO):n9 P (.mk Φ ex rd fn F₀):=by
 intro F f args M ct v M' ct' h E c w hrel hglob hbig hfr hargs
 have h':fu ex F f args M ct (Φ f)= .k v M' ct':=h
 rcases CQ h' with⟨n,res,body,e,t1,d1,M1,vs,ho,hx,he,hm,hr,rfl⟩|⟨g,ho,hg⟩
 case inr=>
  have hok:bg P f g:=hΦ f _ ho;exact hok F args M ct v M' ct' hg E c w hrel hglob hbig hfr hargs
 obtain⟨fn',hfn,hcomp⟩:∃fn,P.funcs[f]?=some fn∧YS P fn=some (.mk n res body):=hΦ f _ ho
 obtain⟨hnm,b,hb,hsim,hres⟩:=JB hcomp
 refine⟨fn',hfn,by rw[hb];rfl,hnm,?_⟩
 refine(callsIn_wide (n:=0)).1 (callsIn_of_wp_marks hfn hb trivial ?_)
 have hSR:SR P F none fn'.ntmps E c w {tmps:=(au E args).toArray++Array.replicate (fn'.ntmps-(au E args).toArray.size) Go.undef,defers:=[]} (aS n args) [] M ct:=
  ⟨⟨hrel,hglob,hbig,Jr E args _ _,Mk hargs⟩,hfr,rfl,fun b hb=>by simp at hb,by simp;omega,fun l hl=>by cases hl⟩
 refine hex none f F body _ [] M ct e t1 d1 M1 ct' hx fn'.ntmps b hsim E c w _ hSR _ ?_
 rintro a' w' ⟨E',c',hS,hG,hR⟩
 have key:LeavesInM Fence.wide 0 P fn' a'.tmps (fun e w'=>∃E' c',e= .returned (conc E' (tW vs))∧mG P F E M c w E' M' c' w'∧bd c' (tW vs)∧jl c ct c' ct') a'.defers .returning w':=by
  rw[hR.df];refine xW (t:=t1) d1 M1 w' hm hR.cx.rel fun w2 hS2=>?_;have hcx:Cx P E' F M' c' w2 t1 a':=⟨hS2.rel,hR.cx.glob,hR.cx.big,hR.cx.tr,hR.cx.bt⟩
  have hres':=DQ hcx hres hr;exact⟨_,hres'.1,E',c',rfl,hS.trans hS2,hres'.2,hG⟩
 rcases he with rfl|rfl
 ·exact key
 ·exact key
end
section
variable{P:Program}{E E':cT}{F:RO}{M M':Mem}{c c':Nat→Prop}{ct ct' nt:Nat}{w w':World}{t t':T}{d d':List Nat}{a:Act}{rd:Option Nat}
theorem fA{o:Option bz}{s:LS}{pe:ng}{fn:Nat}{tm:T}{ps:List aE}{asg body:CC}{dn:Nat}(h:dF o= .k s pe fn tm ps asg body dn):o=some (.loop s pe fn tm ps asg body dn):=by
 unfold dF at h
 split at h
 ·injection h with e1 e2 e3 e4 e5 e6 e7 e8
  subst e1 e2 e3 e4 e5 e6 e7 e8;rfl
 ·cases h
theorem rc{E:cT}:∀(ps:List Nat) (vs:List V) (t t':T) (tmps:Array Value),cZ (ps.map bq) vs t=some t'→rE E t tmps→(∀p∈ps,p<tmps.size)→
 ps.length=vs.length∧rE E t' ((ps.zip (au E vs)).foldl (fun tm (p:Nat×Value)=>tm.setIfInBounds p.1 p.2) tmps)
 |[],[],t,t',tmps,h,ht,_=>by
  obtain rfl:t=t':=ae h;exact⟨rfl,ht⟩
 |p::ps,v::vs,t,t',tmps,h,ht,hp=>by
  have h':cZ (ps.map bq) vs (t.setP (bq p) v)=some t':=by
   have:(t.setP (bq p) v).force (fun t=>cZ (ps.map bq) vs t)=some t':=h
   rwa [Tr.force_eq]at this
  have h1:rE E (t.setP (bq p) v) (tmps.setIfInBounds p (conc E v)):=
   uz (a:=⟨tmps,[]⟩) (dst:=some p) ht (fun k hk=>by cases hk;exact hp p (by simp)) rfl
  have ih:=rc ps vs _ t' _ h' h1 (fun q hq=>by simpa using hp q (by simp[hq]));exact⟨by simp[ih.1],by simpa [au]using ih.2⟩
 |[],_::_,t,t',tmps,h,_,_=>by cases h
 |_::_,[],t,t',tmps,h,_,_=>by cases h
theorem r9:∀(ps:List aE) (vs:List V) (t t':T),cZ ps vs t=some t'→fq c vs→U5 c t→U5 c t'
 |[],[],t,t',h,_,ht=>by obtain rfl:t=t':=ae h;exact ht
 |p::ps,v::vs,t,t',h,hv,ht=>by
  have h':cZ ps vs (t.setP p v)=some t':=by
   have:(t.setP p v).force (fun t=>cZ ps vs t)=some t':=h
   rwa [Tr.force_eq]at this
  exact r9 ps vs _ t' h' hv.2 (yN (dst:=some p) ht hv.1)
 |[],_::_,t,t',h,_,_=>by cases h
 |_::_,[],t,t',h,_,_=>by cases h
theorem Dd(ps:List (Nat×Value)):∀tmps:Array Value,(ps.foldl (fun tm (p:Nat×Value)=>tm.setIfInBounds p.1 p.2) tmps).size=tmps.size:=by
 induction ps with
 |nil=>intro tmps;rfl
 |cons p ps ih=>intro tmps;rw[List.foldl_cons,ih];simp
end
section
variable{P:Program}{E E':cT}{F:RO}{M M':Mem}{c c':Nat→Prop}{ct ct' nt:Nat}{w w':World}{t t':T}{d d':List Nat}{a:Act}{rd:Option Nat}
theorem CS{Φ:Nat→Option CF}{ex:wB}{rd₀:Option Nat}{fn₀:Nat}{l:Nat}{args:List V}{o:Option bz}{v:V}(h:qt (.mk Φ ex rd₀ fn₀ F) l args M ct (dF o)= .k v M' ct'):
 ∃pe fn tm ps asg body dn tp t1 M1 ct1 pe1 fn1 tm1 ps1 a1 b1 dn1 e t2 M3 s3 pe3 fn3 tm3 ps3 a3 b3 dn3 s4 pe4 r,o=some (.loop .ready pe fn tm ps asg body dn)∧cZ ps args tm=some tp∧
  ex (some l) fn F asg (.mk tp [] M ct)= .k .nrm (.mk t1 [] M1 ct1)∧M1.get l=some (.loop .ready pe1 fn1 tm1 ps1 a1 b1 dn1)∧
  ex (some l) fn F body (.mk t1 [] (M1.set l (.loop .busy pe1 fn1 tm1 ps1 a1 b1 dn1)) ct1)= .k e (.mk t2 [] M3 ct')∧M3.get l=some (.loop s3 pe3 fn3 tm3 ps3 a3 b3 dn3)∧
  ((e= .nrm∧s4= .ready∧pe4= .none∧r=true)∨(e= .ret∧s4= .done∧pe4= .ret∧r=false)∨(∃id,e= .ext id∧s4= .done∧pe4= .ext id∧r=false))∧
  v= .b r∧M'=M3.set l (.loop s4 pe4 fn3 tm3 ps3 a3 b3 dn3):=by
 cases hl:dF o with
 |f=>rw[hl]at h;cases h
 |k s pe fn tm ps asg body dn=>
  rw[hl]at h;cases s with
  |ready=>
   have ho:=fA hl;cases hp:cZ ps args tm with
   |none=>
    have h1:BZ (.mk Φ ex rd₀ fn₀ F) l fn asg body M ct (cZ ps args tm)= .k v M' ct':=h;rw[hp]at h1;cases h1
   |some tp=>
    have h1:BZ (.mk Φ ex rd₀ fn₀ F) l fn asg body M ct (cZ ps args tm)= .k v M' ct':=h;rw[hp]at h1;have h2:mQ (.mk Φ ex rd₀ fn₀ F) l fn body (ex (some l) fn F asg (.mk tp [] M ct))= .k v M' ct':=h1;unfold mQ at h2;split at h2
    ·rename_i t1 M1 ct1 hx1;unfold qb at h2;split at h2
     ·rename_i pe1 fn1 tm1 ps1 a1 b1 dn1 hl1;rw[Tr.force_eq]at h2;have h3:l4 l (ex (some l) fn F body (.mk t1 [] (M1.set l (.loop .busy pe1 fn1 tm1 ps1 a1 b1 dn1)) ct1))= .k v M' ct':=h2;unfold l4 at h3;split at h3
      ·cases h3
      ·rename_i e t2 d2 M3 ct2 hx2;split at h3
       ·have key:∀(s4:LS) (pe4:ng) (r:Bool),tx M3 l ct2 s4 pe4 r (dF (M3.get l))= .k v M' ct'→ ∃s3 pe3 fn3 tm3 ps3 a3 b3 dn3,M3.get l=some (.loop s3 pe3 fn3 tm3 ps3 a3 b3 dn3)∧v= .b r∧M'=M3.set l (.loop s4 pe4 fn3 tm3 ps3 a3 b3 dn3)∧ct'=ct2:=by
         intro s4 pe4 r hy;unfold tx at hy;split at hy
         ·rename_i s3 pe3 fn3 tm3 ps3 a3 b3 dn3 hl3;rw[iJ]at hy;injection hy with g1 g2 g3
          exact⟨_,_,_,_,_,_,_,_,fA hl3,g1.symm,g2.symm,g3.symm⟩
         ·cases hy
        split at h3
        ·obtain⟨s3,pe3,fn3,tm3,ps3,a3,b3,dn3,hM3,hv,hM',hct⟩:=key _ _ _ h3;subst hct;exact⟨pe,fn,tm,ps,asg,body,dn,tp,t1,M1,ct1,pe1,fn1,tm1,ps1,a1,b1,dn1,_,t2,M3,s3,pe3,fn3,tm3,ps3,a3,b3,dn3,.ready,.none,true,ho,hp,hx1,fA hl1,hx2,hM3,.inl ⟨rfl,rfl,rfl,rfl⟩,hv,hM'⟩
        ·obtain⟨s3,pe3,fn3,tm3,ps3,a3,b3,dn3,hM3,hv,hM',hct⟩:=key _ _ _ h3;subst hct;exact⟨pe,fn,tm,ps,asg,body,dn,tp,t1,M1,ct1,pe1,fn1,tm1,ps1,a1,b1,dn1,_,t2,M3,s3,pe3,fn3,tm3,ps3,a3,b3,dn3,.done,.ret,false,ho,hp,hx1,fA hl1,hx2,hM3,.inr (.inl ⟨rfl,rfl,rfl,rfl⟩),hv,hM'⟩
        ·rename_i id;obtain⟨s3,pe3,fn3,tm3,ps3,a3,b3,dn3,hM3,hv,hM',hct⟩:=key _ _ _ h3;subst hct;exact⟨pe,fn,tm,ps,asg,body,dn,tp,t1,M1,ct1,pe1,fn1,tm1,ps1,a1,b1,dn1,_,t2,M3,s3,pe3,fn3,tm3,ps3,a3,b3,dn3,.done,.ext id,false,ho,hp,hx1,fA hl1,hx2,hM3,.inr (.inr ⟨id,rfl,rfl,rfl,rfl⟩),hv,hM'⟩
        ·cases h3
       ·cases h3
     ·cases h2
    ·cases h2
  |_=>cases h
end
section
variable{P:Program}{E E':cT}{F:RO}{M M':Mem}{c c':Nat→Prop}{ct ct' nt:Nat}{w w':World}{t t':T}{d d':List Nat}{a:Act}{rd:Option Nat}
theorem wt{Φ:Nat→Option CF}{ex:wB}(hex:A6 P ex)(rd₀:Option Nat)(fn₀:Nat)(F₀:RO):kw P (.mk Φ ex rd₀ fn₀ F₀):=by
 intro F l args M ct v M' ct' h E c w rd hrel hglob hbig hfr hargs
 obtain⟨pe,fn,tm,ps,asg,body,dn,tp,t1,M1,ct1,pe1,fn1,tm1,ps1,a1,b1,dn1,e,t2,M3,s3,pe3,fn3,tm3,ps3,a3,b3,dn3,s4,pe4,r,ho,hp,hx1,hM1,hx2,hM3,hcase,rfl,rfl⟩:=CS (rd₀:=rd₀) (fn₀:=fn₀) h
 obtain⟨hcl,hbd,ob,hob,fn',tmps,params,ca,cb,rfl,htr,hps,nt,hnt,hpar,hsa,hsb⟩:=hrel.has _ _ (am ho)
 subst hps
 obtain⟨hlen,htr'⟩:=rc params.toList args tm tp tmps hp htr (fun p hp'=>Nat.lt_of_lt_of_le (hpar p hp') hnt)
 have hy:=run_yield (P:=P) (args:=(au E args).toArray) hob (by simp[bf];rw[←hlen];simp)
 have hfold:(params.zip (au E args).toArray).foldl (fun tmps (t,a)=>tmps.setIfInBounds t a) tmps=(params.toList.zip (au E args)).foldl (fun tm (p:Nat×Value)=>tm.setIfInBounds p.1 p.2) tmps:=by
  rw[←Array.foldl_toList];simp
 simp only[hfold]at hy
 refine⟨fn',_,ca,cb,hy,roundIn_of_wpIn trivial ?_⟩
 have hSR:SR P F (some l) nt E c w {tmps:=(params.toList.zip (au E args)).foldl (fun tm (p:Nat×Value)=>tm.setIfInBounds p.1 p.2) tmps,defers:=[]} tp [] M ct:=
  ⟨⟨hrel,hglob,hbig,htr',r9 _ _ _ _ hp hargs hbd.1⟩,hfr,rfl,fun b hb=>by simp at hb,by rw[Dd];exact hnt,fun l' hl'=>by cases hl';exact hcl⟩
 refine hex (some l) fn F asg tp [] M ct .nrm t1 [] M1 ct1 hx1 nt ca hsa E c w _ hSR _ ?_
 rintro a1' w1 ⟨E1,c1,hS1,hG1,hR1⟩
 obtain⟨hcl1,hbd1,ob1,hob1,fn1',tmps1,params1,ca1,cb1,rfl,htr1,hps1,hnt1⟩:=hR1.cx.rel.has _ _ (am hM1)
 have hρ1:E1.ρ l=E.ρ l:=hS1.ext.ρ l hcl
 have hbr:=run_beginRound (P:=P) (l:=E.ρ l) (by rw[←hρ1];exact hob1) rfl
 refine⟨_,hbr,?_⟩
 have hS2:=hR1.cx.rel.write l _ (.loop .busy pe1 fn1 tm1 ps1 a1 b1 dn1) hM1 (.loop {state:= .busy,pending:=DE pe1,fn:=fn1',tmps:=tmps1,params:=params1,assign:=ca1,body:=cb1,defers:=E1.ρ dn1}) hbd1
  (w1.putObj (E.ρ l) (.loop {state:= .busy,pending:=DE pe1,fn:=fn1',tmps:=tmps1,params:=params1,assign:=ca1,body:=cb1,defers:=E1.ρ dn1})) (by rw[hρ1];rfl) rfl rfl rfl
  ⟨fn1',tmps1,params1,ca1,cb1,rfl,htr1,hps1,hnt1⟩
 have hSR2:=hR1.stp hS2 (.refl _ _)
 have hfe:d7 E1 (some l)=(d7 E rd).inRound (E.ρ l):=by unfold d7 Fence.inRound;simp[hρ1]
 rw[←hfe]
 refine hex (some l) fn F body t1 [] _ ct1 e t2 [] M3 ct' hx2 nt cb hsb E1 c1 _ _ hSR2 _ ?_
 rintro a2 w3 ⟨E3,c3,hS3,hG3,hR3⟩
 obtain⟨hcl3,hbd3,ob3,hob3,fn3',tmps3,params3,ca3,cb3,rfl,htr3,hps3,hnt3⟩:=hR3.cx.rel.has _ _ (am hM3)
 have hρ3:E3.ρ l=E.ρ l:=(hS3.ext.ρ l hcl1).trans hρ1
 have fin:∀(jump:Option Code),bO1 s4=(if jump.isNone then .ready else .done)→DE pe4=jump→r=jump.isNone→
  ∃v' w',(Instr.endRound (E.ρ l) jump).run P w3= .ok v' w'∧ ∃E' c',Ending.returned v'= .returned (conc E' (.b r))∧mG P F E M c w E' (M3.set l (.loop s4 pe4 fn3 tm3 ps3 a3 b3 dn3)) c' w'∧bd c' (.b r)∧jl c ct c' ct':=by
  intro jump h1 h2 h3;have her:=run_endRound (P:=P) (l:=E.ρ l) jump (by rw[←hρ3];exact hob3);refine⟨_,_,her,E3,c3,by rw[h3];rfl,?_,trivial,hG1.trans hG3⟩;refine((hS1.trans hS2).trans hS3).trans (hR3.cx.rel.write l _ (.loop s4 pe4 fn3 tm3 ps3 a3 b3 dn3) hM3 (.loop {state:=if jump.isNone then .ready else .done,pending:=jump,fn:=fn3',tmps:=tmps3,params:=params3,assign:=ca3,body:=cb3,defers:=E3.ρ dn3}) hbd3 _ (by rw[hρ3];rfl) rfl rfl rfl ?_);exact⟨fn3',tmps3,params3,ca3,cb3,by rw[h1,h2],htr3,hps3,hnt3⟩
 rcases hcase with⟨rfl,rfl,rfl,rfl⟩|⟨rfl,rfl,rfl,rfl⟩|⟨id,rfl,rfl,rfl,rfl⟩
 ·exact fin none rfl rfl rfl
 ·exact fin (some .ret) rfl rfl rfl
 ·exact fin (some (.exit id)) rfl rfl rfl
end
section
variable{Fn:Fence}{n:Nat}{P:Program}{b:Frame}{a:Act}{k:List Item}{cs:List Frame}{w:World}{Q:Exit→Act→World→Prop}
theorem BH{c:Code}:step P (lone (b.atR a (.code (.scope c)::k)) cs w)= .next (lone (b.atR a (.code c:: .inScope c::k)) cs w):=
 step_lone_go (by simp[stepG,stepG.exec,Frame.atR])
theorem wR{c:Code}:step P (lone (b.atR a (.inScope c::k)) cs w)= .next (lone (b.atR a k) cs w):=
 step_lone_go (by simp[stepG,stepG.exec,Frame.atR])
def d8(body:Code)(J:Code→Act→World→Prop)(Q:Exit→Act→World→Prop):Exit→Act→World→Prop
 | .goto l,a,w=>match findLabel body l with
   |some rest=>J rest a w
   |none=>Q (.goto l) a w
 |e,a,w=>Q e a w
def gK(Fn:Fence)(n:Nat)(P:Program)(body:Code)(Q:Exit→Act→World→Prop):Nat→Code→Act→World→Prop
 |0,_,_,_=>False
 |m+1,c,a,w=>c.wpIn Fn n P (d8 body (gK Fn n P body Q m) Q) a w
theorem EH{body:Code}(m:Nat)(h:gK Fn n P body Q m body a w):(Code.scope body).wpIn Fn n P Q a w:=by
 intro b k cs hro hb hr
 have hx:∀id,exitTo id (.inScope body::k)=exitTo id k:=fun id=>by simp[exitTo]
 have key:∀m c a w,gK Fn n P body Q m c a w→
  ∃e a' w',Q e a' w'∧ArrivesIn (Machine.fenced P Fn) P (lone (b.atR a (.code c:: .inScope body::k)) cs w) b k cs e a' w':=by
  intro m
  induction m with
  |zero=>intro c a w h;exact h.elim
  |succ m ih=>
   intro c a w h;obtain⟨e,a₁,w₁,hq,harr⟩:=h b (.inScope body::k) cs hro hb hr;cases e with
   |normal=>exact⟨.normal,a₁,w₁,hq,StepsIn.trans harr (.one (fenced_calm hb hr rfl) wR)⟩
   |exit id=>
    exact⟨.exit id,a₁,w₁,hq,fun k' hk=>harr.1 k' (by rw[hx];exact hk),
     fun hr' hk=>harr.2 hr' (by rw[hx];exact hk)⟩
   |goto l=>
    cases hf:findLabel body l with
    |none=>
     have hq':Q (.goto l) a₁ w₁:=by
      have:d8 body (gK Fn n P body Q m) Q (.goto l) a₁ w₁:=hq;unfold d8 at this;dsimp only at this;rw[hf]at this;exact this
     have hg:gotoIn l (.inScope body::k)=gotoIn l k:=by simp[gotoIn,hf]
     exact⟨.goto l,a₁,w₁,hq',fun k' hk=>harr.1 k' (by rw[hg];exact hk),fun hr' hk=>harr.2 hr' (by rw[hg];exact hk)⟩
    |some rest=>
     have hq':gK Fn n P body Q m rest a₁ w₁:=by
      have:d8 body (gK Fn n P body Q m) Q (.goto l) a₁ w₁:=hq;unfold d8 at this;dsimp only at this;rw[hf]at this;exact this
     obtain⟨e₂,a₂,w₂,hq₂,harr₂⟩:=ih rest a₁ w₁ hq';have hg:gotoIn l (.inScope body::k)=some (.code rest:: .inScope body::k):=by simp[gotoIn,hf]
     exact⟨e₂,a₂,w₂,hq₂,.of_steps (harr.1 _ hg) harr₂⟩
   |ret=>exact⟨_,a₁,w₁,hq,harr⟩
   |panic ch=>exact⟨_,a₁,w₁,hq,harr⟩
   |outgrown=>exact⟨_,a₁,w₁,hq,harr⟩
 obtain⟨e,a',w',hq,harr⟩:=key m body a w h
 exact⟨e,a',w',hq,.of_steps (.one (fenced_calm hb hr rfl) BH) harr⟩
end
section
variable{P:Program}{E E':cT}{F:RO}{M M':Mem}{c c':Nat→Prop}{ct ct' nt:Nat}{w w':World}{t t':T}{d d':List Nat}{a:Act}{rd:Option Nat}
def b57(P:Program)(k:Kn):Prop:=∀(F:RO) (rd:Option Nat) (nt id:Nat) (ops:Array Oper) (cos:List CO),nu P nt ops ops.toList=some cos→ ∀(n:Nat) (l:List (Nat×Nat×CO)),xr ops cos= .dreg n l→
 ∀(t:T) (d:List Nat) (M:Mem) (ct:Nat) (e:Ex) (t':T) (d':List Nat) (M':Mem) (ct':Nat),Uh n l (rX k F) (.mk t d M ct)= .k e (.mk t' d' M' ct')→
 ∀(E:cT) (c:Nat→Prop) (w:World) (a:Act),SR P F rd nt E c w a t d M ct→ ∀Q:Exit→Act→World→Prop,(∀a' w',LE P F rd nt E c w M ct t' d' M' ct' a' w'→Q (qF e) a' w')→(Code.region id ops true).wpIn (d7 E rd) 0 P Q a w
theorem Kj{pe:ng}{n:Nat}{Fn:Fence}{Q:Exit→Act→World→Prop}{e:Ex}{s:St}{s':St}(h:vZ s pe= .k e s')(hq:Q (qF e) a w):
 (match DE pe with
  |none=>Q .normal a w
  |some c=>c.wpIn Fn n P Q a w):=by
 cases pe with
 |none=>
  have h':Rs.k .nrm s= .k e s':=h;injection h' with h1 h2
  subst h1;exact hq
 |ret=>
  have h':Rs.k .ret s= .k e s':=h;injection h' with h1 h2
  subst h1;exact wpIn_ret hq
 |ext id=>
  have h':Rs.k (.ext id) s= .k e s':=h;injection h' with h1 h2
  subst h1;exact wpIn_exit hq
theorem KF{pe:ng}{e:Ex}{s s':St}(h:vZ s pe= .k e s'):s'=s:=by
 cases pe with
 |none=>have h':Rs.k .nrm s= .k e s':=h;injection h' with h1 h2;exact h2.symm
 |ret=>have h':Rs.k .ret s= .k e s':=h;injection h' with h1 h2;exact h2.symm
 |ext id=>have h':Rs.k (.ext id) s= .k e s':=h;injection h' with h1 h2;exact h2.symm
theorem Bq{l:Nat}{r:RC}{e:Ex}{s':St}(h:kX t d l r= .k e s'):∃v M1 c1 s pe fn tm ps a b dn,r= .k v M1 c1∧M1.get l=some (.loop s pe fn tm ps a b dn)∧s≠ .busy∧
 vZ (.mk t d (M1.set l (.loop .exhausted pe fn tm ps a b dn)) c1) pe= .k e s':=by
 cases r with
 |f=>cases(show Rs.f= .k e s' from h)
 |k v M1 c1=>
  have h1:Br t d M1 c1 l (dF (M1.get l))= .k e s':=h;cases hl:dF (M1.get l)with
  |f=>rw[hl]at h1;cases(show Rs.f= .k e s' from h1)
  |k s pe fn tm ps a b dn=>
   rw[hl]at h1;refine⟨v,M1,c1,s,pe,fn,tm,ps,a,b,dn,rfl,fA hl,?_,?_⟩
   ·rintro rfl;cases(show Rs.f= .k e s' from h1)
   ·unfold Br at h1;split at h1
    ·cases h1
    ·rename_i heq;injection heq with e1 e2 e3 e4 e5 e6 e7 e8
     subst e1 e2 e3 e4 e5 e6 e7 e8;split at h1
     ·cases h1
     ·rw[Tr.force_eq]at h1;exact h1
theorem CR{k:Kn}{v:V}{args:List V}{x:V}(h:jd k v args M ct= .k x M' ct'):∃f first caps,v= .f f first caps∧mI k f (first++(args++caps)) M ct= .k x M' ct':=by
 cases v with
 |f f first caps=>exact⟨f,first,caps,rfl,h⟩
 |_=>cases(show RC.f= .k x M' ct' from h)
theorem Ir{Φ:Nat→Option CF}{ex:wB}(hΦ:eC P Φ)(hex:A6 P ex){fn₀:Nat}{g:Operand}{ps:Array Tmp}{ca cb:Code}{x:X}{asg body:CC}(hx:b7 g=some x)
 (hsa:Y9 P nt ca asg) (hsb:Y9 P nt cb body) (hps:∀p∈ps.toList,p<nt) {dn:Nat} {e:Ex} {s':St}
 (h:nT x (ps.toList.map bq) asg body (.mk Φ ex rd fn₀ F) t d M ct dn= .k e s') (hdn:c dn)
 (hSR:SR P F rd nt E c w a t d M ct) {Q:Exit→Act→World→Prop} {fn:Nat} {mark:List Deferred} {w₁:World}
 {w₀:World} {a₀:Act} (he:(Instr.enterLoop fn a₀.tmps ps ca cb (rd.map E.ρ)).run P w₀= .ok (w.heap.size,mark) w₁)
 (hw₁:w₁=w.alloc (.loop {state:= .ready,pending:=none,fn,tmps:=a₀.tmps,params:=ps,assign:=ca,body:=cb,defers:=E.ρ dn}))
 (ha:a={a₀ with defers:=mark++a₀.defers})
 (hQ:∀t' d' M' ct',s'= .mk t' d' M' ct'→ ∀a' w',LE P F rd nt E c w M ct t' d' M' ct' a' w'→Q (qF e) a' w'):
 ∃(l:Nat) (mark:List Deferred) (w₁:World) (d:Deferred) (w₁':World) (f:FuncId) (args:Array Value) (w₂:World),
  (Instr.enterLoop fn a₀.tmps ps ca cb (d7 E rd).round).run P w₀= .ok (l,mark) w₁∧
  (resolve a₀.eval (rangeCall g l) 0).run P w₁= .ok d w₁'∧
  (∀f',Target.leads P w₁' d.target d.args=some f'→(d7 E rd).fn f')∧
  (invoke d.target d.args).run P w₁'= .ok (.enter f args) w₂∧
  ((d7 E rd).depth.isSome=true→1≤0)∧
  CallsIn (d7 E rd) (0-1) P f args w₂ (rangePost (d7 E rd) 0 P l Q {a₀ with defers:=mark++a₀.defers}):=by
 have h1:kX t d ct (jd (.mk Φ ex rd fn₀ F) (x.ev t) [.y ct] (M.set ct (.loop .ready .none fn₀ t (ps.toList.map bq) asg body dn)) (ct+1))= .k e s':=by
  unfold nT at h;dsimp only at h;rw[Tr.force_eq,aQ]at h;exact h
 obtain⟨v,M1,c1,s,pe,fn1,tm1,ps1,a1,b1,dn1,hr,hM1,hbusy,hpend⟩:=Bq h1
 obtain⟨f,first,caps,hv,hcf⟩:=CR hr
 have htm:a₀.tmps=a.tmps:=by rw[ha]
 obtain⟨E1,hS1,hE1,hρ1,hβ1,_⟩:=hSR.cx.rel.alloc (.loop .ready .none fn₀ t (ps.toList.map bq) asg body dn) (.loop {state:= .ready,pending:=none,fn,tmps:=a₀.tmps,params:=ps,assign:=ca,body:=cb,defers:=E.ρ dn}) ct 0 (fun b=>c b∨b=ct) (hSR.fr ct (ah _)) (.inr rfl) (fun _ h=> .inl h)
  ⟨fun p=>dw (fun _ h=> .inl h) _ (hSR.cx.bt p),.inl hdn⟩ w₁ (by rw[hw₁];rfl) (by rw[hw₁];rfl) (by rw[hw₁];rfl) (by rw[hw₁];rfl)
  (fun E2 hE2 _ _ _=>⟨fn,a₀.tmps,ps,ca,cb,by rw[hE2.ρ dn hdn];rfl,by rw[htm];exact hSR.cx.tr.ext hE2 hSR.cx.bt,rfl,nt,by rw[htm];exact hSR.sz,hps,hsa,hsb⟩)
 have hG1:jl c ct (fun b=>c b∨b=ct) (ct+1):=gc c ct
 have hSR1:=hSR.stp hS1 hG1
 have ev:=hSR1.cx.ev hx
 rw[hv]at ev
 have hcall:=iw hΦ hex rd fn₀ F
 have hcf':mI (rX (.mk Φ ex rd fn₀ F) F) f (first++([.y ct]++caps)) (M.set ct (.loop .ready .none fn₀ t (ps.toList.map bq) asg body dn)) (ct+1)= .k v M1 c1:=hcf
 obtain⟨fn',hfn,hbo,hnm,hC⟩:=hcall F f _ _ _ _ _ _ hcf' E1 _ w₁ hSR1.cx.rel hSR1.cx.glob hSR1.cx.big hSR1.fr (ir ev.2.1 (ir (⟨.inr rfl,trivial⟩) ev.2.2))
 have hcfn:(callFunc f (au E1 (first++([.y ct]++caps))).toArray).run P w₁= .ok (.enter f (au E1 (first++([.y ct]++caps))).toArray) w₁:=by
  have h1:¬fn'.name= "runtime.NumGoroutine" :=by simpa using hnm
  have h2:¬fn'.body=none:=fun e=>by rw[e]at hbo;cases hbo
  simp[callFunc,hfn,h1,h2]
 have hge:a₀.eval g= .func (.func f) (au E1 first).toArray (au E1 caps).toArray:=by
  have:a.eval g=a₀.eval g:=by rw[ha];rfl
  rw[←this,ev.1];rfl
 refine⟨w.heap.size,mark,w₁,⟨.fn (.func f) (au E1 caps).toArray,(au E1 first).toArray++#[.func (.yield w.heap.size) #[] #[]]⟩,w₁,f,(au E1 (first++([.y ct]++caps))).toArray,w₁,he,?_,fun _ _=>trivial,?_,fun hd=>by simp[d7]at hd,?_⟩
 ·have hm:(rangeCall g w.heap.size).args.map a₀.eval=#[.func (.yield w.heap.size) #[] #[]]:=by simp[Act.eval]
  show(Deferred.ofValue (a₀.eval g) ((rangeCall g w.heap.size).args.map a₀.eval)).run P w₁=_;rw[hm,hge];rfl
 ·have:(au E1 first).toArray++#[.func (.yield w.heap.size) #[] #[]]++(au E1 caps).toArray=(au E1 (first++([.y ct]++caps))).toArray:=by
   rw[gO,gO];simp[au,conc,hρ1]
  simp only[invoke,this];exact hcfn
 ·rw[←gv hS1.ext hSR.rd];refine sP (hC.mono ?_);rintro e2 w2 ⟨E2,c2,rfl,hS2,hb2,hG2⟩;obtain⟨hcl,hbd,ob,hob,fn3,tmps3,params3,ca3,cb3,rfl,htr3,hps3,hnt3⟩:=hS2.rel.has _ _ (am hM1);have hρ2:E2.ρ ct=w.heap.size:=(hS2.ext.ρ ct (.inr rfl)).trans hρ1;have hen:=run_endLoop (P:=P) (l:=w.heap.size) (by rw[←hρ2];exact hob) (by cases s<;>first|exact absurd rfl hbusy|(intro h;cases h));refine⟨_,_,hen,?_⟩
  have hS3:=hS2.rel.write ct _ (.loop .exhausted pe fn1 tm1 ps1 a1 b1 dn1) hM1 (.loop {state:= .exhausted,pending:=DE pe,fn:=fn3,tmps:=tmps3,params:=params3,assign:=ca3,body:=cb3,defers:=E2.ρ dn1}) hbd
   (w2.putObj w.heap.size (.loop {state:= .exhausted,pending:=DE pe,fn:=fn3,tmps:=tmps3,params:=params3,assign:=ca3,body:=cb3,defers:=E2.ρ dn1})) (by rw[hρ2];rfl) rfl rfl rfl
   ⟨fn3,tmps3,params3,ca3,cb3,rfl,htr3,hps3,hnt3⟩
  have hst:=KF hpend;refine Kj hpend ?_;have hR:=(hSR1.stp hS2 hG2).stp hS3 (.refl _ _);rw[←ha];refine hQ _ _ _ _ hst a _ ⟨E2,c2,(hS1.trans hS2).trans hS3,hG1.trans hG2,hR⟩
end
section
variable{P:Program}{E E':cT}{F:RO}{M M':Mem}{c c':Nat→Prop}{ct ct' nt:Nat}{w w':World}{t t':T}{d d':List Nat}{a:Act}{rd:Option Nat}
theorem DO{f:Kn→St→Rs}{k:Kn}{r:Rs}{e:Ex}{s':St}(h:lD f k r= .k e s'):(∃s1,r= .k .nrm s1∧f k s1= .k e s')∨(e≠ .nrm∧r= .k e s'):=by
 cases r with
 |f=>cases(show Rs.f= .k e s' from h)
 |k e1 s1=>
  cases e1 with
  |nrm=>exact .inl ⟨s1,rfl,h⟩
  |ret=>have h':Rs.k .ret s1= .k e s':=h;injection h' with h1 h2;subst h1 h2;exact .inr ⟨(fun h=>by cases h),rfl⟩
  |ext id=>have h':Rs.k (.ext id) s1= .k e s':=h;injection h' with h1 h2;subst h1 h2;exact .inr ⟨(fun h=>by cases h),rfl⟩
  |gto l=>have h':Rs.k (.gto l) s1= .k e s':=h;injection h' with h1 h2;subst h1 h2;exact .inr ⟨(fun h=>by cases h),rfl⟩
theorem th{b:CC}{k:Kn}{r:Rs}{e:Ex}{s':St}(h:gV b k r= .k e s'):(∃s1,r= .k .nrm s1∧nl k (.loop b) s1= .k e s')∨(e≠ .nrm∧r= .k e s'):=by
 cases r with
 |f=>cases(show Rs.f= .k e s' from h)
 |k e1 s1=>
  cases e1 with
  |nrm=>exact .inl ⟨s1,rfl,h⟩
  |ret=>have h':Rs.k .ret s1= .k e s':=h;injection h' with h1 h2;subst h1 h2;exact .inr ⟨(fun h=>by cases h),rfl⟩
  |ext id=>have h':Rs.k (.ext id) s1= .k e s':=h;injection h' with h1 h2;subst h1 h2;exact .inr ⟨(fun h=>by cases h),rfl⟩
  |gto l=>have h':Rs.k (.gto l) s1= .k e s':=h;injection h' with h1 h2;subst h1 h2;exact .inr ⟨(fun h=>by cases h),rfl⟩
theorem pY{K:Act→World→Prop}{Q:Exit→Act→World→Prop}{e:Ex}(he:e≠ .nrm)(h:Q (qF e) a w):Exit.then K Q (qF e) a w:=by
 cases e with
 |nrm=>exact absurd rfl he
 |_=>exact h
theorem zG{id:Nat}{r:Rs}{e:Ex}{s':St}(h:fS id r= .k e s'):∃e1,r= .k e1 s'∧ ∀(Q:Exit→Act→World→Prop) (a:Act) (w:World),Q (qF e) a w→Exit.inBlock id Q (qF e1) a w:=by
 cases r with
 |f=>cases(show Rs.f= .k e s' from h)
 |k e1 s1=>
  cases e1 with
  |nrm=>have h':Rs.k .nrm s1= .k e s':=h;injection h' with h1 h2;subst h1 h2;exact⟨_,rfl,fun _ _ _ h=>h⟩
  |ret=>have h':Rs.k .ret s1= .k e s':=h;injection h' with h1 h2;subst h1 h2;exact⟨_,rfl,fun _ _ _ h=>h⟩
  |gto l=>have h':Rs.k (.gto l) s1= .k e s':=h;injection h' with h1 h2;subst h1 h2;exact⟨_,rfl,fun _ _ _ h=>h⟩
  |ext id'=>
   have h':Bool.rec (motive:=fun _=>Rs) (.k (.ext id') s1) (.k .nrm s1) (Nat.beq id' id)= .k e s':=h;rw[bb,bp]at h';split at h'
   ·rename_i hid;injection h' with h1 h2;subst h1 h2
    exact⟨_,rfl,fun Q a w h=>by simp only[qF,Exit.inBlock];rw[ac (aP hid)];exact h⟩
   ·rename_i hid;injection h' with h1 h2;subst h1 h2
    exact⟨_,rfl,fun Q a w h=>by simp only[qF,Exit.inBlock];rw[ab (by simpa using hid)];exact h⟩
def bt7(P:Program)(ex:wB)(m:Nat):Prop:=∀(rd:Option Nat) (fn:Nat) (F:RO) (cc tbl:CC) (t:T) (d:List Nat) (M:Mem) (ct:Nat) (e:Ex) (t':T) (d':List Nat) (M':Mem) (ct':Nat),
 ex rd fn F (.scope cc tbl) (.mk t d M ct)= .k e (.mk t' d' M' ct')→ ∀(nt:Nat) (body code:Code),Y9 P nt code cc→aj7 P nt body tbl→ ∀(E:cT) (c:Nat→Prop) (w:World) (a:Act),SR P F rd nt E c w a t d M ct→
  ∀Q:Exit→Act→World→Prop,(∀a' w',LE P F rd nt E c w M ct t' d' M' ct' a' w'→Q (qF e) a' w')→gK (d7 E rd) 0 P body Q m code a w
theorem qW{tbl:CC}{k:Kn}{r:Rs}{e:Ex}{s':St}(h:ju tbl k r= .k e s'):(∃l s1 cl,r= .k (.gto l) s1∧kI l tbl=some cl∧nl k (.scope cl tbl) s1= .k e s')∨((∀l,qF e≠ .goto l)∧r= .k e s'):=by
 cases r with
 |f=>cases(show Rs.f= .k e s' from h)
 |k e1 s1=>
  cases e1 with
  |gto l=>
   have h':so tbl k s1 (kI l tbl)= .k e s':=h;cases hf:kI l tbl with
   |none=>rw[hf]at h';cases(show Rs.f= .k e s' from h')
   |some cl=>rw[hf]at h';exact .inl ⟨l,s1,cl,rfl,hf,h'⟩
  |nrm=>have h':Rs.k .nrm s1= .k e s':=h;injection h' with h1 h2;subst h1 h2;exact .inr ⟨(fun l h=>by cases h),rfl⟩
  |ret=>have h':Rs.k .ret s1= .k e s':=h;injection h' with h1 h2;subst h1 h2;exact .inr ⟨(fun l h=>by cases h),rfl⟩
  |ext id=>have h':Rs.k (.ext id) s1= .k e s':=h;injection h' with h1 h2;subst h1 h2;exact .inr ⟨(fun l h=>by cases h),rfl⟩
theorem vt{body:Code}{J:Code→Act→World→Prop}{Q:Exit→Act→World→Prop}{e:Exit}(he:∀l,e≠ .goto l)(h:Q e a w):d8 body J Q e a w:=by
 cases e with
 |goto l=>exact absurd rfl (he l)
 |_=>exact h
theorem BJ{f:Nat→Option CC}:∀{ls:List Nat} {tbl:CC},ID f ls=some tbl→ ∀l cl,kI l tbl=some cl→f l=some cl
 |[],tbl,h,l,cl,hf=>by
  obtain rfl:=ae h;cases hf
 |l'::ls,tbl,h,l,cl,hf=>by
  rw[ID]at h;split at h
  ·rename_i c t h1 h2;obtain rfl:=ae h;have hf':(bif Nat.beq l' l then some c else kI l t)=some cl:=hf;rw[bp]at hf';by_cases e:l'=l
   ·rw[af e,cond_true]at hf';obtain rfl:=ae hf';rw[←e];exact h1
   ·rw[ag e,cond_false]at hf';exact BJ h2 l cl hf'
  ·cases h
theorem UO{Φ:Nat→Option CF}{ex:wB}(hΦ:eC P Φ)(hex:A6 P ex){m:Nat}(hlp:bt3 P ex m)(hsc:bt7 P ex m)(hdr:∀rd fn F,b57 P (.mk Φ ex rd fn F)):∀(j:Nat) (code:Code) (cc:CC),kD P nt j code=some cc→
 ∀(rd:Option Nat) (fn:Nat) (F:RO) (t:T) (d:List Nat) (M:Mem) (ct:Nat) (e:Ex) (t':T) (d':List Nat) (M':Mem) (ct':Nat),
 aY cc (.mk Φ ex rd fn F) (.mk t d M ct)= .k e (.mk t' d' M' ct')→ ∀(E:cT) (c:Nat→Prop) (w:World) (a:Act),SR P F rd nt E c w a t d M ct→
 ∀Q:Exit→Act→World→Prop,(∀a' w',LE P F rd nt E c w M ct t' d' M' ct' a' w'→Q (qF e) a' w')→code.wpIn (d7 E rd) 0 P Q a w:=by
 intro j
 induction j with
 |zero=>intro code cc hc;cases hc
 |succ j ih=>
  intro code cc hc rd fn F t d M ct e t' d' M' ct' hx E c w a h Q hQ;have hcall:=iw hΦ hex rd fn F;have hy:=wt (Φ:=Φ) hex rd fn F;unfold kD at hc;cases code with
  |skip=>
   obtain rfl:=ae hc;have hx':Rs.k .nrm (.mk t d M ct)= .k e (.mk t' d' M' ct'):=hx;injection hx' with h1 h2;injection h2 with e1 e2 e3 e4;subst h1 e1 e2 e3 e4
   exact wpIn_skip (hQ a w h.res)
  |label l=>
   obtain rfl:=ae hc;have hx':Rs.k .nrm (.mk t d M ct)= .k e (.mk t' d' M' ct'):=hx;injection hx' with h1 h2;injection h2 with e1 e2 e3 e4;subst h1 e1 e2 e3 e4
   exact wpIn_label (hQ a w h.res)
  |region id ops dr=>
   cases dr with
   |false=>
    obtain⟨cos,hcos,rfl⟩:=be.1 hc;have hx':qV (dy cos (.mk Φ ex rd fn F) (.mk t d M ct))= .k e (.mk t' d' M' ct'):=hx;cases hs:dy cos (.mk Φ ex rd fn F) (.mk t d M ct)with
    |none=>rw[hs]at hx';cases(show Rs.f= .k e (.mk t' d' M' ct')from hx')
    |some s1=>
     rw[hs]at hx';have hx2:Rs.k .nrm s1= .k e (.mk t' d' M' ct'):=hx';injection hx2 with h1 h2;subst h1 h2
     refine wpIn_region ?_;have:=DX (F:=F) (rd:=rd) (nt:=nt) hcall hy (ops:=ops) (Q:=Q) ops.toList cos 0 E c w a t M ct rfl hcos hs h hQ;rw[←List.range_eq_range']at this
     simpa using this
   |true=>
    dsimp only at hc;split at hc
    ·rename_i cos hcos;have hc':=ae hc;cases hd:xr ops cos with
     |dreg n l=>
      rw[hd]at hc';subst hc';exact hdr rd fn F F rd nt id ops cos hcos n l hd t d M ct e t' d' M' ct' hx E c w a h Q hQ
     |_=>
      exfalso;have hd':=hd;unfold xr Uy at hd';have hb:∀(b:Bool) (x y:CC),(bif b then x else y)=x∨(bif b then x else y)=y:=by intro b;cases b<;>simp
      rcases hb (Bp ops.toList (Region.before ops).toList ops.size (oY (Region.before ops).toList cos ops.size 0)) (.dreg ops.size (oY (Region.before ops).toList cos ops.size 0)) .bad with hh|hh
      ·rw[hh]at hd';cases hd'
      ·rw[hh]at hd';rw[hd]at hc';rw[←hd']at hc';subst hc';cases(show Rs.f= .k e (.mk t' d' M' ct')from hx)
    ·cases hc
  |seq x y=>
   dsimp only at hc;split at hc
   ·rename_i cx cy h1 h2;obtain rfl:=ae hc;have hx':lD (aY cy) (.mk Φ ex rd fn F) (aY cx (.mk Φ ex rd fn F) (.mk t d M ct))= .k e (.mk t' d' M' ct'):=hx;refine wpIn_seq ?_;rcases DO hx' with⟨⟨t1,d1,M1,ct1⟩,hx1,hx2⟩|⟨hne,hx1⟩
    ·refine ih x cx h1 rd fn F t d M ct .nrm t1 d1 M1 ct1 hx1 E c w a h _ ?_;rintro a1 w1 ⟨E1,c1,hS,hG,hR⟩;show y.wpIn (d7 E rd) 0 P Q a1 w1;rw[←gv hS.ext h.rd];exact ih y cy h2 rd fn F t1 d1 M1 ct1 e t' d' M' ct' hx2 E1 c1 w1 a1 hR Q fun a' w' hr=>hQ a' w' (hr.trans hS hG)
    ·exact ih x cx h1 rd fn F t d M ct e t' d' M' ct' hx1 E c w a h _ fun a' w' hr=>pY hne (hQ a' w' hr)
   ·cases hc
  |cond o x y=>
   dsimp only at hc;split at hc
   ·rename_i xo cx cy h0 h1 h2;obtain rfl:=ae hc;have hx':DB (xo.ev t) Rs.f (fun b=>Bool.rec (motive:=fun _=>Rs) (aY cy (.mk Φ ex rd fn F) (.mk t d M ct)) (aY cx (.mk Φ ex rd fn F) (.mk t d M ct)) b)= .k e (.mk t' d' M' ct'):=hx;have ev:=h.cx.ev h0;cases hv:xo.ev t with
    |b v=>
     rw[hv]at hx' ev;have hx2:Bool.rec (motive:=fun _=>Rs) (aY cy (.mk Φ ex rd fn F) (.mk t d M ct)) (aY cx (.mk Φ ex rd fn F) (.mk t d M ct)) v= .k e (.mk t' d' M' ct'):=hx';cases v with
     |true=>exact wpIn_cond_true ev.1 (ih x cx h1 rd fn F t d M ct e t' d' M' ct' hx2 E c w a h Q hQ)
     |false=>exact wpIn_cond_false ev.1 (ih y cy h2 rd fn F t d M ct e t' d' M' ct' hx2 E c w a h Q hQ)
    |_=>rw[hv]at hx';cases(show Rs.f= .k e (.mk t' d' M' ct')from hx')
   ·cases hc
  |block id x=>
   obtain⟨cx,h1,rfl⟩:=be.1 hc;have hx':fS id (aY cx (.mk Φ ex rd fn F) (.mk t d M ct))= .k e (.mk t' d' M' ct'):=hx;obtain⟨e1,hx1,hq⟩:=zG hx';exact wpIn_block (ih x cx h1 rd fn F t d M ct e1 t' d' M' ct' hx1 E c w a h _ fun a' w' hr=>hq Q a' w' (hQ a' w' hr))
  |loop x=>
   obtain⟨cx,h1,rfl⟩:=be.1 hc;have hx':gV cx (.mk Φ ex rd fn F) (aY cx (.mk Φ ex rd fn F) (.mk t d M ct))= .k e (.mk t' d' M' ct'):=hx;refine wpIn_loop_rounds (m+1) ?_;rw[roundsIn_succ];rcases th hx' with⟨⟨t1,d1,M1,ct1⟩,hx1,hx2⟩|⟨hne,hx1⟩
   ·refine ih x cx h1 rd fn F t d M ct .nrm t1 d1 M1 ct1 hx1 E c w a h _ ?_;rintro a1 w1 ⟨E1,c1,hS,hG,hR⟩;show Code.roundsIn (d7 E rd) 0 P x Q m a1 w1;rw[←gv hS.ext h.rd];have hx3:ex rd fn F (.loop cx) (.mk t1 d1 M1 ct1)= .k e (.mk t' d' M' ct'):=hx2;exact hlp rd fn F cx t1 d1 M1 ct1 e t' d' M' ct' hx3 nt x ⟨j,h1⟩ E1 c1 w1 a1 hR Q fun a' w' hr=>hQ a' w' (hr.trans hS hG)
   ·exact ih x cx h1 rd fn F t d M ct e t' d' M' ct' hx1 E c w a h _ fun a' w' hr=>pY hne (hQ a' w' hr)
  |rangeFunc g ps ca cb=>
   dsimp only at hc;split at hc
   ·cases hc
   ·rename_i hps0;have hps:∀p∈ps.toList,p<nt:=by
     intro p hp;have h1:(ps.toList.all fun p=>decide (p<nt))=true:=by simpa using hps0
     exact aP (List.all_eq_true.1 h1 p hp)
    split at hc
    ·rename_i xg asg body h0 h1 h2;obtain rfl:=ae hc;refine wpIn_rangeFunc fun fn' _=>?_;cases rd with
     |none=>
      have hx':nT xg (ps.toList.map bq) asg body (.mk Φ ex none fn F) t (ct::d) (M.set ct (.defs false)) (ct+1) ct= .k e (.mk t' d' M' ct'):=by
       have:(M.set ct (.defs false)).force (fun M=>fN (Nat.succ ct) fun c'=>nT xg (ps.toList.map bq) asg body (.mk Φ ex none fn F) t (ct::d) M c' ct)= .k e (.mk t' d' M' ct'):=hx
       rwa [Tr.force_eq,aQ]at this
      obtain⟨E1,hS1,hE1,hρ1,hβ1,_⟩:=h.cx.rel.alloc (.defs false) (.deferred (some [])) ct 0 (fun b=>c b∨b=ct) (h.fr ct (ah _)) (.inr rfl) (fun _ h=> .inl h) trivial (w.alloc (.deferred (some []))) rfl rfl rfl rfl (fun _ _ _ _ _=>rfl);have hG1:jl c ct (fun b=>c b∨b=ct) (ct+1):=gc c ct;have hR1:=h.stp hS1 hG1
      have hR2:SR P F none nt E1 (fun b=>c b∨b=ct) (w.alloc (.deferred (some []))) {a with defers:=[{target:= .collected w.heap.size,args:=#[]}]++a.defers} t (ct::d) (M.set ct (.defs false)) (ct+1):=
       ⟨⟨hR1.cx.rel,hR1.cx.glob,hR1.cx.big,hR1.cx.tr,hR1.cx.bt⟩,hR1.fr,by rw[List.map_cons,hρ1,←hR1.df];rfl,fun b hb=>by
         rcases bj.1 hb with rfl|hb
         ·exact .inr rfl
         ·exact hR1.dc b hb,hR1.sz,hR1.rd⟩
      have hf:d7 E none=d7 E1 none:=rfl;rw[hf];have hen:=run_enterLoop_outer (P:=P) (w:=w) fn' a.tmps ps ca cb;have hsz:(w.alloc (.deferred (some []))).heap.size=w.heap.size+1:=World.size_alloc _ _;rw[←hsz]at hen;refine Ir hΦ hex h0 ⟨j,h1⟩ ⟨j,h2⟩ hps hx' (.inr rfl) hR2 hen (by rw[hρ1]) rfl ?_;intro t2 d2 M2 ct2 hs a' w' hr;injection hs with e1 e2 e3 e4;subst e1 e2 e3 e4
      exact hQ a' w' (hr.trans hS1 hG1)
     |some l=>
      have hx':KE xg (ps.toList.map bq) asg body (.mk Φ ex (some l) fn F) t d M ct (dF (M.get l))= .k e (.mk t' d' M' ct'):=hx;cases hl:dF (M.get l)with
      |f=>rw[hl]at hx';cases(show Rs.f= .k e (.mk t' d' M' ct')from hx')
      |k s pe fnl tml psl al bl dnl=>
       rw[hl]at hx';have hx2:nT xg (ps.toList.map bq) asg body (.mk Φ ex (some l) fn F) t d M ct dnl= .k e (.mk t' d' M' ct'):=hx';obtain⟨hcl,hbd,ob,hob,fn3,tmps3,params3,ca3,cb3,rfl,_⟩:=h.cx.rel.has _ _ (am (fA hl));have hen:=run_enterLoop_inner (P:=P) hob fn' a.tmps ps ca cb;refine Ir hΦ hex h0 ⟨j,h1⟩ ⟨j,h2⟩ hps hx2 hbd.2 h hen rfl ?_ ?_
       ·cases a;rfl
       ·intro t2 d2 M2 ct2 hs a' w' hr;injection hs with e1 e2 e3 e4;subst e1 e2 e3 e4
        exact hQ a' w' hr
    ·cases hc
  |exit id=>
   obtain rfl:=ae hc;have hx':Rs.k (.ext id) (.mk t d M ct)= .k e (.mk t' d' M' ct'):=hx;injection hx' with h1 h2;injection h2 with e1 e2 e3 e4;subst h1 e1 e2 e3 e4
   exact wpIn_exit (hQ a w h.res)
  |scope x=>
   dsimp only at hc;split at hc
   ·rename_i cx tbl h1 h2;obtain rfl:=ae hc;have htbl:aj7 P nt x tbl:=by
     intro l cl hl;obtain⟨rest,hr1,hr2⟩:=aU.1 (BJ h2 l cl hl);exact⟨rest,hr1,j,hr2⟩
    have hx':ju tbl (.mk Φ ex rd fn F) (aY cx (.mk Φ ex rd fn F) (.mk t d M ct))= .k e (.mk t' d' M' ct'):=hx;refine EH (m+1) ?_;show x.wpIn (d7 E rd) 0 P (d8 x (gK (d7 E rd) 0 P x Q m) Q) a w;rcases qW hx' with⟨l,⟨t1,d1,M1,ct1⟩,cl,hx1,hfl,hx2⟩|⟨hne,hx1⟩
    ·refine ih x cx h1 rd fn F t d M ct (.gto l) t1 d1 M1 ct1 hx1 E c w a h _ ?_;rintro a1 w1 ⟨E1,c1,hS,hG,hR⟩;obtain⟨rest,hr1,hr2⟩:=htbl l cl hfl;show d8 x (gK (d7 E rd) 0 P x Q m) Q (.goto l) a1 w1;unfold d8;dsimp only;rw[hr1];rw[←gv hS.ext h.rd];have hx3:ex rd fn F (.scope cl tbl) (.mk t1 d1 M1 ct1)= .k e (.mk t' d' M' ct'):=hx2;exact hsc rd fn F cl tbl t1 d1 M1 ct1 e t' d' M' ct' hx3 nt x rest hr2 htbl E1 c1 w1 a1 hR Q fun a' w' hr=>hQ a' w' (hr.trans hS hG)
    ·exact ih x cx h1 rd fn F t d M ct e t' d' M' ct' hx1 E c w a h _ fun a' w' hr=>vt hne (hQ a' w' hr)
   ·cases hc
  |goto l=>
   obtain rfl:=ae hc;have hx':Rs.k (.gto l) (.mk t d M ct)= .k e (.mk t' d' M' ct'):=hx;injection hx' with h1 h2;injection h2 with e1 e2 e3 e4;subst h1 e1 e2 e3 e4
   exact wpIn_goto (hQ a w h.res)
  |ret=>
   obtain rfl:=ae hc;have hx':Rs.k .ret (.mk t d M ct)= .k e (.mk t' d' M' ct'):=hx;injection hx' with h1 h2;injection h2 with e1 e2 e3 e4;subst h1 e1 e2 e3 e4
   exact wpIn_ret (hQ a w h.res)
  |refuse s=>
   obtain rfl:=ae hc;cases(show Rs.f= .k e (.mk t' d' M' ct')from hx)
theorem Zh{Φ:Nat→Option CF}(hΦ:eC P Φ)(hdr:∀ex,A6 P ex→ ∀rd fn F,b57 P (.mk Φ ex rd fn F)):∀n,A6 P (exec Φ n)∧bt3 P (exec Φ n) n∧bt7 P (exec Φ n) n:=by
 intro n
 induction n with
 |zero=>
  refine⟨?_,?_,?_⟩
  ·intro rd fn F cc t d M ct e t' d' M' ct' hx;cases(show Rs.f= .k e (.mk t' d' M' ct')from hx)
  ·intro rd fn F cc t d M ct e t' d' M' ct' hx;cases(show Rs.f= .k e (.mk t' d' M' ct')from hx)
  ·intro rd fn F cc tbl t d M ct e t' d' M' ct' hx;cases(show Rs.f= .k e (.mk t' d' M' ct')from hx)
 |succ n ih=>
  have key:=fun nt=>UO (nt:=nt) hΦ ih.1 ih.2.1 ih.2.2 (hdr _ ih.1);refine⟨?_,?_,?_⟩
  ·intro rd fn F cc t d M ct e t' d' M' ct' hx nt code hsim;obtain⟨j,hj⟩:=hsim;exact key nt j code cc hj rd fn F t d M ct e t' d' M' ct' hx
  ·intro rd fn F b t d M ct e t' d' M' ct' hx nt code hsim E c w a h Q hQ;obtain⟨j,hj⟩:=hsim;have hx':gV b (.mk Φ (exec Φ n) rd fn F) (aY b (.mk Φ (exec Φ n) rd fn F) (.mk t d M ct))= .k e (.mk t' d' M' ct'):=hx;rw[roundsIn_succ];rcases th hx' with⟨⟨t1,d1,M1,ct1⟩,hx1,hx2⟩|⟨hne,hx1⟩
   ·refine key nt j code b hj rd fn F t d M ct .nrm t1 d1 M1 ct1 hx1 E c w a h _ ?_;rintro a1 w1 ⟨E1,c1,hS,hG,hR⟩;show Code.roundsIn (d7 E rd) 0 P code Q n a1 w1;rw[←gv hS.ext h.rd];have hx3:exec Φ n rd fn F (.loop b) (.mk t1 d1 M1 ct1)= .k e (.mk t' d' M' ct'):=hx2;exact ih.2.1 rd fn F b t1 d1 M1 ct1 e t' d' M' ct' hx3 nt code ⟨j,hj⟩ E1 c1 w1 a1 hR Q fun a' w' hr=>hQ a' w' (hr.trans hS hG)
   ·exact key nt j code b hj rd fn F t d M ct e t' d' M' ct' hx1 E c w a h _ fun a' w' hr=>pY hne (hQ a' w' hr)
  ·intro rd fn F cc tbl t d M ct e t' d' M' ct' hx nt body code hsim htbl E c w a h Q hQ;obtain⟨j,hj⟩:=hsim;have hx':ju tbl (.mk Φ (exec Φ n) rd fn F) (aY cc (.mk Φ (exec Φ n) rd fn F) (.mk t d M ct))= .k e (.mk t' d' M' ct'):=hx;show code.wpIn (d7 E rd) 0 P (d8 body (gK (d7 E rd) 0 P body Q n) Q) a w;rcases qW hx' with⟨l,⟨t1,d1,M1,ct1⟩,cl,hx1,hfl,hx2⟩|⟨hne,hx1⟩
   ·refine key nt j code cc hj rd fn F t d M ct (.gto l) t1 d1 M1 ct1 hx1 E c w a h _ ?_;rintro a1 w1 ⟨E1,c1,hS,hG,hR⟩;obtain⟨rest,hr1,hr2⟩:=htbl l cl hfl;show d8 body (gK (d7 E rd) 0 P body Q n) Q (.goto l) a1 w1;unfold d8;dsimp only;rw[hr1];rw[←gv hS.ext h.rd];have hx3:exec Φ n rd fn F (.scope cl tbl) (.mk t1 d1 M1 ct1)= .k e (.mk t' d' M' ct'):=hx2;exact ih.2.2 rd fn F cl tbl t1 d1 M1 ct1 e t' d' M' ct' hx3 nt body rest hr2 htbl E1 c1 w1 a1 hR Q fun a' w' hr=>hQ a' w' (hr.trans hS hG)
   ·exact key nt j code cc hj rd fn F t d M ct e t' d' M' ct' hx1 E c w a h _ fun a' w' hr=>vt hne (hQ a' w' hr)
end
def aH(ps:List aE)(t t':T):Prop:=∀p∈ps,cz t' p=cz t p
section
variable{t t':T}
theorem aH.l{a b:List aE}(h:aH (a++b) t t'):aH a t t':=fun p hp=>h p (List.mem_append_left _ hp)
theorem aH.r{a b:List aE}(h:aH (a++b) t t'):aH b t t':=fun p hp=>h p (List.mem_append_right _ hp)
theorem aH.ev{x:X}(h:aH x.ps t t'):x.ev t'=x.ev t:=by
 cases x with
 |t p=>exact h p (by simp[X.ps])
 |c v=>rfl
theorem aH.evs{xs:List X}(h:aH (psL xs) t t'):Ev.evs xs t'=Ev.evs xs t:=by
 induction xs with
 |nil=>rfl
 |cons x xs ih=>
  show x.ev t'::Ev.evs xs t'=x.ev t::Ev.evs xs t;rw[h.l.ev,ih h.r]
theorem aH.optN{o:Option X}(h:aH (Y3 o) t t')(d:Nat):Ev.optN t' d o=Ev.optN t d o:=by
 cases o with
 |none=>rfl
 |some x=>
  show rA (x.ev t')=rA (x.ev t);rw[aH.ev h]
theorem aH.optNN{o:Option X}(h:aH (Y3 o) t t'):Ev.optNN t' o=Ev.optNN t o:=by
 cases o with
 |none=>rfl
 |some x=>
  have h':aH x.ps t t':=h;simp only[Ev.optNN];rw[h'.ev]
theorem aH.minAll{xs:List X}(h:aH (psL xs) t t')(mx:Bool):∀v,Ev.minAll mx t' v xs=Ev.minAll mx t v xs:=by
 induction xs with
 |nil=>intro v;rfl
 |cons x xs ih=>
  intro v;simp only[Ev.minAll];rw[h.l.ev];cases Dy mx v (x.ev t)with
  |none=>rfl
  |some v'=>exact ih h.r v'
theorem aH.fillParts{ps:List (Nat×Nat×X)}(h:aH (psP ps) t t'):∀cs,Ev.fillParts t' cs ps=Ev.fillParts t cs ps:=by
 induction ps with
 |nil=>intro v;rfl
 |cons x xs ih=>
  obtain⟨o,n,x⟩:=x;intro cs;simp only[Ev.fillParts];have h1:aH x.ps t t':=h.l;have h2:aH (psP xs) t t':=h.r;rw[h1.ev];cases Nat.beq (flatten (x.ev t)).length n with
  |false=>rfl
  |true=>
   simp only[cond_true];cases il cs o (flatten (x.ev t))with
   |none=>rfl
   |some cs'=>exact ih h2 cs'
theorem aH.fillP{ps:List (Nat×X)}(h:aH (aa2 ps) t t')(sz m:Nat):∀tt,Ev.fillP sz m t' ps tt=Ev.fillP sz m t ps tt:=by
 induction ps with
 |nil=>intro v;rfl
 |cons x xs ih=>
  obtain⟨o,x⟩:=x;intro tt;simp only[Ev.fillP];have h1:aH x.ps t t':=h.l;have h2:aH (aa2 xs) t t':=h.r;rw[h1.ev];cases Nat.beq (flatten (x.ev t)).length sz&&Nat.ble (Nat.add o sz) m&&br (flatten (x.ev t))with
  |false=>rfl
  |true=>
   simp only[cond_true,Tr.force_eq];exact ih h2 _
theorem yd(F:RO)(M:Mem){o:QO}(h:aH o.ps t t'):cY o F M t'=cY o F M t:=by
 cases o with
 |mv x=>have h1:x.ev t'=x.ev t:=aH.ev h;show ab2 x F M t'=ab2 x F M t;unfold ab2;rw[h1]
 |pk c a b=>
  have h1:=aH.l h|>.ev;have h2:=(aH.r h).l.ev;have h3:=(aH.r h).r.ev;show Ky c a b F M t'=Ky c a b F M t;unfold Ky;rw[h1,h2,h3]
 |ld1 x=>have h1:x.ev t'=x.ev t:=aH.ev h;show Ib x F M t'=Ib x F M t;unfold Ib;rw[h1]
 |ldn n x=>have h1:x.ev t'=x.ev t:=aH.ev h;show Ic n x F M t'=Ic n x F M t;unfold Ic;rw[h1]
 |nck x=>have h1:x.ev t'=x.ev t:=aH.ev h;show nQ x F M t'=nQ x F M t;unfold nQ;rw[h1]
 |bi op x y=>have h1:=aH.l h|>.ev;have h2:=aH.r h|>.ev;show Bf op x y F M t'=Bf op x y F M t;unfold Bf;rw[h1,h2]
 |eq neg sh lit x y=>have h1:=aH.l h|>.ev;have h2:=aH.r h|>.ev;show aa6 neg sh lit x y F M t'=aa6 neg sh lit x y F M t;unfold aa6;rw[h1,h2]
 |un op x=>have h1:x.ev t'=x.ev t:=aH.ev h;show ab5 op x F M t'=ab5 op x F M t;unfold ab5;rw[h1]
 |ci k x=>have h1:x.ev t'=x.ev t:=aH.ev h;show aa5 k x F M t'=aa5 k x F M t;unfold aa5;rw[h1]
 |bs x=>have h1:x.ev t'=x.ev t:=aH.ev h;show Ks x F M t'=Ks x F M t;unfold Ks;rw[h1]
 |mki k x=>have h1:x.ev t'=x.ev t:=aH.ev h;show Ig k x F M t'=Ig k x F M t;unfold Ig;rw[h1]
 |mkf f a b=>have h1:=(aH.l h).evs;have h2:=(aH.r h).evs;show Ie f a b F M t'=Ie f a b F M t;unfold Ie;rw[h1,h2]
 |fa k x=>have h1:x.ev t'=x.ev t:=aH.ev h;show aa7 k x F M t'=aa7 k x F M t;unfold aa7;rw[h1]
 |fl1 k x=>have h1:x.ev t'=x.ev t:=aH.ev h;show I7 k x F M t'=I7 k x F M t;unfold I7;rw[h1]
 |fln k n x=>have h1:x.ev t'=x.ev t:=aH.ev h;show I8 k n x F M t'=I8 k n x F M t;unfold I8;rw[h1]
 |iaA l s x y=>have h1:=aH.l h|>.ev;have h2:=aH.r h|>.ev;show I9 l s x y F M t'=I9 l s x y F M t;unfold I9;rw[h1,h2]
 |iaS s x y=>have h1:=aH.l h|>.ev;have h2:=aH.r h|>.ev;show qU s x y F M t'=qU s x y F M t;unfold qU;rw[h1,h2]
 |ixA1 l s x y=>have h1:=aH.l h|>.ev;have h2:=aH.r h|>.ev;show zA l s x y F M t'=zA l s x y F M t;unfold zA;rw[h1,h2]
 |ixAn l s x y=>have h1:=aH.l h|>.ev;have h2:=aH.r h|>.ev;show zB l s x y F M t'=zB l s x y F M t;unfold zB;rw[h1,h2]
 |ixS x y=>have h1:=aH.l h|>.ev;have h2:=aH.r h|>.ev;show Ia x y F M t'=Ia x y F M t;unfold Ia;rw[h1,h2]
 |slS x lo hi=>
  have h1:=aH.l h|>.ev;show vV x lo hi F M t'=vV x lo hi F M t;unfold vV;rw[h1];simp only[(aH.r h).l.optN,(aH.r h).r.optN]
 |slL s x lo hi mx=>
  have h1:=aH.l h|>.ev;show Ih s x lo hi mx F M t'=Ih s x lo hi mx F M t;unfold Ih;rw[h1,(aH.r h).l.optNN,(aH.r h).r.l.optNN,(aH.r h).r.r.optNN]
 |slA n s x lo hi mx=>
  have h1:=aH.l h|>.ev;show yc n s x lo hi mx F M t'=yc n s x lo hi mx F M t;unfold yc;rw[h1];simp only[(aH.r h).l.optN,(aH.r h).r.l.optN,(aH.r h).r.r.optN]
 |lk sh z ok x y=>have h1:=aH.l h|>.ev;have h2:=aH.r h|>.ev;show Kx sh z ok x y F M t'=Kx sh z ok x y F M t;unfold Kx;rw[h1,h2]
 |ex i x=>have h1:x.ev t'=x.ev t:=aH.ev h;show vR i x F M t'=vR i x F M t;unfold vR;rw[h1]
 |ln sh x=>have h1:x.ev t'=x.ev t:=aH.ev h;show ab0 sh x F M t'=ab0 sh x F M t;unfold ab0;rw[h1]
 |lnc n=>rfl
 |cp x=>have h1:x.ev t'=x.ev t:=aH.ev h;show vQ x F M t'=vQ x F M t;unfold vQ;rw[h1]
 |mn mx x xs=>have h1:=aH.l h|>.ev;show ab1 mx x xs F M t'=ab1 mx x xs F M t;unfold ab1;rw[h1,(aH.r h).minAll]
 |bld z ps=>show I3 z ps F M t'=I3 z ps F M t;unfold I3;rw[aH.fillParts h]
 |ta w z ok x=>have h1:x.ev t'=x.ev t:=aH.ev h;show Kz w z ok x F M t'=Kz w z ok x F M t;unfold Kz;rw[h1]
 |up x=>have h1:x.ev t'=x.ev t:=aH.ev h;show KA x F M t'=KA x F M t;unfold KA;rw[h1]
 |dn ty s x=>have h1:x.ev t'=x.ev t:=aH.ev h;show Kv ty s x F M t'=Kv ty s x F M t;unfold Kv;rw[h1]
 |sd x=>have h1:x.ev t'=x.ev t:=aH.ev h;show vT x F M t'=vT x F M t;unfold vT;rw[h1]
 |xib x y=>have h1:=aH.l h|>.ev;have h2:=aH.r h|>.ev;show Ij x y F M t'=Ij x y F M t;unfold Ij;rw[h1,h2]
 |xcmp x y=>have h1:=aH.l h|>.ev;have h2:=aH.r h|>.ev;show zE x y F M t'=zE x y F M t;unfold zE;rw[h1,h2]
 |sap n x=>have h1:x.ev t'=x.ev t:=aH.ev h;show yb n x F M t'=yb n x F M t;unfold yb;rw[h1]
 |xcn x y=>have h1:=aH.l h|>.ev;have h2:=aH.r h|>.ev;show Ii x y F M t'=Ii x y F M t;unfold Ii;rw[h1,h2]
 |bad=>rfl
theorem Jq(b:Nat){o:AO}(h:aH o.ps t t'):kP o b t'=kP o b t:=by
 cases o with
 |al ty cs=>rfl
 |bx ty sz x=>have h1:x.ev t'=x.ev t:=aH.ev h;show Jl ty sz x b t'=Jl ty sz x b t;unfold Jl;rw[h1]
 |bsl ty n sz z ps=>show x7 ty n sz z ps b t'=x7 ty n sz z ps b t;unfold x7;rw[aH.fillP h]
 |mks ty sz by_ z l k=>have h1:=aH.l h|>.ev;have h2:=aH.r h|>.ev;show F9 ty sz by_ z l k b t'=F9 ty sz by_ z l k b t;unfold F9;rw[h1,h2]
 |mkm=>rfl
 |sb ty x=>have h1:x.ev t'=x.ev t:=aH.ev h;show Ym ty x b t'=Ym ty x b t;unfold Ym;rw[h1]
 |nz ty x=>have h1:x.ev t'=x.ev t:=aH.ev h;show Jo ty x b t'=Jo ty x b t;unfold Jo;rw[h1]
 |rgs x=>have h1:x.ev t'=x.ev t:=aH.ev h;show Fa x b t'=Fa x b t;unfold Fa;rw[h1]
theorem JD(k:Kn)(M:Mem)(c:Nat){o:EO}(h:aH o.ps t t'):iG o k M c t'=iG o k M c t:=by
 cases o with
 |call f as0=>have h1:=aH.evs h;show zZ f as0 k M c t'=zZ f as0 k M c t;unfold zZ;rw[h1]
 |cv f as0=>have h1:=aH.l h|>.ev;have h2:=(aH.r h).evs;show af6 f as0 k M c t'=af6 f as0 k M c t;unfold af6;rw[h1,h2]
 |st n x y=>have h1:=aH.l h|>.ev;have h2:=aH.r h|>.ev;show af9 n x y k M c t'=af9 n x y k M c t;unfold af9 bI4;rw[h1,h2]
 |app ty sz by_ x y=>have h1:=aH.l h|>.ev;have h2:=aH.r h|>.ev;show IP ty sz by_ x y k M c t'=IP ty sz by_ x y k M c t;unfold IP aX7;rw[h1,h2]
 |cpy sz x y=>have h1:=aH.l h|>.ev;have h2:=aH.r h|>.ev;show IR sz x y k M c t'=IR sz x y k M c t;unfold IR Au;rw[h1,h2]
 |clr z x=>have h1:x.ev t'=x.ev t:=aH.ev h;show IQ z x k M c t'=IQ z x k M c t;unfold IQ Hl;rw[h1]
 |mu sh m k' v=>have h1:=aH.l h|>.ev;have h2:=(aH.r h).l.ev;have h3:=(aH.r h).r.ev;show af8 sh m k' v k M c t'=af8 sh m k' v k M c t;unfold af8 bI2;rw[h1,h2,h3]
 |del sh m k'=>have h1:=aH.l h|>.ev;have h2:=aH.r h|>.ev;show IU sh m k' k M c t'=IU sh m k' k M c t;unfold IU aX8;rw[h1,h2]
 |us ty x n=>have h1:=aH.l h|>.ev;have h2:=aH.r h|>.ev;show ag0 ty x n k M c t'=ag0 ty x n k M c t;unfold ag0 UD;rw[h1,h2]
 |ms x=>have h1:x.ev t'=x.ev t:=aH.ev h;show af7 x k M c t'=af7 x k M c t;unfold af7 Z2;rw[h1]
 |nxs x=>have h1:x.ev t'=x.ev t:=aH.ev h;show IW x k M c t'=IW x k M c t;unfold IW Ho;rw[h1]
 |rgm x=>have h1:x.ev t'=x.ev t:=aH.ev h;show IX x k M c t'=IX x k M c t;unfold IX Hp;rw[h1]
 |nxm x=>have h1:x.ev t'=x.ev t:=aH.ev h;show IV x k M c t'=IV x k M c t;unfold IV Hn;rw[h1]
theorem zX{g:Option (aE×Bool)}(h:aH (gps g) t t'):wanted t' g=wanted t g:=by
 cases g with
 |none=>rfl
 |some pw=>
  obtain⟨p,want⟩:=pw;show hU want (cz t' p)=hU want (cz t p);rw[h p (by simp[gps])]
theorem lA:∀p q:aE,jg p q=true↔p=q
 | .h,.h=>by simp[jg]
 | .l p,.l q=>by simp[jg,lA p q]
 | .r p,.r q=>by simp[jg,lA p q]
 | .h,.l _=>by simp[jg]
 | .h,.r _=>by simp[jg]
 | .l _,.h=>by simp[jg]
 | .l _,.r _=>by simp[jg]
 | .r _,.h=>by simp[jg]
 | .r _,.l _=>by simp[jg]
theorem Km(p:aE)(l:List aE):vN p l=true↔p∈l:=by
 induction l with
 |nil=>simp[vN]
 |cons q r ih=>
  simp only[vN,bj];cases h:jg p q with
  |true=>simp[(lA p q).1 h]
  |false=>
   have:p≠q:=fun e=>by rw[(lA p q).2 e]at h;cases h
   simp[this,ih]
theorem aH.setT{ps:List aE}{dst:Option aE}(h:sR ps dst=false)(t:T)(v:V):aH ps t (Ev.setT t dst v):=by
 intro p hp
 cases dst with
 |none=>rfl
 |some q=>
  have hne:p≠q:=by
   rintro rfl;have:vN p ps=true:=(Km p ps).2 hp;rw[show sR ps (some p)=vN p ps from rfl,this]at h;cases h
  rw[lE];unfold cz;rw[Tr.getP_setP_ne q v p t hne]
theorem KK{d1 d2:Option aE}(h:qB d1 d2=false)(t:T)(v1 v2:V):Ev.setT (Ev.setT t d1 v1) d2 v2=Ev.setT (Ev.setT t d2 v2) d1 v1:=by
 cases d1 with
 |none=>rfl
 |some p=>
  cases d2 with
  |none=>rfl
  |some q=>
   have hne:p≠q:=fun e=>by
    have:=(lA p q).2 e;rw[show qB (some p) (some q)=jg p q from rfl,this]at h;cases h
   simp only[lE];exact Tr.setP_comm p v1 q v2 t (Ne.symm hne)
end
structure SS where
 t:T
 m:Nat→Option bz
 ct:Nat
inductive LK where
 |skip
 |qv (v:V)
 |qr (v:V) (b:Nat)
 |al (v:V) (blk:bz)
 |ef (v:V) (M1:Mem) (F1:RO) (M':Mem) (ct ct':Nat)
structure ip where
 i:Nat
 mask:Nat
 co:CO
 k:LK
def CO.op:CO→OK
 | .mk _ op _=>op
def CO.guard:CO→Option (aE×Bool)
 | .mk _ _ g=>g
def LK.isEf:LK→Bool
 | .ef .. =>true
 |_=>false
def ej(M1 M':Mem)(m:Nat→Option bz)(b:Nat):Option bz:=
 if M1.get b=none∧m b≠none then m b else M'.get b
def kb(m:Nat→Option bz)(b:Nat)(blk:bz):Nat→Option bz:=fun x=>if x=b then some blk else m x
structure bt2(k:Kn)(F:RO)(o:EO)(v:V)(M1:Mem)(F1:RO)(M':Mem)(ct ct':Nat)(t:T)(m:Nat→Option bz):Prop where
 run:iG o (rX k F1) M1 ct t= .k v M' ct'
 sub:∀b blk,M1.get b=some blk→m b=some blk
 ro:∀b blk,aZ F1 b=some blk→(m b=some blk∧M1.get b=none)∨aZ F b=some blk
 new:∀b,(aZ F b).isSome→M'.get b=none
def Tn(k:Kn)(base:Nat)(F:RO)(l:ip)(s s':SS):Prop:=
 match l.k with
 | .skip=>wanted s.t l.co.guard=false∧s'=⟨setT s.t l.co.dst undef,s.m,s.ct⟩
 | .qv v=>wanted s.t l.co.guard=true∧ ∃o,l.co.op= .q o∧(cY o [] .e s.t).val=some v∧s'=⟨setT s.t l.co.dst v,s.m,s.ct⟩
 | .qr v b=>wanted s.t l.co.guard=true∧ ∃o blk,l.co.op= .q o∧(s.m b=some blk∨(s.m b=none∧aZ F b=some blk))∧(cY o [(b,blk)] .e s.t).val=some v∧s'=⟨setT s.t l.co.dst v,s.m,s.ct⟩
 | .al v blk=>wanted s.t l.co.guard=true∧ ∃o,l.co.op= .a o∧kP o (base+l.i) s.t=some (v,blk)∧s'=⟨setT s.t l.co.dst v,kb s.m (base+l.i) blk,s.ct⟩
 | .ef v M1 F1 M' ct ct'=>wanted s.t l.co.guard=true∧s.ct=ct∧ ∃o,l.co.op= .e o∧bt2 k F o v M1 F1 M' ct ct' s.t s.m∧s'=⟨setT s.t l.co.dst v,ej M1 M' s.m,ct'⟩
structure ES(base:Nat)(x y:ip):Prop where
 ne:x.i≠y.i
 kx:x.k.isEf=false
 d1:sR y.co.ps x.co.dst=false
 d2:sR x.co.ps y.co.dst=false
 d3:qB x.co.dst y.co.dst=false
 rd:∀vx b v M1 F1 M' ct ct',x.k= .qr vx b→y.k= .ef v M1 F1 M' ct ct'→M1.get b=none
 al:∀vx blk v M1 F1 M' ct ct',x.k= .al vx blk→y.k= .ef v M1 F1 M' ct ct'→M1.get (base+x.i)=none∧aZ F1 (base+x.i)=none
 rd2:∀vx blk v b,x.k= .al vx blk→y.k= .qr v b→b≠base+x.i
 rd3:∀vx b v blk,x.k= .qr vx b→y.k= .al v blk→b≠base+y.i
section
variable{k:Kn}{base:Nat}{F:RO}{x y:ip}{s s1 s2:SS}
theorem CO.ps_eq(c:CO):c.ps=gps c.guard++c.op.ps:=by cases c;rfl
def ip.val(l:ip):V:=match l.k with
 | .skip=>undef
 | .qv v| .qr v _| .al v _=>v
 | .ef v .. =>v
def ip.mem(base:Nat)(l:ip)(m:Nat→Option bz):Nat→Option bz:=match l.k with
 | .al _ blk=>kb m (base+l.i) blk
 | .ef _ M1 _ M' _ _=>ej M1 M' m
 |_=>m
def ip.ctr(l:ip)(ct:Nat):Nat:=match l.k with
 | .ef _ _ _ _ _ ct'=>ct'
 |_=>ct
def Lo(k:Kn)(base:Nat)(F:RO)(l:ip)(s:SS):Prop:=
 match l.k with
 | .skip=>wanted s.t l.co.guard=false
 | .qv v=>wanted s.t l.co.guard=true∧ ∃o,l.co.op= .q o∧(cY o [] .e s.t).val=some v
 | .qr v b=>wanted s.t l.co.guard=true∧ ∃o blk,l.co.op= .q o∧(s.m b=some blk∨(s.m b=none∧aZ F b=some blk))∧(cY o [(b,blk)] .e s.t).val=some v
 | .al v blk=>wanted s.t l.co.guard=true∧ ∃o,l.co.op= .a o∧kP o (base+l.i) s.t=some (v,blk)
 | .ef v M1 F1 M' ct ct'=>wanted s.t l.co.guard=true∧s.ct=ct∧ ∃o,l.co.op= .e o∧bt2 k F o v M1 F1 M' ct ct' s.t s.m
theorem px:Tn k base F x s s1↔Lo k base F x s∧s1=⟨setT s.t x.co.dst x.val,x.mem base s.m,x.ctr s.ct⟩:=by
 unfold Tn Lo ip.val ip.mem ip.ctr
 cases x.k with
 |skip=>exact Iff.rfl
 |qv v=>
  constructor
  ·rintro⟨h1,o,h2,h3,h4⟩;exact⟨⟨h1,o,h2,h3⟩,h4⟩
  ·rintro⟨⟨h1,o,h2,h3⟩,h4⟩;exact⟨h1,o,h2,h3,h4⟩
 |qr v b=>
  constructor
  ·rintro⟨h1,o,blk,h2,h3,h4,h5⟩;exact⟨⟨h1,o,blk,h2,h3,h4⟩,h5⟩
  ·rintro⟨⟨h1,o,blk,h2,h3,h4⟩,h5⟩;exact⟨h1,o,blk,h2,h3,h4,h5⟩
 |al v blk=>
  constructor
  ·rintro⟨h1,o,h2,h3,h4⟩;exact⟨⟨h1,o,h2,h3⟩,h4⟩
  ·rintro⟨⟨h1,o,h2,h3⟩,h4⟩;exact⟨h1,o,h2,h3,h4⟩
 |ef v M1 F1 M' ct ct'=>
  constructor
  ·rintro⟨h1,h0,o,h2,h3,h4⟩;exact⟨⟨h1,h0,o,h2,h3⟩,h4⟩
  ·rintro⟨⟨h1,h0,o,h2,h3⟩,h4⟩;exact⟨h1,h0,o,h2,h3,h4⟩
def EV(base:Nat)(F:RO)(l:ip)(m m':Nat→Option bz):Prop:=match l.k with
 | .qr _ b=>m' b=m b
 | .ef _ M1 F1 _ _ _=>(∀b,(M1.get b).isSome→m' b=m b)∧(∀b,(aZ F1 b).isSome→m' b=m b)
 |_=>True
theorem Lo.move{t t':T}{m m':Nat→Option bz}{ct ct':Nat}(h:Lo k base F x ⟨t,m,ct⟩)(ha:aH x.co.ps t t')(hm:EV base F x m m')(hc:x.k.isEf=true→ct'=ct):Lo k base F x ⟨t',m',ct'⟩:=by
 rw[CO.ps_eq]at ha
 have hw:=zX ha.l
 have ho:=ha.r
 unfold Lo at h⊢
 unfold EV at hm
 cases hk:x.k with
 |skip=>rw[hk]at h;exact hw.trans h
 |qv v=>
  rw[hk]at h;obtain⟨h1,o,h2,h3⟩:=h;rw[h2]at ho;exact⟨hw.trans h1,o,h2,by show(cY o [] .e t').val=_;rw[yd _ _ ho];exact h3⟩
 |qr v b=>
  rw[hk]at h hm;obtain⟨h1,o,blk,h2,h3,h4⟩:=h;rw[h2]at ho;have hm':m' b=m b:=hm;exact⟨hw.trans h1,o,blk,h2,by show m' b=_∨(m' b=_∧_);rw[hm'];exact h3,by show(cY o _ .e t').val=_;rw[yd _ _ ho];exact h4⟩
 |al v blk=>
  rw[hk]at h;obtain⟨h1,o,h2,h3⟩:=h;rw[h2]at ho;exact⟨hw.trans h1,o,h2,by show kP o _ t'=_;rw[Jq _ ho];exact h3⟩
 |ef v M1 F1 M' c1 c2=>
  rw[hk]at h hm hc;obtain⟨h1,h0,o,h2,h3⟩:=h;rw[h2]at ho;have hm':(∀b,(M1.get b).isSome→m' b=m b)∧(∀b,(aZ F1 b).isSome→m' b=m b):=hm;refine⟨hw.trans h1,(hc rfl).trans h0,o,h2,⟨?_,?_,?_,h3.new⟩⟩
  ·show iG o (rX k F1) M1 c1 t'=_;rw[JD _ _ _ ho];exact h3.run
  ·intro b blk hb;show m' b=_;rw[hm'.1 b (by rw[hb];rfl)];exact h3.sub b blk hb
  ·intro b blk hb;show(m' b=_∧_)∨_;rw[hm'.2 b (by rw[hb];rfl)];exact h3.ro b blk hb
theorem cz2(ha:ES base x y)(h1:Tn k base F x s s1)(h2:Tn k base F y s1 s2):∃s1',Tn k base F y s s1'∧Tn k base F x s1' s2:=by
 obtain⟨t,m,ct⟩:=s
 rw[px]at h1 h2
 obtain⟨c1,rfl⟩:=h1
 obtain⟨c2,rfl⟩:=h2
 have hctx:x.ctr ct=ct:=by
  have:=ha.kx;unfold ip.ctr;cases hx:x.k<;>first|rfl|(rw[hx]at this;cases this)
 refine⟨_,px.2 ⟨?_,rfl⟩,px.2 ⟨?_,?_⟩⟩
 ·
  refine Lo.move (t':=t) (m':=m) (ct':=ct) c2 ?_ ?_ ?_
  ·intro p hp;exact(aH.setT ha.d1 t x.val p hp).symm
  ·unfold EV;cases hy:y.k with
   |qr v b=>
    show m b=x.mem base m b;unfold ip.mem;cases hx:x.k with
    |al vx blk=>
     show m b=kb m (base+x.i) blk b;unfold kb;rw[ab (ha.rd2 vx blk v b hx hy)]
    |ef=>have:=ha.kx;rw[hx]at this;cases this
    |_=>rfl
   |ef v M1 F1 M' c3 c4=>
    unfold ip.mem;cases hx:x.k with
    |al vx blk=>
     have hal:=ha.al vx blk v M1 F1 M' c3 c4 hx hy;constructor
     ·intro b hb;show m b=kb m (base+x.i) blk b;unfold kb;rw[ab];rintro rfl;rw[hal.1]at hb;cases hb
     ·intro b hb;show m b=kb m (base+x.i) blk b;unfold kb;rw[ab];rintro rfl;rw[hal.2]at hb;cases hb
    |ef=>have:=ha.kx;rw[hx]at this;cases this
    |_=>exact⟨fun _ _=>rfl,fun _ _=>rfl⟩
   |_=>trivial
  ·intro _;exact hctx.symm
 ·
  refine Lo.move (t:=t) (m:=m) (ct:=ct) c1 (aH.setT ha.d2 t y.val) ?_ (fun h=>by rw[ha.kx]at h;cases h);unfold EV;cases hx:x.k with
  |qr v b=>
   show y.mem base m b=m b;unfold ip.mem;cases hy:y.k with
   |al vy blk=>
    show kb m (base+y.i) blk b=m b;unfold kb;rw[ab (ha.rd3 v b vy blk hx hy)]
   |ef vy M1 F1 M' c3 c4=>
    have hrd:=ha.rd v b vy M1 F1 M' c3 c4 hx hy;show ej M1 M' m b=m b;unfold ej;split
    ·rfl
    ·rename_i hn;have hmb:m b=none:=by
      cases hb:m b with
      |none=>rfl
      |some _=>exact absurd ⟨hrd,by rw[hb];exact(fun h=>by cases h)⟩ hn
     have hF:(aZ F b).isSome:=by
      unfold Lo at c1;rw[hx]at c1;obtain⟨_,o,blk,_,h3,_⟩:=c1;rcases h3 with h3|h3
      ·have h3':m b=some blk:=h3;rw[hmb]at h3';cases h3'
      ·rw[h3.2];rfl
     have hE:M'.get b=none:=by
      unfold Lo at c2;rw[hy]at c2;obtain⟨_,_,o,_,h3⟩:=c2;exact h3.new b hF
     rw[hmb,hE]
   |_=>rfl
  |ef=>have:=ha.kx;rw[hx]at this;cases this
  |_=>trivial
 ·have e1:setT (setT t x.co.dst x.val) y.co.dst y.val=setT (setT t y.co.dst y.val) x.co.dst x.val:=KK ha.d3 t x.val y.val;have e2:y.mem base (x.mem base m)=x.mem base (y.mem base m):=by
   unfold ip.mem;cases hx:x.k with
   |al vx blk=>
    cases hy:y.k with
    |al vy blk'=>
     have hne:base+x.i≠base+y.i:=fun e=>ha.ne (by omega)
     funext b
     show kb (kb m (base+x.i) blk) (base+y.i) blk' b=kb (kb m (base+y.i) blk') (base+x.i) blk b;unfold kb;by_cases e:b=base+x.i
     ·rw[ac e,ab (by rw[e];exact hne),ac e]
     ·rw[ab e,ab e]
    |ef vy M1 F1 M' c3 c4=>
     have hal:=(ha.al vx blk vy M1 F1 M' c3 c4 hx hy).1
     funext b
     show ej M1 M' (kb m (base+x.i) blk) b=kb (ej M1 M' m) (base+x.i) blk b;unfold ej kb;by_cases e:b=base+x.i
     ·rw[ac e,ac e,ac ⟨by rw[e];exact hal,fun h=>by cases h⟩]
     ·rw[ab e,ab e]
    |_=>rfl
   |ef=>have:=ha.kx;rw[hx]at this;cases this
   |_=>rfl
  have e3:y.ctr (x.ctr ct)=x.ctr (y.ctr ct):=by
   have hc:∀n,x.ctr n=n:=by
    intro n;have:=ha.kx;unfold ip.ctr;cases hx:x.k<;>first|rfl|(rw[hx]at this;cases this)
   rw[hc,hc]
  show SS.mk _ _ _=SS.mk _ _ _;rw[e1,e2,e3]
def sG(k:Kn)(base:Nat)(F:RO):List ip→SS→SS→Prop
 |[],s,s'=>s=s'
 |l::r,s,s'=>∃s1,Tn k base F l s s1∧sG k base F r s1 s'
theorem sG.move{l2:List ip}{y:ip}{s':SS}:∀(l1:List ip) (s:SS),(∀x∈l1,ES base x y)→sG k base F (l1++y::l2) s s'→ ∃s1,Tn k base F y s s1∧sG k base F (l1++l2) s1 s'
 |[],s,_,h=>h
 |x::l1,s,ha,h=>by
  obtain⟨s1,h1,h2⟩:=h;obtain⟨s2,h3,h4⟩:=sG.move l1 s1 (fun z hz=>ha z (bc _ hz)) h2;obtain⟨s3,h5,h6⟩:=cz2 (ha x (bh ..)) h1 h3;exact⟨s3,h5,s2,h6,h4⟩
end
def gU:List (Nat×Nat×bz)→Nat→Option bz
 |[],_=>none
 |(_,b,blk)::r,x=>if x=b then some blk else gU r x
theorem ly{p:List (Nat×Nat×bz)}{b:Nat}{blk:bz}(h:gU p b=some blk):∃i,(i,b,blk)∈p:=by
 induction p with
 |nil=>cases h
 |cons q r ih=>
  obtain⟨i,b',blk'⟩:=q;unfold gU at h;split at h
  ·rename_i e;subst e;obtain rfl:=ae h;exact⟨i,by simp⟩
  ·obtain⟨j,hj⟩:=ih h;exact⟨j,bc _ hj⟩
theorem Kl{p:List (Nat×Nat×bz)}{b:Nat}(h:gU p b=none):∀i blk,(i,b,blk)∉p:=by
 induction p with
 |nil=>intro i blk hm;cases hm
 |cons q r ih=>
  obtain⟨i',b',blk'⟩:=q;unfold gU at h;split at h
  ·cases h
  ·rename_i e;intro i blk hm;rcases bj.1 hm with hm|hm
   ·injection hm with h1 h2;injection h2 with h2 h3;exact e h2
   ·exact ih h i blk hm
def ND(p:List (Nat×Nat×bz)):Prop:=p.Pairwise fun x y=>x.2.1≠y.2.1
theorem pP(mask:Nat):∀(p:List (Nat×Nat×bz)) (M:Mem),ND p→ ∃Mm,je mask p M=(Mm,p.filter fun x=> !testBit mask x.1)∧
 ∀b,(gU (p.filter fun x=> !testBit mask x.1) b).or (Mm.get b)=(gU p b).or (M.get b)
 |[],M,_=>⟨M,rfl,fun _=>rfl⟩
 |(i,b,blk)::r,M,h=>by
  obtain⟨h1,h2⟩:=List.pairwise_cons.1 h;cases ht:testBit mask i with
  |true=>
   obtain⟨Mm,hm,hg⟩:=pP mask r (M.set b blk) h2;refine⟨Mm,?_,?_⟩
   ·rw[je,ht,cond_true,Tr.force_eq,hm];simp[ht]
   ·intro x;have e:((i,b,blk)::r).filter (fun x=> !testBit mask x.1)=r.filter fun x=> !testBit mask x.1:=by simp[ht]
    rw[e,hg x];simp only[gU];by_cases ex:x=b
    ·subst ex;rw[ac rfl];have hn:gU r x=none:=by
      cases hp:gU r x with
      |none=>rfl
      |some blk'=>obtain⟨j,hj⟩:=ly hp;exact absurd rfl (h1 (j,x,blk') hj)
     rw[hn,Tr.get_set,ac rfl];rfl
    ·rw[ab ex,Tr.get_set,ab ex]
  |false=>
   obtain⟨Mm,hm,hg⟩:=pP mask r M h2;refine⟨Mm,?_,?_⟩
   ·rw[je,ht,cond_false,hm];simp[ht]
   ·intro x;have e:((i,b,blk)::r).filter (fun x=> !testBit mask x.1)=(i,b,blk)::r.filter fun x=> !testBit mask x.1:=by simp[ht]
    rw[e];simp only[gU];by_cases ex:x=b
    ·rw[ac ex,ac ex];rfl
    ·rw[ab ex,ab ex];exact hg x
def uP(l:List (Nat×bz))(b:Nat):Prop:=∃blk,(b,blk)∈l
structure b59(mask:Nat)(reads:List (Nat×Nat))(F:RO)(M:Mem)(F1:RO)(M1:Mem)(news:List (Nat×bz)):Prop where
 ro:F1=news++F
 get:∀b,M1.get b=none∧uP news b∨M1.get b=M.get b∧ ¬uP news b
 was:∀b blk,(b,blk)∈news→M.get b=some blk
 rd:∀i b,(i,b)∈reads→testBit mask i=false→M1.get b=none
theorem jt(mask:Nat):∀(reads:List (Nat×Nat)) (F:RO) (M:Mem) (s:List (Nat×bz)),∃F1 M1 news,cQ mask reads F M s= .mk F1 M1 (news++s)∧b59 mask reads F M F1 M1 news
 |[],F,M,s=>⟨F,M,[],rfl,⟨rfl,fun b=> .inr ⟨rfl,fun⟨_,h⟩=>(by cases h)⟩,fun _ _ h=>(by cases h),fun _ _ h=>(by cases h)⟩⟩
 |(i,b)::r,F,M,s=>by
  cases ht:testBit mask i with
  |true=>
   obtain⟨F1,M1,news,hp,hk⟩:=jt mask r F M s;refine⟨F1,M1,news,by rw[cQ,ht,cond_true];exact hp,hk.ro,hk.get,hk.was,?_⟩;intro i' b' hm hf;rcases bj.1 hm with hm|hm
   ·injection hm with h1 h2;rw[h1,ht]at hf;cases hf
   ·exact hk.rd i' b' hm hf
  |false=>
   cases hb:M.get b with
   |none=>
    obtain⟨F1,M1,news,hp,hk⟩:=jt mask r F M s;refine⟨F1,M1,news,by rw[cQ,ht,cond_false];simp only[hb];exact hp,hk.ro,hk.get,hk.was,?_⟩;intro i' b' hm hf;rcases bj.1 hm with hm|hm
    ·injection hm with h1 h2
     rw[h2];rcases hk.get b with h|h
     ·exact h.1
     ·rw[h.1,hb]
    ·exact hk.rd i' b' hm hf
   |some blk=>
    obtain⟨F1,M1,news,hp,hk⟩:=jt mask r ((b,blk)::F) (M.del b) ((b,blk)::s);refine⟨F1,M1,news++[(b,blk)],?_,by rw[hk.ro];simp,?_,?_,?_⟩
    ·rw[cQ,ht,cond_false];simp only[hb,Tr.force_eq];rw[hp];simp
    ·intro x;by_cases ex:x=b
     ·left;refine⟨?_,blk,by rw[ex];simp⟩;rcases hk.get x with h|h
      ·exact h.1
      ·rw[h.1,Tr.get_del,ac ex]
     ·rcases hk.get x with h|h
      ·exact .inl ⟨h.1,let⟨y,hy⟩:=h.2;⟨y,List.mem_append_left _ hy⟩⟩
      ·right;refine⟨by rw[h.1,Tr.get_del,ab ex],?_⟩;rintro⟨y,hy⟩;rcases List.mem_append.1 hy with hy|hy
       ·exact h.2 ⟨y,hy⟩
       ·simp at hy;exact ex hy.1
    ·intro x y hxy;rcases List.mem_append.1 hxy with hxy|hxy
     ·have:=hk.was x y hxy;rw[Tr.get_del]at this;split at this
      ·cases this
      ·exact this
     ·simp at hxy;rw[hxy.1,hxy.2];exact hb
    ·intro i' b' hm hf;rcases bj.1 hm with hm|hm
     ·injection hm with h1 h2
      rw[h2];rcases hk.get b with h|h
      ·exact h.1
      ·rw[h.1,Tr.get_del,ac rfl]
     ·exact hk.rd i' b' hm hf
theorem o5(f:Nat→Option bz):∀(l:List (Nat×bz)) (M:Mem),(∀b blk,(b,blk)∈l→f b=some blk)→ ∀b,(uP l b∧(bO l M).get b=f b)∨(¬uP l b∧(bO l M).get b=M.get b)
 |[],M,_,b=> .inr ⟨fun⟨_,h⟩=>(by cases h),rfl⟩
 |(x,blk)::r,M,h,b=>by
  rw[bO,Tr.force_eq];rcases o5 f r (M.set x blk) (fun b' blk' hm=>h b' blk' (bc _ hm)) b with hh|hh
  ·exact .inl ⟨let⟨y,hy⟩:=hh.1;⟨y,bc _ hy⟩,hh.2⟩
  ·by_cases e:b=x
   ·left;refine⟨⟨blk,by rw[e];simp⟩,?_⟩;rw[hh.2,Tr.get_set,ac e,e,h x blk (by simp)]
   ·right;refine⟨?_,by rw[hh.2,Tr.get_set,ab e]⟩;rintro⟨y,hy⟩;rcases bj.1 hy with hy|hy
    ·injection hy with h1 h2;exact e h1
    ·exact hh.1 ⟨y,hy⟩
theorem mi{F:RO}{M:Mem}:∀(p:List (Nat×Nat×bz)),cW F M p=true→ ∀i b blk,(i,b,blk)∈p→look F M b=none
 |[],_,_,_,_,h=>by cases h
 |(j,b',blk')::r,hp,i,b,blk,hm=>by
  rw[cW]at hp;cases hl:look F M b' with
  |none=>
   rw[hl]at hp;simp only[Option.isNone_none,cond_true]at hp;rcases bj.1 hm with hm|hm
   ·injection hm with h1 h2;injection h2 with h2 h3;rw[h2];exact hl
   ·exact mi r hp i b blk hm
  |some y=>rw[hl]at hp;simp at hp
theorem w7{M:Mem}:∀(F:RO),bN M F=true→ ∀b blk,(b,blk)∈F→M.get b=none
 |[],_,_,_,h=>by cases h
 |(b',blk')::r,hp,b,blk,hm=>by
  rw[bN]at hp;cases hl:M.get b' with
  |none=>
   rw[hl]at hp;simp only[Option.isNone_none,cond_true]at hp;rcases bj.1 hm with hm|hm
   ·injection hm with h1 h2;rw[h1];exact hl
   ·exact w7 r hp b blk hm
  |some y=>rw[hl]at hp;simp at hp
theorem qX{b:Nat}:∀(l:List (Nat×Nat)),dU b l=true→ ∀i b',(i,b')∈l→b'≠b
 |[],_,_,_,h=>by cases h
 |(j,x)::r,hp,i,b',hm=>by
  rw[dU,bp]at hp;by_cases e:x=b
  ·simp[e]at hp
  ·simp[e]at hp;rcases bj.1 hm with hm|hm
   ·injection hm with h1 h2;rw[h2];exact e
   ·exact qX r hp i b' hm
theorem fD(h:Nat×bz)(F:RO)(k:Nat):aZ (h::F) k=if h.1=k then some h.2 else aZ F k:=by
 show Bool.rec (motive:=fun _=>Option bz) (aZ F k) (some h.2) (Nat.beq h.1 k)=_
 rw[bb,bp]
 by_cases e:h.1=k<;>simp[e]
theorem KG{F:RO}{b:Nat}{blk:bz}(h:aZ F b=some blk):(b,blk)∈F:=by
 induction F with
 |nil=>cases h
 |cons p r ih=>
  rw[fD]at h;split at h
  ·rename_i e;obtain rfl:=ae h;rw[←e];simp
  ·exact bc _ (ih h)
theorem zI{F G:RO}{b:Nat}{blk:bz}(h:aZ (F++G) b=some blk):(b,blk)∈F∨aZ G b=some blk:=by
 induction F with
 |nil=>exact .inr h
 |cons p r ih=>
  rw[List.cons_append,fD]at h;split at h
  ·rename_i e;obtain rfl:=ae h;left;rw[←e];simp
  ·rcases ih h with h'|h'
   ·exact .inl (bc _ h')
   ·exact .inr h'
theorem qY{F G:RO}{b:Nat}(h:aZ (F++G) b=none):aZ G b=none∧ ¬uP F b:=by
 induction F with
 |nil=>exact⟨h,fun⟨_,h⟩=>(by cases h)⟩
 |cons p r ih=>
  rw[List.cons_append,fD]at h;split at h
  ·cases h
  ·rename_i e;refine⟨(ih h).1,?_⟩;rintro⟨y,hy⟩;rcases bj.1 hy with hy|hy
   ·rw[←hy]at e;exact e rfl
   ·exact(ih h).2 ⟨y,hy⟩
theorem ou{F:RO}{M:Mem}{b:Nat}(h:look F M b=none):M.get b=none∧aZ F b=none:=by
 cases hm:M.get b with
 |none=>rw[aO hm]at h;exact⟨rfl,h⟩
 |some x=>rw[am hm]at h;cases h
theorem zm{F:RO}{M:Mem}{b:Nat}(h1:M.get b=none)(h2:aZ F b=none):look F M b=none:=by
 rw[aO h1,h2]
theorem kT:∀(p:List (Nat×Nat×bz)) (M:Mem),ND p→ ∀b,(dT p M).get b=(gU p b).or (M.get b)
 |[],M,_,b=>rfl
 |(i,x,blk)::r,M,h,b=>by
  obtain⟨h1,h2⟩:=List.pairwise_cons.1 h;rw[dT,Tr.force_eq,kT r _ h2,gU];by_cases e:b=x
  ·rw[ac e];have hn:gU r b=none:=by
    cases hp:gU r b with
    |none=>rfl
    |some blk'=>obtain⟨j,hj⟩:=ly hp;exact absurd e.symm (h1 (j,b,blk') hj)
   rw[hn,Tr.get_set,ac e];rfl
  ·rw[ab e,Tr.get_set,ab e]
theorem tq{a b x:Nat}(h:Nat.lor a b=b)(hx:testBit a x=true):testBit b x=true:=by
 have key:∀m i,testBit m i=Nat.testBit m i:=by
  intro m i;show Nat.beq (m/2^i%2) 1=Nat.testBit m i;rw[bp,Nat.testBit_eq_decide_div_mod_eq]
 rw[key]at hx⊢
 have:(a|||b)=b:=h
 rw[←this,Nat.testBit_or,hx];rfl
def sv(t:T)(M:Mem)(c:Nat)(p:List (Nat×Nat×bz)):SS:=⟨t,fun b=>(gU p b).or (M.get b),c⟩
structure Ca(base:Nat)(F:RO)(M:Mem)(p:List (Nat×Nat×bz)):Prop where
 nm:∀i b blk,(i,b,blk)∈p→b=base+i
 nd:ND p
 fr:∀i b blk,(i,b,blk)∈p→look F M b=none
def ux(base:Nat)(x y:ip):Prop:=testBit x.mask y.i=false∧x.i≠y.i∧(testBit y.mask x.i=true∨ES base x y)
structure yx(base:Nat)(p:List (Nat×Nat×bz))(reads:List (Nat×Nat))(y:ip):Prop where
 r1:∀x b,(x,b)∈reads→testBit y.mask x=false→ ∀v M1 F1 M' ct ct',y.k= .ef v M1 F1 M' ct ct'→M1.get b=none
 r2:∀x b,(x,b)∈reads→ ∀v blk,y.k= .al v blk→b≠base+y.i
 p1:∀x b blk,(x,b,blk)∈p→testBit y.mask x=false→ ∀v M1 F1 M' ct ct',y.k= .ef v M1 F1 M' ct ct'→M1.get b=none∧aZ F1 b=none
 p2:∀x b blk,(x,b,blk)∈p→testBit y.mask x=false→ ∀v b',y.k= .qr v b'→b'≠b
def ip.trip(l:ip):Nat×Nat×CO:=(l.i,l.mask,l.co)
theorem pT{x y:Nat×Nat×CO}(h:sg x y=true):testBit x.2.1 y.1=false∧x.1≠y.1∧
 ((testBit y.2.1 x.1=true∧Nat.lor x.2.1 y.2.1=y.2.1)∨(testBit y.2.1 x.1=false∧HK x.2.2 y.2.2=true)):=by
 unfold sg at h
 rw[bp,bp]at h
 simp only[aJ,Bool.not_eq_true']at h
 obtain⟨h1,h2,h3⟩:=h
 refine⟨h1,by simpa using h2,?_⟩
 cases ht:testBit y.2.1 x.1 with
 |true=>rw[ht]at h3;exact .inl ⟨rfl,by simpa using h3⟩
 |false=>rw[ht]at h3;exact .inr ⟨rfl,by simpa using h3⟩
theorem qR{x:Nat×Nat×CO}:∀{l:List (Nat×Nat×CO)},qQ x l=true→ ∀y∈l,sg x y=true
 |[],_,_,h=>by cases h
 |z::r,h,y,hy=>by
  simp only[qQ,aJ]at h;rcases bj.1 hy with rfl|hy
  ·exact h.1
  ·exact qR h.2 y hy
theorem t6{x y:CO}(h:HK x y=true):isE x=false∧sR y.ps x.dst=false∧sR x.ps y.dst=false∧qB x.dst y.dst=false:=by
 unfold HK at h
 simpa using h
theorem ux.mk'{base:Nat}{x y:ip}(h:sg x.trip y.trip=true)(hk:x.k.isEf=false)
 (rd:testBit y.mask x.i=false→ ∀vx b v M1 F1 M' ct ct',x.k= .qr vx b→y.k= .ef v M1 F1 M' ct ct'→M1.get b=none)
 (al:testBit y.mask x.i=false→ ∀vx blk v M1 F1 M' ct ct',x.k= .al vx blk→y.k= .ef v M1 F1 M' ct ct'→M1.get (base+x.i)=none∧aZ F1 (base+x.i)=none)
 (rd2:testBit y.mask x.i=false→ ∀vx blk v b,x.k= .al vx blk→y.k= .qr v b→b≠base+x.i)
 (rd3:∀vx b v blk,x.k= .qr vx b→y.k= .al v blk→b≠base+y.i):ux base x y:=by
 obtain⟨h1,h2,h3⟩:=pT h
 refine⟨h1,h2,?_⟩
 rcases h3 with⟨h3,_⟩|⟨h3,h4⟩
 ·exact .inl h3
 ·obtain⟨_,a2,a3,a4⟩:=t6 h4;exact .inr ⟨h2,hk,a2,a3,a4,rd h3,al h3,rd2 h3,rd3⟩
section
variable{k:Kn}{base:Nat}{t t1:T}{M M1:Mem}{c c1:Nat}{p p1:List (Nat×Nat×bz)}{reads reads1:List (Nat×Nat)}{i mask:Nat}{co:CO}
def Cc(k:Kn)(base:Nat)(h:Nat×Nat×CO)(t:T)(M:Mem)(c:Nat)(p:List (Nat×Nat×bz))(reads:List (Nat×Nat))(t1:T)(M1:Mem)(c1:Nat)(p1:List (Nat×Nat×bz))(reads1:List (Nat×Nat)):Prop:=
 ∃l:ip,l.trip=h∧Tn k base k.F l (sv t M c p) (sv t1 M1 c1 p1)∧Ca base k.F M1 p1∧(∀q∈p1,q.1=h.1∨ ∃q'∈p,q'.1=q.1)∧yx base p reads l∧
  ∀y:ip,sg h y.trip=true→yx base p1 reads1 y→yx base p reads y∧ux base l y
theorem Kk{F:RO}(hI:Ca base F M p){b:Nat}{blk:bz}(h:look F M b=some blk):gU p b=none:=by
 cases hp:gU p b with
 |none=>rfl
 |some x=>
  obtain⟨j,hj⟩:=ly hp;rw[hI.fr _ _ _ hj]at h;cases h
theorem mp(hI:Ca base k.F M p){lk:LK}{v:V}(hv:ip.val ⟨i,mask,co,lk⟩=v)(hm:∀m,ip.mem base ⟨i,mask,co,lk⟩ m=m)(hc:ip.ctr ⟨i,mask,co,lk⟩ c=c)
 (hcan:Lo k base k.F ⟨i,mask,co,lk⟩ (sv t M c p)) (hne:lk.isEf=false) (hna:∀v blk,lk≠ .al v blk)
 (hrd:∀v b,lk= .qr v b→(i,b)∈reads1∧ ∀blk x,(x,b,blk)∉p) (hsub:∀q∈reads,q∈reads1):
 Cc k base (i,mask,co) t M c p reads (setT t co.dst v) M c p reads1:=by
 refine⟨⟨i,mask,co,lk⟩,rfl,px.2 ⟨hcan,?_⟩,hI,fun q hq=> .inr ⟨q,hq,rfl⟩,⟨?_,?_,?_,?_⟩,?_⟩
 ·show sv _ _ _ _=SS.mk _ _ _;rw[hv,hm];show SS.mk _ _ _=SS.mk _ _ (ip.ctr _ c);rw[hc];rfl
 ·intro x b _ _ v M1 F1 M' ct ct' e;have e':lk=_:=e;rw[e']at hne;cases hne
 ·intro x b _ v blk e;exact absurd e (hna v blk)
 ·intro x b blk _ _ v M1 F1 M' ct ct' e;have e':lk=_:=e;rw[e']at hne;cases hne
 ·intro x b blk hx _ v b' e;rintro rfl;exact(hrd v b' e).2 blk x hx
 ·intro y hp hy;refine⟨⟨fun x b hx=>hy.r1 x b (hsub _ hx),fun x b hx=>hy.r2 x b (hsub _ hx),hy.p1,hy.p2⟩,?_⟩;refine .mk' hp hne ?_ ?_ ?_ ?_
  ·intro ht vx b v M1 F1 M' ct ct' e1 e2;exact hy.r1 i b (hrd vx b e1).1 ht v M1 F1 M' ct ct' e2
  ·intro ht vx blk v M1 F1 M' ct ct' e1;exact absurd e1 (hna _ _)
  ·intro ht vx blk v b e1;exact absurd e1 (hna _ _)
  ·intro vx b v blk e1 e2;exact hy.r2 i b (hrd vx b e1).1 v blk e2
theorem Dn{α:Type}{o:Option α}(h:o.isNone=true):o=none:=by cases o<;>simp_all
theorem Uq(hI:Ca base k.F M p)(hi:∀q∈p,q.1≠i)(h:wJ k base (i,mask,co) (.mk t M c p reads)=some (.mk t1 M1 c1 p1 reads1)):
 Cc k base (i,mask,co) t M c p reads t1 M1 c1 p1 reads1:=by
 obtain⟨dst,op,g⟩:=co
 unfold wJ at h
 dsimp only at h
 cases hw:wanted t g with
 |false=>
  rw[hw,cond_false,Tr.force_eq]at h;injection h with h;injection h with e1 e2 e3 e4 e5
  subst e1 e2 e3 e4 e5;exact mp (lk:= .skip) hI rfl (fun _=>rfl) rfl hw rfl (fun _ _ h=>by cases h) (fun _ _ h=>by cases h) (fun _ h=>h)
 |true=>
  rw[hw,cond_true]at h;cases op with
  |q o=>
   have h':tL i dst t M c p reads (JC o k.F M t (cY o k.F M t))=some (.mk t1 M1 c1 p1 reads1):=h;cases hq:cY o k.F M t with
   |f=>rw[hq]at h';cases(show(none:Option DS)=some _ from h')
   |v x0=>
    rw[hq]at h';have h2:tL i dst t M c p reads (cY o [] .e t)=some (.mk t1 M1 c1 p1 reads1):=h';cases hq2:cY o [] .e t with
    |f=>rw[hq2]at h2;cases(show(none:Option DS)=some _ from h2)
    |v x=>
     rw[hq2,tL,Tr.force_eq]at h2;injection h2 with h2;injection h2 with e1 e2 e3 e4 e5
     subst e1 e2 e3 e4 e5;exact mp (lk:= .qv x) hI rfl (fun _=>rfl) rfl ⟨hw,o,rfl,by show(cY o [] .e t).val=_;rw[hq2];rfl⟩ rfl (fun _ _ h=>by cases h) (fun _ _ h=>by cases h) (fun _ h=>h)
    |r x b=>
     rw[hq2,tL,Tr.force_eq]at h2;injection h2 with h2;injection h2 with e1 e2 e3 e4 e5
     subst e1 e2 e3 e4 e5;exact mp (lk:= .qv x) hI rfl (fun _=>rfl) rfl ⟨hw,o,rfl,by show(cY o [] .e t).val=_;rw[hq2];rfl⟩ rfl (fun _ _ h=>by cases h) (fun _ _ h=>by cases h) (fun _ h=>bc _ h)
   |r x0 b=>
    rw[hq]at h';have h2:tL i dst t M c p reads (YW o t b (look k.F M b))=some (.mk t1 M1 c1 p1 reads1):=h';cases hl:look k.F M b with
    |none=>rw[hl]at h2;cases(show(none:Option DS)=some _ from h2)
    |some blk=>
     rw[hl]at h2;have h3:tL i dst t M c p reads (Im b (cY o [(b,blk)] .e t))=some (.mk t1 M1 c1 p1 reads1):=h2;have hpg:=Kk hI hl;have hmem:((gU p b).or (M.get b)=some blk∨((gU p b).or (M.get b)=none∧aZ k.F b=some blk)):=by
      rw[hpg];cases hm:M.get b with
      |none=>rw[aO hm]at hl;exact .inr ⟨rfl,hl⟩
      |some y=>rw[am hm]at hl;exact .inl hl
     have fin:∀x,(cY o [(b,blk)] .e t).val=some x→tL i dst t M c p reads (.r x b)=some (.mk t1 M1 c1 p1 reads1)→Cc k base (i,mask,.mk dst (.q o) g) t M c p reads t1 M1 c1 p1 reads1:=by
      intro x hx h4;rw[tL,Tr.force_eq]at h4;injection h4 with h4;injection h4 with e1 e2 e3 e4 e5
      subst e1 e2 e3 e4 e5;refine mp (lk:= .qr x b) hI rfl (fun _=>rfl) rfl ⟨hw,o,blk,rfl,hmem,hx⟩ rfl (fun _ _ h=>by cases h) ?_ (fun _ h=>bc _ h);intro v b' e;injection e with e1 e2
      subst e1 e2;exact⟨by simp,fun blk x=>Kl hpg x blk⟩
     cases hq2:cY o [(b,blk)] .e t with
     |f=>rw[hq2]at h3;cases(show(none:Option DS)=some _ from h3)
     |v x=>rw[hq2]at h3;exact fin x (by rw[hq2];rfl) h3
     |r x b2=>rw[hq2]at h3;exact fin x (by rw[hq2];rfl) h3
  |a o=>
   have h':fN (Nat.add base i) (fun b=>bif (look k.F M b).isNone&&dU b reads then D0 i b dst t M c p reads (kP o b t)else none)=some (.mk t1 M1 c1 p1 reads1):=h;rw[aQ]at h';cases hb:((look k.F M (Nat.add base i)).isNone&&dU (Nat.add base i) reads)with
   |false=>rw[hb]at h';cases h'
   |true=>
    rw[hb,cond_true]at h';rw[aJ]at hb;have hlk:=Dn hb.1;have hrf:=qX _ hb.2;cases ha:kP o (Nat.add base i) t with
    |none=>rw[ha]at h';cases h'
    |some pr=>
     obtain⟨v,blk⟩:=pr;rw[ha,D0,Tr.force_eq]at h';injection h' with h';injection h' with e1 e2 e3 e4 e5
     subst e1 e2 e3 e4 e5;refine⟨⟨i,mask,.mk dst (.a o) g,.al v blk⟩,rfl,px.2 ⟨⟨hw,o,rfl,ha⟩,?_⟩,⟨?_,?_,?_⟩,?_,⟨?_,?_,?_,?_⟩,?_⟩
     ·show SS.mk _ _ _=SS.mk _ _ _
      congr 1
      funext b
      show(gU ((i,base+i,blk)::p) b).or (M.get b)=kb (fun b=>(gU p b).or (M.get b)) (base+i) blk b;unfold kb;rw[gU];by_cases e:b=base+i
      ·rw[ac e,ac e];rfl
      ·rw[ab e,ab e]
     ·intro j b blk' hm;rcases bj.1 hm with hm|hm
      ·injection hm with h1 h2;injection h2 with h2 h3;rw[h1,h2];rfl
      ·exact hI.nm j b blk' hm
     ·refine List.pairwise_cons.2 ⟨?_,hI.nd⟩;rintro⟨j,b,blk'⟩ hm e;have e1:=hI.nm j b blk' hm;have e2:=hi _ hm;have e3:base+i=b:=e;exact e2 (by show j=i;omega)
     ·intro j b blk' hm;rcases bj.1 hm with hm|hm
      ·injection hm with h1 h2;injection h2 with h2 h3;rw[h2];exact hlk
      ·exact hI.fr j b blk' hm
     ·intro q hq;rcases bj.1 hq with hq|hq
      ·left;rw[hq]
      ·exact .inr ⟨q,hq,rfl⟩
     ·intro x b _ _ v M1 F1 M' ct ct' e;cases e
     ·intro x b hx v blk e;exact hrf x b hx
     ·intro x b blk _ _ v M1 F1 M' ct ct' e;cases e
     ·intro x b blk _ _ v b' e;cases e
     ·intro y hp hy;refine⟨⟨hy.r1,hy.r2,fun x b blk hx=>hy.p1 x b blk (bc _ hx),fun x b blk hx=>hy.p2 x b blk (bc _ hx)⟩,?_⟩;refine .mk' hp rfl (by intro _ vx b v M1 F1 M' ct ct' e1;cases e1) ?_ ?_ (by intro vx b v blk e1;cases e1)
      ·intro ht vx blk' v M1 F1 M' ct ct' e1 e2;exact hy.p1 i (base+i) blk (bh ..) ht v M1 F1 M' ct ct' e2
      ·intro ht vx blk' v b e1 e2;exact hy.p2 i (base+i) blk (bh ..) ht v b e2
  |e o=>
   have h':Aq o k mask dst t c reads (je mask p M)=some (.mk t1 M1 c1 p1 reads1):=h;obtain⟨Mm,hmg,hmget⟩:=pP mask p M hI.nd;rw[hmg]at h';obtain⟨F1,Ma,news,hpr,hP⟩:=jt mask reads k.F Mm [];rw[Aq,hpr,wK]at h';rw[di]at h';cases hpf:cW F1 Ma (p.filter fun x=> !testBit mask x.1)with
   |false=>rw[hpf]at h';cases h'
   |true=>
    rw[hpf,cond_true]at h';cases hE:iG o (rX k F1) Ma c t with
    |f=>rw[hE]at h';cases(show(none:Option DS)=some _ from h')
    |k v Mr cr=>
     rw[hE,qz]at h';cases hck:(bN Mr F1&&cW F1 Mr (p.filter fun x=> !testBit mask x.1))with
     |false=>rw[hck]at h';cases h'
     |true=>
      rw[hck,cond_true,Tr.force_eq,Tr.force_eq]at h';injection h' with h';injection h' with e1 e2 e3 e4 e5
      subst e1 e2 e3 e4 e5;rw[aJ]at hck;have hro:=w7 _ hck.1;have hpa:=mi _ hck.2;have hpb:=mi _ hpf
      have hmem:∀q:Nat×Nat×bz,q∈p.filter (fun x=> !testBit mask x.1)↔q∈p∧testBit mask q.1=false:=by
       intro q;rw[List.mem_filter];simp
      have hun:=o5 (fun b=>Mm.get b) news Mr hP.was
      have hnoF:∀b,(∀blk x,(x,b,blk)∉p.filter fun x=> !testBit mask x.1)→gU (p.filter fun x=> !testBit mask x.1) b=none:=by
       intro b hb;cases hp:gU (p.filter fun x=> !testBit mask x.1) b with
       |none=>rfl
       |some blk=>obtain⟨j,hj⟩:=ly hp;exact absurd hj (hb blk j)
      have hnone:∀b,(Ma.get b≠none∨aZ F1 b≠none)→gU (p.filter fun x=> !testBit mask x.1) b=none:=by
       intro b hb;refine hnoF b fun blk x hx=>?_;obtain⟨g1,g2⟩:=ou (hpb x b blk hx);rcases hb with hb|hb
       ·exact hb g1
       ·exact hb g2
      have hm:∀b,(sv t M c p).m b=(gU (p.filter fun x=> !testBit mask x.1) b).or (Mm.get b):=fun b=>(hmget b).symm;refine⟨⟨i,mask,.mk dst (.e o) g,.ef v Ma F1 Mr c cr⟩,rfl,px.2 ⟨⟨hw,rfl,o,rfl,⟨hE,?_,?_,?_⟩⟩,?_⟩,⟨?_,?_,?_⟩,?_,⟨?_,?_,?_,?_⟩,?_⟩
      ·intro b blk hb;rw[hm b,hnone b (.inl (by rw[hb];exact(fun h=>by cases h)))];rcases hP.get b with hg|hg
       ·rw[hg.1]at hb;cases hb
       ·show Mm.get b=some blk;rw[←hg.1];exact hb
      ·intro b blk hb;have hb':=hb;rw[hP.ro]at hb';rcases zI hb' with hn|hF
       ·left;refine⟨?_,?_⟩
        ·rw[hm b,hnone b (.inr (by rw[hb];exact(fun h=>by cases h)))];exact hP.was b blk hn
        ·rcases hP.get b with hg|hg
         ·exact hg.1
         ·exact absurd ⟨blk,hn⟩ hg.2
       ·exact .inr hF
      ·intro b hb;obtain⟨blk,hblk⟩:=bn.1 hb;refine hro b blk ?_;rw[hP.ro];exact List.mem_append_right _ (KG hblk)
      ·show SS.mk _ _ _=SS.mk _ _ _
       congr 1
       funext b
       show(gU (p.filter fun x=> !testBit mask x.1) b).or ((bO news Mr).get b)=ej Ma Mr (sv t M c p).m b;unfold ej;rw[hm b];cases hpg:gU (p.filter fun x=> !testBit mask x.1) b with
       |some blk=>
        obtain⟨j,hj⟩:=ly hpg;rw[ac ⟨(ou (hpb j b blk hj)).1,by simp⟩];rfl
       |none=>
        show(bO news Mr).get b=if Ma.get b=none∧Mm.get b≠none then Mm.get b else Mr.get b
        rcases hun b with hu|hu
        ·rw[hu.2];obtain⟨blk,hn⟩:=hu.1;have h1:=hP.was b blk hn;rcases hP.get b with hg|hg
         ·rw[ac ⟨hg.1,by rw[h1];exact(fun h=>by cases h)⟩]
         ·exact absurd ⟨blk,hn⟩ hg.2
        ·rw[hu.2,ab];rintro⟨g1,g2⟩;rcases hP.get b with hg|hg
         ·exact hu.1 hg.2
         ·rw[hg.1]at g1;exact g2 g1
      ·intro j b blk hj;exact hI.nm j b blk ((hmem _).1 hj).1
      ·exact hI.nd.sublist List.filter_sublist
      ·intro j b blk hj;obtain⟨g1,g2⟩:=ou (hpa j b blk hj);rw[hP.ro]at g2;obtain⟨g3,g4⟩:=qY g2;refine zm ?_ g3;rcases hun b with hu|hu
       ·exact absurd hu.1 g4
       ·rw[hu.2];exact g1
      ·intro q hq;exact .inr ⟨q,((hmem _).1 hq).1,rfl⟩
      ·intro x b hx ht v M1 F1' M' ct ct' e;injection e with e1 e2 e3 e4 e5 e6
       subst e2;exact hP.rd x b hx ht
      ·intro x b hx v blk e;cases e
      ·intro x b blk hx ht v M1 F1' M' ct ct' e;injection e with e1 e2 e3 e4 e5 e6
       subst e2 e3;exact ou (hpb x b blk ((hmem _).2 ⟨hx,ht⟩))
      ·intro x b blk hx ht v b' e;cases e
      ·intro y hp hy;obtain⟨f1,f2,f3⟩:=pT hp;have f4:testBit y.mask i=true∧Nat.lor mask y.mask=y.mask:=by
        rcases f3 with f3|f3
        ·exact f3
        ·have:=(t6 f3.2).1;cases(show true=false from this)
       refine⟨⟨hy.r1,hy.r2,?_,?_⟩,⟨f1,f2,.inl f4.1⟩⟩
       ·intro x b blk hx ht;refine hy.p1 x b blk ((hmem _).2 ⟨hx,?_⟩) ht;cases htm:testBit mask x with
        |false=>rfl
        |true=>rw[tq f4.2 htm]at ht;cases ht
       ·intro x b blk hx ht;refine hy.p2 x b blk ((hmem _).2 ⟨hx,?_⟩) ht;cases htm:testBit mask x with
        |false=>rfl
        |true=>rw[tq f4.2 htm]at ht;cases ht
theorem uW:∀(C:List (Nat×Nat×CO)) (t:T) (M:Mem) (c:Nat) (p:List (Nat×Nat×bz)) (reads:List (Nat×Nat)) (t':T) (M':Mem) (c':Nat) (p':List (Nat×Nat×bz)) (reads':List (Nat×Nat)),
 jo k base C (.mk t M c p reads)=some (.mk t' M' c' p' reads')→uh C=true→Ca base k.F M p→(∀q∈p,∀h∈C,q.1≠h.1)→
 ∃L:List ip,L.map ip.trip=C∧sG k base k.F L (sv t M c p) (sv t' M' c' p')∧L.Pairwise (ux base)∧Ca base k.F M' p'∧ ∀y∈L,yx base p reads y
 |[],t,M,c,p,reads,t',M',c',p',reads',h,_,hI,_=>by
  have h':some (DS.mk t M c p reads)=some (.mk t' M' c' p' reads'):=h;injection h' with h';injection h' with e1 e2 e3 e4 e5
  subst e1 e2 e3 e4 e5;exact⟨[],rfl,rfl,.nil,hI,fun y hy=>by cases hy⟩
 |(i,mask,co)::C,t,M,c,p,reads,t',M',c',p',reads',h,hp,hI,hn=>by
  rw[jo]at h;cases hs:wJ k base (i,mask,co) (.mk t M c p reads)with
  |none=>rw[hs]at h;cases h
  |some s1=>
   obtain⟨t1,M1,c1,p1,reads1⟩:=s1;rw[hs]at h;simp only[uh,aJ]at hp;obtain⟨l,hl,hT,hI1,hsub,hpast,hrest⟩:=Uq hI (fun q hq=>hn q hq _ (bh ..)) hs;have hpair:=fun y hy=>qR hp.1 y hy
   obtain⟨L,hL,hC,hPW,hI',hPO⟩:=uW C t1 M1 c1 p1 reads1 t' M' c' p' reads' h hp.2 hI1 (by
    intro q hq y hy;rcases hsub q hq with e|⟨q',hq',e⟩
    ·rw[e];exact(pT (hpair y hy)).2.1
    ·rw[←e];exact hn q' hq' y (bc _ hy))
   have hyC:∀y∈L,y.trip∈C:=fun y hy=>by rw[←hL];exact List.mem_map_of_mem hy
   refine⟨l::L,by rw[List.map_cons,hl,hL],⟨_,hT,hC⟩,List.pairwise_cons.2 ⟨fun y hy=>(hrest y (hpair _ (hyC y hy)) (hPO y hy)).2,hPW⟩,hI',?_⟩;intro y hy;rcases bj.1 hy with rfl|hy
   ·exact hpast
   ·exact(hrest y (hpair _ (hyC y hy)) (hPO y hy)).1
end
end
end Go.Proofs.YtkcelmimbmbfkaaGreatDoor.Ev
