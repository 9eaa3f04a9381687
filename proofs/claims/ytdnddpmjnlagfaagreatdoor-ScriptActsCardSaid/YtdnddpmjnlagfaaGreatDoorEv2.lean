/- What is proved here: pieces of the evaluator's soundness: if the evaluator comes to a value, the model's run comes to it, for every world and tape; no conditions beyond the hypotheses of each theorem. -/
import Derived.Test.YtdnddpmjnlagfaaGreatDoorEv1
import Derived.Lib.UnsafeStr
import Derived.RangeFuncRecord
import Derived.LoopNIn
import Derived.RangeFuncNested
import Derived.OrdersIn
set_option linter.unusedSimpArgs false
set_option linter.unusedVariables false
set_option linter.defProp false
namespace Go.Proofs.YtdnddpmjnlagfaaGreatDoor.Ev
open Go
noncomputable section
section
variable{P:Program}{E:cE}{F:RO}{M:Mem}{c:Nat→Prop}{w:World}{t:T}{a:Act}
theorem tD.op{o:Oper}{cl:Call}{b:Builtin}(hop:o.op= .call cl)(hb:cl.callee= .builtin b){l:List Operand}(hl:cl.args.toList=l){s:Sem Value}{v:V}{M':Mem}{ct ct':Nat}
 (he:∀fs,builtin b cl.argTypes o.type fs (l.map a.eval).toArray=(s>>=fun v=>pure (Next.value v))) (h:tD P F E M c ct w s v M' ct'):DA P F E M c ct w a o v M' ct':=by
 obtain⟨E',w',c',hr,hS,hb',hG⟩:=h
 exact⟨E',w',.value (conc E' v),c',bJ hop hb hl (by rw[he];exact aG hr),.inl rfl,hS,hb',hG⟩
theorem Cf(h:Cx P E F M c w t a){ct:Nat}(hf:fZ c ct){o:Oper}{cl:Call}(hop:o.op= .call cl)(hb:cl.callee= .builtin .append){y z:Operand}(hargs:cl.args.toList=[y,z]){ty e:TypeId}(hat:cl.argTypes[0]?=some ty)(hzs:lx P cl.argTypes)
 (hu:P.underlying ty=some (.slice e)) {sz by_:Nat} (hsz:dR P e=some sz) (hby:Xp P e=some by_) (hpos:sz≠0) (hzo:zOk P e sz=true) {xx xy:X} (h1:aY y=some xx) (h2:aY z=some xy)
 {k:Kn} (hk:k.F=F) {v:V} {M':Mem} {ct':Nat} (he:gG (.app e sz by_ xx xy) k M ct t= .k v M' ct'):DA P F E M c ct w a o v M' ct':=by
 have he':pp k.F M ct e sz by_ (xx.ev t) (gd k.F M sz (xy.ev t))= .k v M' ct':=he
 rw[hk]at he'
 obtain⟨i,hi,rfl⟩:=zw hsz
 have hby':i.bytes=by_:=by
  unfold Xp at hby;rw[hi]at hby;simpa using hby
 subst hby'
 have e1:=h.ev h1
 have e2:=h.ev h2
 cases hs:gd F M i.size (xy.ev t)with
 |none=>rw[hs]at he';cases(show RC.f= .k v M' ct' from he')
 |some r=>
  obtain⟨n,new⟩:=r;rw[hs]at he';have he2:(bif bv new&&Nat.beq new.length (Nat.mul n i.size)then app F M ct e i.size i.bytes (xx.ev t) n new else .f)= .k v M' ct':=he';rw[bp]at he2;by_cases hc1:bv new=true
  ·by_cases hc2:new.length=n*i.size
   ·rw[hc1,ae (show new.length=Nat.mul n i.size from hc2)]at he2;have he3:app F M ct e i.size i.bytes (xx.ev t) n new= .k v M' ct':=he2;have:=ae3 (rty:=o.type) h hf hat hu hzs hi hpos hzo hs e1.2 hc1 hc2 he3;refine tD.op hop hb hargs (s:=Builtin.append_ cl.argTypes o.type #[conc E (xx.ev t),conc E (xy.ev t)]) (fun fs=>?_) this;simp only[builtin,List.map_cons,List.map_nil,e1.1,e2.1]
   ·rw[hc1,ag (show¬new.length=Nat.mul n i.size from hc2)]at he2;cases he2
  ·rw[Bool.not_eq_true]at hc1;rw[hc1]at he2;cases he2
theorem EH(h:Cx P E F M c w t a){sz n m:Nat}{y:V}{vs:List V}(hl:qE y=some m)(hn:n≤m)(hs:pm F M sz n y=some vs):
 (Builtin.lenOf (conc E y)).run P w= .ok m w∧(Builtin.firstCells sz n (conc E y)).run P w= .ok (aw E vs).toArray w∧fE c vs:=by
 unfold pm at hs
 split at hs
 ·rename_i m' x;obtain rfl:m'=m:=af hl;rw[bp]at hs;by_cases h1:sz=1
  ·rw[ae h1,cond_true]at hs;obtain rfl:=af hs;refine⟨by simp[conc,Builtin.lenOf,d8],?_,lI _ _⟩;simp only[conc,Builtin.firstCells,aA,jG]
   congr 1
   apply Array.ext';simp only[ba,Array.toList_map,ByteArray.data_extract,Array.toList_extract,List.extract_eq_take_drop,Nat.sub_zero,List.drop_zero]
   congr 1
   have e:=uX m' x;rw[←A1 n m' _ hn];show List.take n (bl m' x)=List.take n (bl m' (x%256^m'));rw[e]
  ·rw[ag h1]at hs;cases hs
 ·rename_i y' hne;obtain⟨⟨vs',r⟩,hr,rfl⟩:=b9.1 hs;obtain⟨⟨ad,len,cap,hcv,hld⟩,hb,_⟩:=h.readL hr;rcases iy (E:=E) hl with⟨ad',cap',hcv'⟩|⟨x,hx⟩
  ·rw[hcv]at hcv';injection hcv' with e1 e2 e3
   subst e1 e2 e3;rw[hcv];refine⟨by simp[Builtin.lenOf],?_,hb⟩;cases ad with
   |none=>simp only at hld;subst hld;simp[Builtin.firstCells,aw]
   |some ad=>simp only[Builtin.firstCells];exact hld
  ·exact absurd hx (hne _ _)
theorem OA(w:World){y:V}{m:Nat}(hl:qE y=some m):(Builtin.lenOf (conc E y)).run P w= .ok m w:=by
 rcases iy (E:=E) hl with⟨ad,cap,h⟩|⟨x,rfl⟩
 ·rw[h];simp[Builtin.lenOf]
 ·simp[conc,Builtin.lenOf,d8]
theorem bc6(h:Cx P E F M c w t a){o:Oper}{cl:Call}(hop:o.op= .call cl)(hb:cl.callee= .builtin .copy){y z:Operand}(hargs:cl.args.toList=[y,z]){ty e:TypeId}(hat:cl.argTypes[0]?=some ty)
 (hu:P.underlying ty=some (.slice e)) {sz:Nat} (hsz:dR P e=some sz) {xx xy:X} (h1:aY y=some xx) (h2:aY z=some xy)
 {k:Kn} (hk:k.F=F) {v:V} {M':Mem} {ct ct':Nat} (he:gG (.cpy sz xx xy) k M ct t= .k v M' ct'):DA P F E M c ct w a o v M' ct':=by
 have he':Cg sz xx xy k.F M ct t= .k v M' ct':=he
 rw[hk]at he'
 have e1:=h.ev h1
 have e2:=h.ev h2
 unfold Cg at he'
 split at he'
 ·cases he'
 ·rename_i x hne;unfold XO at he';split at he'
  ·rename_i dn sn hd hs;rw[aN,bL]at he';have hmin:(bif decide (sn≤dn)then sn else dn)=Nat.min sn dn:=by
    by_cases hh:sn≤dn
    ·rw[ae hh,cond_true];exact(Nat.min_eq_left hh).symm
    ·rw[ag hh,cond_false];exact(Nat.min_eq_right (by omega)).symm
   rw[hmin,bp]at he';rcases iy (E:=E) hd with⟨ad,cap,hcx⟩|⟨x,hx⟩
   case inr=>exact absurd hx (hne _ _)
   refine tD.op hop hb hargs (s:=Builtin.copy_ cl.argTypes o.type #[conc E (xx.ev t),conc E (xy.ev t)]) (fun fs=>by simp only[builtin,List.map_cons,List.map_nil,e1.1,e2.1]) ?_;have hlo:=OA (P:=P) (E:=E) w hs;by_cases h0:Nat.min sn dn=0
   ·rw[ae h0,cond_true]at he';injection he' with g1 g2 g3
    subst g1 g2 g3;refine⟨E,w,c,?_,.refl h.rel,trivial,.refl _ _⟩;have hfc:(Builtin.firstCells sz 0 (conc E (xy.ev t))).run P w= .ok #[] w:=by
     rcases iy (E:=E) hs with⟨ad',cap',hcy⟩|⟨x,hx⟩
     ·rw[hcy];cases ad'<;>simp[Builtin.firstCells,loadCells,loadCellsFrom]
     ·rw[hx];simp[conc,Builtin.firstCells]
    rw[hcx];cases ad<;>simp[Builtin.copy_,hat,ay hu,hlo,h0,dF hsz,hfc,storeCells,conc,goInt]
   ·rw[ag h0,cond_false]at he';cases hsrc:pm F M sz (Nat.min sn dn) (xy.ev t)with
    |none=>rw[hsrc]at he';cases(show RC.f= .k v M' ct' from he')
    |some vs=>
     rw[hsrc]at he';obtain⟨_,hfc,hbv⟩:=EH h hs (Nat.min_le_left _ _) hsrc;have fin:∀b off,conc E (xx.ev t)= .slice (some ⟨E.ρ b,E.β b+off,none⟩) dn cap→(match cC M b off vs with
      |some M=>RC.k (.i .i64 (.ofNat (Nat.min sn dn))) M ct
      |none=> .f)= .k v M' ct'→tD P F E M c ct w (Builtin.copy_ cl.argTypes o.type #[conc E (xx.ev t),conc E (xy.ev t)]) v M' ct':=by
      intro b off hcx' hg;split at hg
      ·rename_i M'' hst;injection hg with g1 g2 g3
       subst g1 g2 g3;obtain⟨w',hrun,hS⟩:=h.store hst hbv;refine⟨E,w',c,?_,hS,trivial,.refl _ _⟩;rw[hcx'];simp[Builtin.copy_,hat,ay hu,hlo,dF hsz,hfc,hrun,conc,goInt]
      ·cases hg
     cases hv:xx.ev t with
     |l b off len cp=>
      rw[hv]at he' hcx fin;have hcx':Value.slice (some ⟨E.ρ b,E.β b+off,none⟩) len cp= .slice ad dn cap:=hcx;injection hcx' with q1 q2 q3
      subst q1 q2 q3;exact fin b off rfl he'
     |u b off len el kn=>
      rw[hv]at he' hcx fin;have hcx':Value.slice (some ⟨E.ρ b,E.β b+off,none⟩) len (kn-el+E.κ b)= .slice ad dn cap:=hcx;injection hcx' with q1 q2 q3
      subst q1 q2 q3;exact fin b off rfl he'
     |_=>rw[hv]at he';cases(show RC.f= .k v M' ct' from he')
  ·cases he'
theorem yg(E:cE)(z:Array Value)(zs:List V)(hz:z=(aw E zs).toArray)(n:Nat):(Builtin.zeroCells z n).toList=aw E (wy zs n):=by
 subst hz
 have hsz:(aw E zs).length=zs.length:=by simp[aZ]
 by_cases h0:zs.length=0
 ·have hz0:zs=[]:=List.eq_nil_of_length_eq_zero h0;subst hz0;have:∀n,wy [] n=[]:=by intro n;induction n with|zero=>rfl|succ n ih=>simp[wy,ih]
  rw[this];simp[Builtin.zeroCells,aw]
 ·induction n with
  |zero=>simp[Builtin.zeroCells,wy,aw]
  |succ n ih=>
   rw[wy,aZ E (zs++wy zs n),List.map_append,←aZ,←aZ,←ih];apply List.ext_getElem?;intro i;simp only[Builtin.zeroCells,Array.toList_map,Array.toList_range,List.getElem?_map,List.size_toArray,hsz];by_cases hi:i<zs.length
   ·rw[List.getElem?_append_left (by omega),List.getElem?_range (by rw[Nat.succ_mul];omega)];simp only[Option.map_some,Nat.mod_eq_of_lt hi];rw[List.getElem?_eq_getElem (by omega)];simp[hsz,hi]
   ·rw[List.getElem?_append_right (by omega),hsz,List.getElem?_map];by_cases h2:i<(n+1)*zs.length
    ·rw[List.getElem?_range h2,List.getElem?_range (by rw[Nat.succ_mul]at h2;omega)];simp only[Option.map_some];have:(i-zs.length)%zs.length=i%zs.length:=(Nat.mod_eq_sub_mod (by omega)).symm;rw[this]
    ·rw[List.getElem?_eq_none (by simp;omega),List.getElem?_eq_none (by rw[Nat.succ_mul]at h2;simp;omega)]
theorem ao8{zs:List V}(h:fE c zs)(n:Nat):fE c (wy zs n):=by
 induction n with
 |zero=>exact trivial
 |succ n ih=>
  rw[kq]at *;intro v hv;rw[wy,List.mem_append]at hv;rcases hv with hv|hv
  ·exact h v hv
  ·exact ih v hv
theorem ah8(h:Cx P E F M c w t a){o:Oper}{cl:Call}(hop:o.op= .call cl)(hb:cl.callee= .builtin .clear){y:Operand}(hargs:cl.args.toList=[y]){ty e:TypeId}(hat:cl.argTypes[0]?=some ty)
 (hu:P.underlying ty=some (.slice e)) {z:V} (hz:my P e=some z) {xx:X} (h1:aY y=some xx)
 {k:Kn} {v:V} {M':Mem} {ct ct':Nat} (he:gG (.clr (aT z) xx) k M ct t= .k v M' ct'):DA P F E M c ct w a o v M' ct':=by
 have he':L5 (aT z) xx k.F M ct t= .k v M' ct':=he
 have e1:=h.ev h1
 have hz':=gz (P:=P) (E:=E) (c:=c) (w:=w) hz
 have hcell:(conc E z).cells=(aw E (aT z)).toArray:=by rw[bX,cG]
 have hbd:fE c (aT z):=by rw[cG];exact dT hz'.2
 refine tD.op hop hb hargs (s:=Builtin.clear_ cl.argTypes o.type #[conc E (xx.ev t)]) (fun fs=>by simp only[builtin,List.map_cons,List.map_nil,e1.1]) ?_
 have nothing:∀{ad:Option Addr} {cap:Nat},conc E (xx.ev t)= .slice ad 0 cap→RC.k undef M ct= .k v M' ct'→tD P F E M c ct w (Builtin.clear_ cl.argTypes o.type #[conc E (xx.ev t)]) v M' ct':=by
  intro ad cap hcx hg;injection hg with g1 g2 g3
  subst g1 g2 g3;refine⟨E,w,c,?_,.refl h.rel,trivial,.refl _ _⟩;rw[hcx];cases ad<;>simp[Builtin.clear_,hat,ay hu,conc,undef,aw]
 have fin:∀b off n cap,conc E (xx.ev t)= .slice (some ⟨E.ρ b,E.β b+off,none⟩) n cap→ag7 M ct b off n (aT z)= .k v M' ct'→tD P F E M c ct w (Builtin.clear_ cl.argTypes o.type #[conc E (xx.ev t)]) v M' ct':=by
  intro b off n cap hcx hg;unfold ag7 at hg;rw[bp]at hg;by_cases h0:n=0
  ·subst h0;rw[ae rfl,cond_true]at hg;exact nothing hcx hg
  ·rw[ag h0,cond_false]at hg;cases hst:cC M b off (wy (aT z) n)with
   |none=>rw[hst]at hg;cases(show RC.f= .k v M' ct' from hg)
   |some M2=>
    rw[hst]at hg;have hg':RC.k undef M2 ct= .k v M' ct':=hg;injection hg' with g1 g2 g3
    subst g1 g2 g3;obtain⟨w',hrun,hS⟩:=h.store hst (ao8 hbd n);refine⟨E,w',c,?_,hS,trivial,.refl _ _⟩;rw[hcx];have hzc:=yg E _ _ hcell n;obtain⟨m,rfl⟩:∃m,n=m+1:=⟨n-1,by omega⟩
    simp[Builtin.clear_,hat,ay hu,hz'.1,hzc,hrun,conc,undef,aw]
 unfold L5 at he'
 split at he'
 ·rename_i hv;exact nothing (ad:=none) (cap:=0) (by rw[hv];rfl) he'
 ·rename_i b o0 off hv;exact nothing (by rw[hv];rfl) he'
 ·rename_i b off n cp hv;exact fin b off n cp (by rw[hv];rfl) he'
 ·rename_i b off n el kn hv;exact fin b off n _ (by rw[hv];rfl) he'
 ·cases he'
theorem Fg{e:TypeId}(hc:P.cellsOf e=1)(count off n:Nat)(hn:off+n≤count):liesAt P P.depth e count off e n=true:=by
 have hd:P.depth=(2*(P.types.size+Made.depth)+1)+1:=rfl
 rw[hd]
 simp only[liesAt,Bool.or_eq_true]
 left
 rw[hd]
 simp[rowAt,hc,hn,sameLayout,Nat.mod_one]
theorem Ab{b o n:Nat}{M':Mem}(h:jp M b o n=some M'):∃ty m ex fz d cs,M.get b=some (.cells ty m ex fz false d cs)∧M'=M.set b (.cells ty m ex (if fz≤o+n then o+n else fz) false d cs):=by
 unfold jp at h
 split at h
 ·rename_i ty m ex fz str d cs hM;cases str with
  |true=>cases h
  |false=>
   rw[cond_false,aN,bL]at h;obtain rfl:=af h;refine⟨_,_,_,_,_,_,hM,?_⟩
   congr 2
   by_cases hh:fz≤o+n
   ·rw[ae (show fz≤Nat.add o n from hh),ac hh];rfl
   ·rw[ag (show¬fz≤Nat.add o n from hh),ab hh];rfl
 ·cases h
theorem oO(r:Nat):∀(ns:List Nat) (off:Nat) (acc:ByteArray),(∀j (hj:j<ns.length),w.cell? ⟨r,off+j,none⟩=some (.int .u8 (ns[j]:Int)))→
 (loadBytes ⟨r,off,none⟩ acc ns.length).run P w= .ok ⟨acc.data++(ns.map fun c=>UInt8.ofNat c).toArray⟩ w
 |[],off,acc,_=>by simp[loadBytes]
 |x::l,off,acc,h=>by
  have h0:w.cell? ⟨r,off,none⟩=some (.int .u8 (x:Int)):=h 0 (by simp)
  have ih:=oO r l (off+1) (acc.push x.toUInt8) (fun j hj=>by
   have:=h (j+1) (by simpa using hj);rw[show off+1+j=off+(j+1) by omega]
   simpa using this)
  simp only[aX,loadBytes,aE,run_load,h0,Result.andThen,Int.toNat_natCast,Addr.add_eq];rw[ih]
  congr 1
  apply ByteArray.ext;simp[ByteArray.push]
theorem ZB{ats:Array TypeId}{rty pt:TypeId}(hat:ats[0]?=some pt)(p:Option Addr)(k:IntKind):(Builtin.unsafeString_ ats rty #[.pointer p,.int k 0]).run P w= .ok (.string .empty) w:=by
 have hmax:IntKind.i64.max=9223372036854775807:=rfl
 conv=>lhs;arg 2;whnf
 cases p<;>simp[asInt,asIntOf,hmax,hat]
theorem ar3{ats:Array TypeId}{rty pt e:TypeId}(hat:ats[0]?=some pt)(hu:P.underlying pt=some (.pointer e))(ad:Addr)(k:IntKind){n:Nat}(h0:n≠0)(hn:n≤1099511627776)(hv:(variablesAt ad e n).run P w= .ok true w){s:ByteArray}(hl:(loadBytes ad .empty n).run P w= .ok s w):
 (Builtin.unsafeString_ ats rty #[.pointer (some ad),.int k n]).run P w= .ok (.string s) (w.freeze ad n):=by
 have hmax:IntKind.i64.max=9223372036854775807:=rfl
 have h1:¬((n:Int)<0):=by omega
 have h2:¬((9223372036854775807:Int)<(n:Int)):=by omega
 have h3:¬((n:Int)=0):=by omega
 conv=>lhs;arg 2;whnf
 simp[asInt,asIntOf,hmax,hat,h1,h2,h3,h0,elemOf,ay hu,hv,hl,run_freeze]
theorem vr(h:Cx P E F M c w t a){o:Oper}{cl:Call}(hop:o.op= .call cl)(hb:cl.callee= .builtin .unsafeString){y z:Operand}(hargs:cl.args.toList=[y,z]){pt e:TypeId}(hat:cl.argTypes[0]?=some pt)
 (hu:P.underlying pt=some (.pointer e)) (hsz:dR P e=some 1) {xx xy:X} (h1:aY y=some xx) (h2:aY z=some xy)
 {k:Kn} (hk:k.F=F) {v:V} {M':Mem} {ct ct':Nat} (he:gG (.us e xx xy) k M ct t= .k v M' ct'):DA P F E M c ct w a o v M' ct':=by
 have he':XR e xx xy k.F M ct t= .k v M' ct':=he
 rw[hk]at he'
 have e1:=h.ev h1
 have e2:=h.ev h2
 have hmax:IntKind.i64.max=9223372036854775807:=rfl
 unfold XR at he'
 split at he'
 ·rename_i n hn;obtain⟨ik,hy⟩:=iQ hn;rw[hy]at e2;refine tD.op hop hb hargs (s:=Builtin.unsafeString_ cl.argTypes o.type #[conc E (xx.ev t),.int ik n]) (fun fs=>by simp only[builtin,List.map_cons,List.map_nil,e1.1,e2.1,conc]) ?_;have hz:(conc E (.s 0 0))= .string .empty:=by simp only[conc];rfl
  split at he'
  ·rename_i hv;rw[bp]at he';by_cases h0:n=0
   ·subst h0;rw[ae rfl,cond_true]at he';injection he' with g1 g2 g3
    subst g1 g2 g3;refine⟨E,w,c,?_,.refl h.rel,trivial,.refl _ _⟩;rw[hv,hz];exact ZB hat none ik
   ·rw[ag h0]at he';cases he'
  ·rename_i b off hv;unfold yA at he';rw[bp]at he';by_cases h0:n=0
   ·subst h0;rw[ae rfl,cond_true]at he';injection he' with g1 g2 g3
    subst g1 g2 g3;refine⟨E,w,c,?_,.refl h.rel,trivial,.refl _ _⟩;rw[hv,hz];exact ZB hat _ ik
   ·rw[ag h0,cond_false,bL]at he';cases hty:FX M b e with
    |false=>rw[hty]at he';cases he'
    |true=>
     by_cases hnb:n≤1099511627776
     ·rw[hty,ae hnb]at he';simp only[Bool.and_self,cond_true]at he';split at he'
      ·rename_i vs hld;unfold yB at he';split at he'
       ·rename_i n' s hbv;split at he'
        ·rename_i M'' hfz;rw[aN,aN]at he';injection he' with g1 g2 g3
         subst g1 g2 g3;obtain⟨ty,m,ex,fz,d,cs,hM,rfl⟩:=Ab hfz;obtain⟨arr,fr,ho,hr⟩:=h.cells (aq hM);have hte:ty=e:=by
          unfold FX at hty;rw[hM]at hty;simp only[bp]at hty;exact bc hty
         subst hte;have hl:=h.loadN hld;obtain⟨ns,rfl,rfl,hbb⟩:=mT _ _ _ hbv;have hnl:ns.length=n:=by simpa using hl.2.2
         have hcells:∀j (hj:j<ns.length),w.cell? ⟨E.ρ b,E.β b+off+j,none⟩=some (.int .u8 (ns[j]:Int)):=by
          intro j hjn;obtain⟨ty',m',ex',fz',str',d',cs',hb',hg⟩:=gK (f:=none) hld (by simp);rw[aq hM]at hb';injection hb' with hb'
          injection hb' with q1 q2 q3 q4 q5 q6 q7
          subst q2 q6 q7;have hcell:=(ku _ _ _ hg).2 j (.i .u8 (.ofNat ns[j])) (by simp[hjn]);have:=hr.cell _ _ hcell;simp only[World.cell?,ho,Option.isSome_none,aS,if_false];rw[Nat.add_assoc,this];rfl
         have hsize:E.β b+off+n≤arr.size:=by
          have:=hcells (n-1) (by omega);simp only[World.cell?,ho,Option.isSome_none,aS,if_false]at this;have:=(Array.getElem?_eq_some_iff.1 this).1;omega
         have hlb:=oO (P:=P) (w:=w) (E.ρ b) ns (E.β b+off) .empty hcells
         have hba:(⟨ByteArray.empty.data++(ns.map fun c=>UInt8.ofNat c).toArray⟩:ByteArray)=ba ns.length s:=by
          unfold ba;rw[hbb];apply ByteArray.ext;simp
         rw[hba]at hlb;have hco:=jJ hsz;have hva:(variablesAt ⟨E.ρ b,E.β b+off,none⟩ ty n).run P w= .ok true w:=by
          have hsh:w.shape? (E.ρ b)=some (ty,arr.size):=by simp[World.shape?,ho]
          simp[variablesAt,run_shape,hsh,hco,Fg hco arr.size (E.β b+off) n hsize]
         subst hnl;have hrun:=ar3 (w:=w) (rty:=o.type) hat hu ⟨E.ρ b,E.β b+off,none⟩ ik h0 hnb hva hlb
         have hfw:w.freeze ⟨E.ρ b,E.β b+off,none⟩ ns.length={w with heap:=w.heap.setIfInBounds (E.ρ b) (.cells arr ty (if fr.1==fr.2 then(E.β b+off,E.β b+off+ns.length)else(min fr.1 (E.β b+off),max fr.2 (E.β b+off+ns.length))))}:=by
          unfold World.freeze;rw[ab h0,rU _ ho]
         rw[hfw]at hrun;generalize hnf:(if fr.1==fr.2 then(E.β b+off,E.β b+off+ns.length)else(min fr.1 (E.β b+off),max fr.2 (E.β b+off+ns.length)))=nf at hrun;refine⟨E,{w with heap:=w.heap.setIfInBounds (E.ρ b) (.cells arr ty nf)},c,?_,h.rel.write b _ _ hM (.cells arr ty nf) ?_ {w with heap:=w.heap.setIfInBounds (E.ρ b) (.cells arr ty nf)} rfl rfl rfl rfl ?_,trivial,.refl _ _⟩
         ·rw[hv];exact hrun
         ·exact(h.rel.has _ _ (aq hM)).2.1
         ·subst hnf;have hhi:(if fr.1==fr.2 then(E.β b+off,E.β b+off+ns.length)else(min fr.1 (E.β b+off),max fr.2 (E.β b+off+ns.length))).2≤E.β b+(if fz≤off+ns.length then off+ns.length else fz):=by
           by_cases hfe:fr.1=fr.2
           ·rw[ac (by simpa using hfe)];simp only;split<;>omega
           ·rw[ab (by simpa using hfe)];simp only;rcases hr.plain rfl with hp|⟨hp,hp'⟩
            ·exact absurd hp hfe
            ·split<;>omega
          refine⟨arr,_,rfl,⟨hr.cell,hr.size,fun k hk hk' hf=>?_,fun _=> .inr ⟨?_,hhi⟩⟩⟩
          ·have:=hf.2;omega
          ·split<;>omega
        ·cases he'
       ·cases he'
      ·cases he'
     ·rw[ag hnb,Bool.and_false]at he';cases he'
  ·cases he'
 ·cases he'
end
section
variable{P:Program}{E:cE}{F:RO}{M:Mem}{c:Nat→Prop}{w:World}{t:T}{a:Act}
theorem fO{r:Nat}{o:Obj}(h:w.heap[r]?=some o)(hn:∀x y z,o≠ .cells x y z):(getObj r).run P w= .ok o w:=by
 simp only[getObj,Sem.run,h]
theorem Xg{n s i:Nat}(h:i<n):((ba n s).get! i).toNat=s/256^i%256:=by
 have hb:=Er n s i h
 have:(ba n s).get! i=UInt8.ofNat (s/256^i%256):=by
  show(bl n s).toArray[i]! =_;simp[hb]
 rw[this]
 simp[UInt8.toNat_ofNat']
theorem ai1(h:Cx P E F M c w t a){o:Oper}{y:Operand}(hop:o.op= .next y true){x:X}(hx:aY y=some x){k:Kn}{v:V}{M':Mem}{ct ct':Nat}(he:gG (.nxs x) k M ct t= .k v M' ct'):DA P F E M c ct w a o v M' ct':=by
 have he':L8 x k.F M ct t= .k v M' ct':=he
 have e:=h.ev hx
 unfold L8 at he'
 split at he'
 ·rename_i b hv;rw[hv]at e;unfold yZ at he';split at he'
  ·rename_i n s pos hM;obtain⟨_,_,ob,hob,hβ,rfl⟩:=h.rel.has _ _ (aq hM);have hgo:=fO (P:=P) hob (by intros;simp);have hpt:a.eval y= .pointer (some ⟨E.ρ b,0,none⟩):=by rw[e.1];simp[conc,hβ]
   rw[dY]at he';by_cases hp:pos<n
   ·rw[ae hp,cond_true,aN,dY]at he';by_cases hch:s/256^pos%256<128
    ·rw[ae (show Nat.mod (Nat.div s (j8 pos)) 256<128 from hch),cond_true,aN,gh]at he';injection he' with g1 g2 g3
     subst g1 g2 g3;have hdec:Utf8.decode (ba n s) pos=(s/256^pos%256,1):=by
      have:=Xg (s:=s) hp;simp only[Utf8.decode,bT,this,ac hch]
     have hso:=gq (P:=P) (o':= .stringIter (ba n s) (pos+1)) hob (by intros;simp);refine⟨E,_,.value (.tuple #[.bool true,goInt pos,.int .i32 (s/256^pos%256:Nat)]),c,?_,.inl rfl,h.rel.write b _ (.siter n s (pos+1)) hM (.stringIter (ba n s) (pos+1)) trivial {w with heap:=w.heap.setIfInBounds (E.ρ b) (.stringIter (ba n s) (pos+1))} rfl rfl rfl rfl ⟨hβ,rfl⟩,⟨trivial,trivial,trivial,trivial⟩,.refl _ _⟩;simp only[execOp,hop];refine aG ?_;rw[hpt];simp only[Instr.next,aE,hgo,aI,d8,hp,if_true,hdec,hso,aA,Sem.run_ite]
    ·rw[ag (show¬Nat.mod (Nat.div s (j8 pos)) 256<128 from hch),cond_false]at he';unfold am2 at he';rw[aN,aN,gh]at he';injection he' with g1 g2 g3
     subst g1 g2 g3;have hso:=gq (P:=P) (o':= .stringIter (ba n s) (pos+(Utf8.decode (ba n s) pos).2)) hob (by intros;simp);refine⟨E,_,.value (.tuple #[.bool true,goInt pos,.int .i32 ((Utf8.decode (ba n s) pos).1:Nat)]),c,?_,.inl rfl,h.rel.write b _ (.siter n s (pos+(Utf8.decode (ba n s) pos).2)) hM (.stringIter (ba n s) (pos+(Utf8.decode (ba n s) pos).2)) trivial {w with heap:=w.heap.setIfInBounds (E.ρ b) (.stringIter (ba n s) (pos+(Utf8.decode (ba n s) pos).2))} rfl rfl rfl rfl ⟨hβ,rfl⟩,⟨trivial,trivial,trivial,trivial⟩,.refl _ _⟩;simp only[execOp,hop];refine aG ?_;rw[hpt];simp only[Instr.next,aE,hgo,aI,d8,hp,if_true,hso,aA,Sem.run_ite]
   ·rw[ag hp,cond_false]at he';injection he' with g1 g2 g3
    subst g1 g2 g3;refine⟨E,w,.value (.tuple #[.bool false]),c,?_,.inl rfl,.refl h.rel,⟨trivial,trivial⟩,.refl _ _⟩;simp only[execOp,hop];refine aG ?_;rw[hpt];simp only[Instr.next,aE,hgo,aI,d8,hp,if_false,aA,Sem.run_ite]
  ·cases he'
 ·cases he'
theorem XQ(h:Cx P E F M c w t a){ct:Nat}(hf:fZ c ct){o:Oper}{ty kt et:TypeId}{y:Operand}(hop:o.op= .range ty y)(hu:P.underlying ty=some (.map kt et)){x:X}(hx:aY y=some x){k:Kn}(hk:k.F=F){v:V}{M':Mem}{ct':Nat}(he:gG (.rgm x) k M ct t= .k v M' ct'):DA P F E M c ct w a o v M' ct':=by
 have he':L9 x k.F M ct t= .k v M' ct':=he
 rw[hk]at he'
 have e:=h.ev hx
 unfold L9 at he'
 split at he'
 ·rename_i hv;rw[aN,gh]at he';injection he' with g1 g2 g3
  subst g1 g2 g3;rw[hv]at e;obtain⟨E',hS,hE,hρ,hβ,_⟩:=h.rel.alloc (.miter none 0 [] 0) (.mapIter none 0 #[] 0) ct 0 (fun b=>c b∨b=ct) (hf ct (ah _)) (.inr rfl) (fun _ h=> .inl h) (fun b hb=>by cases hb) {w with heap:=w.heap.push (.mapIter none 0 #[] 0)} rfl rfl rfl rfl (fun E' _ _ hβ _=>⟨hβ,rfl⟩);refine⟨E',_,.value (conc E' (.p ct 0)),_,?_,.inl rfl,hS,.inr rfl,gc c ct⟩;simp only[execOp,hop];refine aG ?_;rw[e.1];simp[Instr.range,ay hu,conc,hρ,hβ]
 ·rename_i b hv;obtain⟨es,clock,hM,hg⟩:=qd he';rw[aN,gh]at hg;injection hg with g1 g2 g3
  subst g1 g2 g3;rw[hv]at e;obtain⟨ho,hbd⟩:=h.map hM;obtain⟨E',hS,hE,hρ,hβ,_⟩:=h.rel.alloc (.miter (some b) clock [] clock) (.mapIter (some (E.ρ b)) clock #[] clock) ct 0 (fun b=>c b∨b=ct) (hf ct (ah _)) (.inr rfl) (fun _ h=> .inl h) (fun b' hb'=>by cases hb';exact .inl e.2) {w with heap:=w.heap.push (.mapIter (some (E.ρ b)) clock #[] clock)} rfl rfl rfl rfl (fun E' he _ hβ _=>⟨hβ,by simp[he.ρ b e.2]⟩);refine⟨E',_,.value (conc E' (.p ct 0)),_,?_,.inl rfl,hS,.inr rfl,gc c ct⟩;simp only[execOp,hop];refine aG ?_;rw[e.1];simp[Instr.range,ay hu,conc,hρ,hβ,cA ho]
 ·cases he'
theorem vQ(seen:List Nat):∀es,qD seen es=es.filter fun e=> !seen.contains e.2.2
 |[]=>rfl
 |h::r=>by
  have:qD seen (h::r)=(bif rT h.2.2 seen then qD seen r else h::qD seen r):=rfl;rw[this,Am,vQ seen r,List.filter_cons];cases seen.contains h.2.2<;>rfl
theorem uP(since:Nat):∀es:List (V×V×Nat),uN since es=true→ ∀e∈es,e.2.2<since
 |[],_,e,he=>by cases he
 |h::r,ha,e,he=>by
  have h':(Nat.blt h.2.2 since&&uN since r)=true:=by rw[←ha];rfl
  rw[dY,aD]at h';cases he with
  |head=>exact bc h'.1
  |tail _ hm=>exact uP since r h'.2 e hm
theorem OL{ty r m:Nat}{esr left:List MapEntry}{clock since st:Nat}{seen:List Nat}(hr:w.heap[r]?=some (.mapIter (some m) since seen.toArray st))(hm:w.heap[m]?=some (.map esr.toArray clock))
 (hold:∀e∈esr,e.born<since) (hst:since≤st) (hl:esr.filter (fun e=> !seen.contains e.born)=left):
 (left=[]→(Instr.next (.pointer (some ⟨r,0,none⟩)) false ty).run P w= .ok (.tuple #[.bool false]) w)∧
 (∀e,left=[e]→(Instr.next (.pointer (some ⟨r,0,none⟩)) false ty).run P w= .ok (.tuple #[.bool true,e.key,e.val]) {w with heap:=w.heap.setIfInBounds r (.mapIter (some m) since (seen.toArray.push e.born) clock)}):=by
 have hgo:=fO (P:=P) hr (by intros;simp)
 have hgm:=cA (P:=P) hm
 have hc:(!seen.toArray.isEmpty&& !esr.toArray.isEmpty&&esr.toArray.all (fun e=>decide (e.born≥st)))=false:=by
  cases esr with
  |nil=>simp
  |cons h0 r0=>
   have:=hold h0 (by simp);simp;intro _ h1;omega
 have hleft:esr.toArray.filter (fun e=> !seen.toArray.contains e.born)=left.toArray:=by
  rw[List.filter_toArray',←hl]
  ·simp
  ·simp
 have hlold:∀e∈left,e.born<since:=by
  intro e he;rw[←hl]at he;exact hold e (List.mem_filter.1 he).1
 have h1:left.toArray.filter (fun e=>decide (e.born<since))=left.toArray:=by
  rw[List.filter_toArray' (by simp)]
  congr 1
  exact List.filter_eq_self.2 fun e he=>by simpa using hlold e he
 have h2:left.toArray.filter (fun e=>decide (e.born≥since))=#[]:=by
  rw[List.filter_toArray' (by simp)];rw[List.filter_eq_nil_iff.2];intro e he;have:=hlold e he;simp;omega
 constructor
 ·intro e0;subst e0;simp only[Instr.next,aE,hgo,hgm,aI,hc,aS,if_false,Sem.run_ite,aA,hleft,h1,h2];simp[Question.forced]
 ·intro e e0;subst e0;have hso:=gq (P:=P) (o':= .mapIter (some m) since (seen.toArray.push e.born) clock) hr (by intros;simp);simp only[Instr.next,aE,hgo,hgm,aI,hc,aS,if_false,Sem.run_ite,aA,hleft,h1,h2];simp only[List.push_toArray]at hso⊢;simp[Question.forced,hso]
theorem ai0(h:Cx P E F M c w t a){o:Oper}{y:Operand}(hop:o.op= .next y false){x:X}(hx:aY y=some x){k:Kn}(hk:k.F=F){v:V}{M':Mem}{ct ct':Nat}(he:gG (.nxm x) k M ct t= .k v M' ct'):DA P F E M c ct w a o v M' ct':=by
 have he':L7 x k.F M ct t= .k v M' ct':=he
 rw[hk]at he'
 have e:=h.ev hx
 unfold L7 at he'
 split at he'
 ·rename_i b hv;rw[hv]at e;unfold b04 at he';split at he'
  ·rename_i i1 i2 i3 hM;injection he' with g1 g2 g3
   subst g1 g2 g3;obtain⟨_,_,ob,hob,hβ,rfl⟩:=h.rel.has _ _ (aq hM);have hgo:=fO (P:=P) hob (by intros;simp);have hpt:a.eval y= .pointer (some ⟨E.ρ b,0,none⟩):=by rw[e.1];simp[conc,hβ]
   refine⟨E,w,.value (.tuple #[.bool false]),c,?_,.inl rfl,.refl h.rel,⟨trivial,trivial⟩,.refl _ _⟩;simp only[execOp,hop];refine aG ?_;rw[hpt];simp[Instr.next,hgo]
  ·rename_i m since seen st hM;obtain⟨_,hbb,ob,hob,hβ,rfl⟩:=h.rel.has _ _ (aq hM);have hgo:=fO (P:=P) hob (by intros;simp);have hpt:a.eval y= .pointer (some ⟨E.ρ b,0,none⟩):=by rw[e.1];simp[conc,hβ]
   obtain⟨es,clock,hm,hg⟩:=qd he';obtain⟨ho,hbd⟩:=h.map hm;have hgm:=cA (P:=P) ho;by_cases hal:uN since es=true
   ·by_cases hst:since≤st
    ·rw[hal,bL,ae hst]at hg;simp only[Bool.and_self,cond_true]at hg;have hold:=uP since es hal;have hold':∀e∈es.map (entry E),e.born<since:=by
      intro e' he';obtain⟨e0,h0,rfl⟩:=List.mem_map.1 he';exact hold e0 h0
     have hl:(es.map (entry E)).filter (fun e=> !seen.contains e.born)=(qD seen es).map (entry E):=by
      rw[vQ,List.filter_map];rfl
     have key:=OL (P:=P) (ty:=o.type) (r:=E.ρ b) (m:=E.ρ m) hob ho hold' hst hl;split at hg
     ·rename_i hle;injection hg with g1 g2 g3
      subst g1 g2 g3;refine⟨E,w,.value (.tuple #[.bool false]),c,?_,.inl rfl,.refl h.rel,⟨trivial,trivial⟩,.refl _ _⟩;simp only[execOp,hop];refine aG ?_;rw[hpt];exact key.1 (by rw[hle];rfl)
     ·rename_i k0 v0 born hle;rw[gh]at hg;injection hg with g1 g2 g3
      subst g1 g2 g3;have hin:(k0,v0,born)∈es:=by
       have:(k0,v0,born)∈qD seen es:=by rw[hle];simp
       rw[vQ]at this;exact(List.mem_filter.1 this).1
      refine⟨E,_,.value (.tuple #[.bool true,conc E k0,conc E v0]),c,?_,.inl rfl,h.rel.write b _ (.miter (some m) since (seen++[born]) clock) hM (.mapIter (some (E.ρ m)) since (seen.toArray.push born) clock) hbb {w with heap:=w.heap.setIfInBounds (E.ρ b) (.mapIter (some (E.ρ m)) since (seen.toArray.push born) clock)} rfl rfl rfl rfl ⟨hβ,by simp⟩,⟨trivial,(hbd _ hin).1,(hbd _ hin).2,trivial⟩,.refl _ _⟩;simp only[execOp,hop];refine aG ?_;rw[hpt];exact key.2 (entry E (k0,v0,born)) (by rw[hle];rfl)
     ·cases hg
    ·rw[hal,bL,ag hst]at hg;cases hg
   ·rw[Bool.not_eq_true]at hal;rw[hal]at hg;cases hg
  ·cases he'
 ·cases he'
end
section
variable{P:Program}{E:cE}{F:RO}{M:Mem}{c:Nat→Prop}{w:World}{t:T}{a:Act}
def EO.plain:EO→Bool
 | .call _ _| .cv _ _=>false
 |_=>true
theorem at0{α:Type}{x:Array α}{y:α}{l:List α}(h:x.toList=y::l):x[0]?=some y:=by rw[dO h];rfl
theorem at1{α:Type}{x:Array α}{y z:α}{l:List α}(h:x.toList=y::z::l):x[1]?=some z:=by rw[dO h];rfl
theorem cw5{α:Type}{x:Array α}{y:α}(h:x.toList=[y]):x[1]?=none:=by rw[dO h];rfl
theorem bP7(h:Cx P E F M c w t a){ct:Nat}(hf:fZ c ct){o:Oper}{eo:EO}(hc:aB P o.op=some (.e eo))(hp:eo.plain=true){k:Kn}(hk:k.F=F){v:V}{M':Mem}{ct':Nat}(he:gG eo k M ct t= .k v M' ct'):DA P F E M c ct w a o v M' ct':=by
 cases hop:o.op with
 |store ty y z=>exact ai3 h hop hc hk he
 |mapUpdate ty m y z=>exact sY h (.inl hop) hc hk he
 |insert ty m y z=>exact sY h (.inr hop) hc hk he
 |next y b=>
  rw[hop]at hc;cases b with
  |true=>
   obtain⟨x,hx,e⟩:=b9.1 hc;obtain rfl:EO.nxs x=eo:=by simpa using e
   exact ai1 h hop hx he
  |false=>
   obtain⟨x,hx,e⟩:=b9.1 hc;obtain rfl:EO.nxm x=eo:=by simpa using e
   exact ai0 h hop hx hk he
 |range ty y=>
  rw[hop]at hc;simp only[aB]at hc;split at hc
  ·cases hc
  ·rename_i kt et x hu hx;obtain rfl:EO.rgm x=eo:=by simpa using hc
   exact XQ h hf hop hu hx hk he
  ·cases hc
 |convert s d y=>
  rw[hop]at hc;simp only[aB]at hc;split at hc
  ·cases hc
  ·cases hc
  ·split at hc<;>cases hc
  ·split at hc<;>cases hc
  ·rename_i e0 el x h1 h2 hx;split at hc
   ·rename_i hcond;obtain rfl:EO.ms x=eo:=by simpa using hc
    rw[aD]at hcond;have hsd:s=d:=by simpa using hcond.1
    subst hsd;have hel:P.underlying el=some (.int .u8):=by
     have:=hcond.2;unfold Cy at this;split at this
     ·assumption
     ·cases this
    exact bc7 h hop h2 hel hx he
   ·cases hc
  ·split at hc<;>cases hc
  ·split at hc<;>cases hc
  ·cases hc
 |call cl=>
  rw[hop]at hc;simp only[aB]at hc;split at hc
  ·rename_i b' hcal;unfold eB at hc;split at hc
   ·split at hc<;>first|cases hc|(split at hc<;>cases hc)
   ·split at hc<;>cases hc
   ·rename_i y z ty t2 ts hargs htys;split at hc
    ·rename_i el x1 x2 hu h1 h2;split at hc
     ·rename_i sz by_ d hsz hby hd;split at hc
      ·cases hc
      ·rename_i hnd;split at hc
       ·cases hc
       ·rename_i hcond;obtain rfl:EO.app el sz by_ x1 x2=eo:=by simpa using hc
        rw[Bool.not_eq_true,Bool.or_eq_false_iff]at hcond;have hpos:sz≠0:=by simpa using hcond.1
        have hzo:zOk P el sz=true:=by simpa using hcond.2
        exact Cf h hf hop hcal hargs (at0 htys) (.inl ⟨t2,d,at1 htys,hd,fun k e=>hnd k e⟩) hu hsz hby hpos hzo h1 h2 hk he
     ·cases hc
    ·cases hc
   ·rename_i y z ty hargs htys;split at hc
    ·rename_i el x1 x2 hu h1 h2;split at hc
     ·rename_i sz by_ hsz hby;split at hc
      ·cases hc
      ·rename_i hcond;obtain rfl:EO.app el sz by_ x1 x2=eo:=by simpa using hc
       rw[Bool.not_eq_true,Bool.or_eq_false_iff]at hcond;have hpos:sz≠0:=by simpa using hcond.1
       have hzo:zOk P el sz=true:=by simpa using hcond.2
       exact Cf h hf hop hcal hargs (at0 htys) (.inr (cw5 htys)) hu hsz hby hpos hzo h1 h2 hk he
     ·cases hc
    ·cases hc
   ·rename_i y z ty ts hargs htys;split at hc
    ·rename_i el x1 x2 hu h1 h2;split at hc
     ·rename_i sz hsz;split at hc
      ·cases hc
      ·obtain rfl:EO.cpy sz x1 x2=eo:=by simpa using hc
       exact bc6 h hop hcal hargs (at0 htys) hu hsz h1 h2 hk he
     ·cases hc
    ·cases hc
   ·split at hc<;>cases hc
   ·split at hc<;>cases hc
   ·rename_i m y ty ts hargs htys;split at hc
    ·rename_i kt et xm xk hu h1 h2;obtain⟨sh,hks,e⟩:=b9.1 hc;obtain rfl:EO.del sh xm xk=eo:=by simpa using e
     exact XP h hop hcal hargs htys hu hks h1 h2 he
    ·cases hc
   ·rename_i y z ty ts hargs htys;split at hc
    ·rename_i el x1 x2 hu h1 h2;split at hc
     ·rename_i hcond;obtain rfl:EO.us el x1 x2=eo:=by simpa using hc
      rw[aD]at hcond;exact vr h hop hcal hargs (at0 htys) hu (by simpa using hcond.2) h1 h2 hk he
     ·cases hc
    ·cases hc
   ·obtain⟨z,_,e⟩:=aR.1 hc;cases e
   ·rename_i y ty ts hargs htys;split at hc
    ·rename_i el x1 hu h1;obtain⟨z,hz,e⟩:=b9.1 hc;obtain rfl:EO.clr (aT z) x1=eo:=by simpa using e
     exact ah8 h hop hcal hargs (at0 htys) hu hz h1 he
    ·cases hc
   ·cases hc
  ·rename_i f hcal;split at hc
   ·rename_i fn hf0;split at hc
    ·unfold gn at hc;split at hc
     ·cases hc
     ·split at hc
      ·split at hc
       ·split at hc<;>cases hc
       ·split at hc
        ·split at hc<;>cases hc
        ·split at hc
         ·split at hc<;>cases hc
         ·cases hc
      ·split at hc
       ·obtain⟨z,_,e⟩:=aR.1 hc;cases e
       ·split at hc
        ·split at hc
         ·split at hc
          ·split at hc<;>cases hc
          ·cases hc
         ·cases hc
        ·cases hc
      ·cases hc
    ·obtain⟨z,_,e⟩:=b9.1 hc;obtain rfl:EO.call f z=eo:=by simpa using e
     cases hp
   ·cases hc
  ·split at hc
   ·rename_i x xs h1 h2;obtain rfl:EO.cv x xs=eo:=by simpa using hc
    cases hp
   ·cases hc
  ·cases hc
 |alloc ty=>rw[hop]at hc;obtain⟨z,_,e⟩:=b9.1 hc;cases e
 |box ty y=>rw[hop]at hc;simp only[aB]at hc;split at hc<;>cases hc
 |buildSlice ty n ps=>
  rw[hop]at hc;simp only[aB]at hc;split at hc
  ·split at hc
   ·split at hc
    ·cases hc
    ·obtain⟨z,_,e⟩:=b9.1 hc;cases e
   ·cases hc
  ·cases hc
 |makeMap ty r=>
  cases r with
  |none=>rw[hop]at hc;cases hc
  |some z=>rw[hop]at hc;cases hc
 |makeSlice ty l k'=>
  rw[hop]at hc;simp only[aB]at hc;split at hc
  ·split at hc
   ·split at hc<;>cases hc
   ·cases hc
  ·cases hc
 |move y=>rw[hop]at hc;obtain⟨z,_,e⟩:=aR.1 hc;cases e
 |assign y=>rw[hop]at hc;obtain⟨z,_,e⟩:=aR.1 hc;cases e
 |pick p y z=>rw[hop]at hc;simp only[aB]at hc;split at hc<;>cases hc
 |build ty ps=>
  rw[hop]at hc;simp only[aB]at hc;split at hc
  ·split at hc
   ·obtain⟨z,_,e⟩:=aR.1 hc;cases e
   ·cases hc
  ·split at hc
   ·obtain⟨z,_,e⟩:=aR.1 hc;cases e
   ·cases hc
  ·cases hc
 |load ty y=>rw[hop]at hc;simp only[aB]at hc;split at hc<;>cases hc
 |nilCheck y=>rw[hop]at hc;obtain⟨z,_,e⟩:=aR.1 hc;cases e
 |binOp op ty y z ty'=>
  rw[hop]at hc;simp only[aB]at hc;split at hc
  ·cases hc
  ·cases hc
  ·split at hc
   ·obtain⟨z,_,e⟩:=aR.1 hc;cases e
   ·obtain⟨z,_,e⟩:=aR.1 hc;cases e
   ·cases hc
  ·cases hc
 |unOp op ty y=>rw[hop]at hc;obtain⟨z,_,e⟩:=aR.1 hc;cases e
 |makeInterface ty y=>rw[hop]at hc;simp only[aB]at hc;split at hc<;>cases hc
 |makeFunc fn l1 l2=>
  cases fn with
  |func f=>rw[hop]at hc;simp only[aB]at hc;split at hc<;>cases hc
  |_=>rw[hop]at hc;cases hc
 |slice ty y lo hi mx=>
  rw[hop]at hc;simp only[aB]at hc;split at hc
  ·split at hc
   ·split at hc<;>cases hc
   ·obtain⟨z,_,e⟩:=aR.1 hc;split at e<;>cases e
   ·obtain⟨z,_,e⟩:=aR.1 hc;split at e<;>cases e
   ·split at hc
    ·obtain⟨z,_,e⟩:=aR.1 hc;split at e<;>cases e
    ·cases hc
   ·cases hc
  ·cases hc
 |fieldAddr ty y f=>
  rw[hop]at hc;simp only[aB]at hc;split at hc
  ·split at hc
   ·split at hc<;>cases hc
   ·cases hc
  ·cases hc
 |field ty y f=>
  rw[hop]at hc;simp only[aB]at hc;split at hc
  ·split at hc
   ·split at hc<;>cases hc
   ·cases hc
  ·cases hc
 |indexAddr ty y i=>
  rw[hop]at hc;simp only[aB]at hc;split at hc
  ·obtain⟨z,_,e⟩:=aR.1 hc;cases e
  ·obtain⟨z,_,e⟩:=aR.1 hc;cases e
  ·cases hc
 |index ty y i=>
  rw[hop]at hc;simp only[aB]at hc;split at hc
  ·split at hc<;>cases hc
  ·cases hc
  ·cases hc
 |lookup ty y i ok=>
  rw[hop]at hc;simp only[aB]at hc;split at hc
  ·split at hc<;>cases hc
  ·cases hc
 |typeAssert y ty ty' ok=>rw[hop]at hc;simp only[aB]at hc;split at hc<;>cases hc
 |extract y i=>rw[hop]at hc;obtain⟨z,_,e⟩:=aR.1 hc;cases e
 |sliceToArrayPointer d y=>rw[hop]at hc;simp only[aB]at hc;split at hc<;>cases hc
 |_=>rw[hop]at hc;cases hc
end
def cP(E:cE)(rd:Option Nat):Fence:={fn:=fun _=>True,depth:=none,alive:=false,round:=rd.map E.ρ}
structure SR(P:Program)(F:RO)(rd:Option Nat)(nt:Nat)(E:cE)(c:Nat→Prop)(w:World)(a:Act)(t:T)(d:List Nat)(M:Mem)(ct:Nat):Prop where
 cx:Cx P E F M c w t a
 fr:fZ c ct
 df:a.defers=d.map fun b=>{target:= .collected (E.ρ b),args:=#[]}
 dc:∀b∈d,c b
 sz:nt≤a.tmps.size
 rd:∀l,rd=some l→c l
def PV(P:Program)(F:RO)(rd:Option Nat)(nt:Nat)(E:cE)(c:Nat→Prop)(w:World)(M:Mem)(ct:Nat)(t':T)(d':List Nat)(M':Mem)(ct':Nat)(a':Act)(w':World):Prop:=
 ∃E' c',lw P F E M c w E' M' c' w'∧j2 c ct c' ct'∧SR P F rd nt E' c' w' a' t' d' M' ct'
section
variable{P:Program}{E E':cE}{F:RO}{M M':Mem}{c c':Nat→Prop}{ct ct' nt:Nat}{w w':World}{t:T}{d:List Nat}{a:Act}{rd:Option Nat}
theorem Pf(t:T)(v:V):setT t none v=t:=rfl
theorem lh(t:T)(p:aH)(v:V):setT t (some p) v=t.setP p v:=rfl
theorem ul{p:aH}{v:V}(h:t.getP p=some v):cq t p=v:=by unfold cq;rw[h]
theorem yK{p:aH}(h:t.getP p=none):cq t p=undef:=by unfold cq;rw[h]
theorem Oq(t:T)(k j:Nat)(v:V):cq (t.setP (bk k) v) (bk j)=if j=k then v else cq t (bk j):=by
 have:=tQ t k j v
 by_cases h:j=k
 ·rw[ac h]at this⊢;exact ul this
 ·rw[ab h]at this⊢;unfold cq;rw[this]
theorem F4(t:T)(p q:aH)(v:V):cq (t.setP p v) q=v∨cq (t.setP p v) q=cq t q:=by
 by_cases h:q=p
 ·subst h;exact .inl (ul (Tr.getP_setP_same q v t))
 ·right;unfold cq;rw[Tr.getP_setP_ne p v q t h]
theorem zZ{dst:Option aH}{v:V}(h:Xh c t)(hv:bd c v):Xh c (setT t dst v):=by
 cases dst with
 |none=>exact h
 |some p=>
  intro q;rw[lh];rcases F4 t p q v with e|e
  ·rw[e];exact hv
  ·rw[e];exact h q
theorem uC{dst:Option Nat}{v:V}{val:Value}(h:rB E t a.tmps)(hd:∀k,dst=some k→k<a.tmps.size)(hv:val=conc E v):rB E (setT t (dst.map bk) v) (a.put dst val).tmps:=by
 cases dst with
 |none=>exact h
 |some k=>
  intro n;have hk:=hd k rfl;rw[Option.map_some,lh,Oq];show(a.tmps.setIfInBounds k val).getD n Go.undef=_;by_cases e:n=k
  ·subst e;rw[ac rfl,hv];simp[Array.getD_eq_getD_getElem?,hk]
  ·rw[ab e,←h n];simp[Array.getD_eq_getD_getElem?,Array.getElem?_setIfInBounds_ne (Ne.symm e)]
theorem Act.put_defers(a:Act)(dst:Option Tmp)(v:Value):(a.put dst v).defers=a.defers:=by cases dst<;>rfl
theorem Act.put_size(a:Act)(dst:Option Tmp)(v:Value):(a.put dst v).tmps.size=a.tmps.size:=by cases dst<;>simp[Act.put]
theorem SR.put(h:SR P F rd nt E c w a t d M ct){dst:Option Nat}(hd:sW nt dst=true){v:V}{val:Value}(hv:val=conc E v)(hb:bd c v):SR P F rd nt E c w (a.put dst val) (setT t (dst.map bk) v) d M ct:=by
 refine⟨⟨h.cx.rel,h.cx.glob,h.cx.big,uC h.cx.tr (fun k hk=>?_) hv,zZ h.cx.bt hb⟩,h.fr,by rw[Act.put_defers];exact h.df,h.dc,by rw[Act.put_size];exact h.sz,h.rd⟩
 subst hk
 have:k<nt:=by simpa [sW]using hd
 exact Nat.lt_of_lt_of_le this h.sz
theorem SR.stp(h:SR P F rd nt E c w a t d M ct)(hS:lw P F E M c w E' M' c' w')(hG:j2 c ct c' ct'):SR P F rd nt E' c' w' a t d M' ct':=by
 refine⟨⟨hS.rel,fun g hg=>?_,fun g hg=>hS.le g (h.cx.big g hg),h.cx.tr.ext hS.ext h.cx.bt,fun p=>dp hS.le _ (h.cx.bt p)⟩,h.fr.grow hG,?_,fun b hb=>hS.le b (h.dc b hb),h.sz,fun l hl=>hS.le l (h.rd l hl)⟩
 ·rw[hS.ext.ρ g (h.cx.big g hg),hS.ext.β g (h.cx.big g hg)];exact h.cx.glob g hg
 ·rw[h.df];apply List.map_congr_left;intro b hb;rw[hS.ext.ρ b (h.dc b hb)]
theorem SR.res(h:SR P F rd nt E c w a t d M ct):PV P F rd nt E c w M ct t d M ct a w:=⟨E,c,.refl h.cx.rel,.refl _ _,h⟩
theorem gv(h:pT c E E')(hr:∀l,rd=some l→c l):cP E' rd=cP E rd:=by
 cases rd with
 |none=>rfl
 |some l=>unfold cP;simp only[Option.map_some];rw[h.ρ l (hr l rfl)]
theorem Ct(h:rB E t a.tmps){ops:Array Oper}{o:Oper}{g:Option (aH×Bool)} (hg:(match o.guard with
 |none=>some none
 |some (j,want)=>match (ops[j]?).bind (·.dst)with
  |some d=>some (some (bk d,want))
  |none=>none)=some g):Region.wanted o (yielded ops a.tmps)=wanted t g:=by
 unfold Region.wanted
 cases ho:o.guard with
 |none=>rw[ho]at hg;obtain rfl:=af hg;rfl
 |some jw=>
  obtain⟨j,want⟩:=jw;rw[ho]at hg;simp only at hg;cases hd:(ops[j]?).bind (·.dst)with
  |none=>rw[hd]at hg;cases hg
  |some dn=>
   rw[hd]at hg;obtain rfl:=af hg;simp only[yielded,hd,Option.bind_some];show _=iN want (cq t (bk dn));have hn:=h dn;rw[Array.getD_eq_getD_getElem?]at hn;cases hv:a.tmps[dn]? with
   |none=>
    rw[hv]at hn;have hn':conc E (cq t (bk dn))= .tuple #[]:=hn.symm;cases hx:cq t (bk dn)<;>rw[hx]at hn'<;>first|rfl|(simp[conc]at hn')
   |some val=>
    rw[hv]at hn;have hn':val=conc E (cq t (bk dn)):=hn;cases hx:cq t (bk dn)with
    |b x=>
     rw[hx]at hn';rw[hn'];show(some x==some want)=Bool.rec (motive:=fun _=>Bool) (rV want) want x;cases x<;>cases want<;>rfl
    |_=>rw[hx]at hn';rw[hn'];rfl
def mN(P:Program)(k:Kn):Prop:=∀(F:RO) (f:Nat) (args:List V) (M:Mem) (ct:Nat) (v:V) (M':Mem) (ct':Nat),mo (rR k F) f args M ct= .k v M' ct'→
 ∀(E:cE) (c:Nat→Prop) (w:World),jl P E F M c w→(∀g,g<1000→E.ρ g=g∧E.β g=0)→(∀g,g<1000→c g)→fZ c ct→fE c args→
  ∃fn,P.funcs[f]?=some fn∧fn.body.isNone=false∧(fn.name== "runtime.NumGoroutine")=false∧
  Calls P f (aw E args).toArray w fun e w'=>∃E' c',e= .returned (conc E' v)∧lw P F E M c w E' M' c' w'∧bd c' v∧j2 c ct c' ct'
def kj(P:Program)(k:Kn):Prop:=∀(F:RO) (l:Nat) (args:List V) (M:Mem) (ct:Nat) (v:V) (M':Mem) (ct':Nat),sR (rR k F) l args M ct (f5 (M.get l))= .k v M' ct'→
 ∀(E:cE) (c:Nat→Prop) (w:World) (rd:Option Nat),jl P E F M c w→(∀g,g<1000→E.ρ g=g∧E.β g=0)→(∀g,g<1000→c g)→fZ c ct→fE c args→
  ∃fn tmps asg body,(Instr.yield (E.ρ l) (aw E args).toArray).run P w= .ok (.round (E.ρ l) fn tmps asg body) w∧
  RoundIn (cP E rd) 0 P (E.ρ l) fn tmps asg body w fun e w'=>∃E' c',e= .returned (conc E' v)∧lw P F E M c w E' M' c' w'∧bd c' v∧j2 c ct c' ct'
theorem sS{n:Nat}{f:FuncId}{args:Array Value}{R:Ending→World→Prop}(h:Calls P f args w R):CallsIn (cP E rd) n P f args w R:=callsIn_wide.2 h
theorem ft{o:Op}{op:OK}(h:aB P o=some op):∀cl,o≠ .defer cl:=by
 intro cl e;subst e;cases h
theorem xQ{b:Builtin}{as0:List Operand}{ats:List TypeId}{x:EO}(hc:eB P b as0 ats=some (.e x)):x.plain=true:=by
 unfold eB at hc
 split at hc
 ·split at hc<;>first|cases hc|(split at hc<;>cases hc)
 ·split at hc<;>cases hc
 ·split at hc
  ·split at hc
   ·split at hc
    ·cases hc
    ·split at hc
     ·cases hc
     ·obtain rfl:=OK.e.inj (af hc);rfl
   ·cases hc
  ·cases hc
 ·split at hc
  ·split at hc
   ·split at hc
    ·cases hc
    ·obtain rfl:=OK.e.inj (af hc);rfl
   ·cases hc
  ·cases hc
 ·split at hc
  ·split at hc
   ·split at hc
    ·cases hc
    ·obtain rfl:=OK.e.inj (af hc);rfl
   ·cases hc
  ·cases hc
 ·split at hc<;>cases hc
 ·split at hc<;>cases hc
 ·split at hc
  ·obtain⟨z,_,e⟩:=b9.1 hc;obtain rfl:=OK.e.inj e;rfl
  ·cases hc
 ·split at hc
  ·split at hc
   ·obtain rfl:=OK.e.inj (af hc);rfl
   ·cases hc
  ·cases hc
 ·obtain⟨z,_,e⟩:=aR.1 hc;cases e
 ·split at hc
  ·obtain⟨z,_,e⟩:=b9.1 hc;obtain rfl:=OK.e.inj e;rfl
  ·cases hc
 ·cases hc
theorem xW{o:Op}(hn:∀cl,o≠ .call cl){x:EO}(hc:aB P o=some (.e x)):x.plain=true:=by
 cases hx:x.plain with
 |true=>rfl
 |false=>
  exfalso;unfold aB at hc;split at hc
  all_goals first
   |exact absurd rfl (hn _)
   |(cases hc;done)
   |(obtain⟨z,_,e⟩:=aR.1 hc;cases e;done)
   |(obtain⟨z,_,e⟩:=b9.1 hc;cases e;done)
   |(obtain⟨z,_,e⟩:=b9.1 hc;obtain rfl:=OK.e.inj e;cases hx;done)
   |skip
  all_goals (repeat' (first|(cases hc;done)|(obtain⟨z,_,e⟩:=aR.1 hc;cases e;done)|(obtain⟨z,_,e⟩:=aR.1 hc;split at e<;>cases e;done)|(obtain⟨z,_,e⟩:=b9.1 hc;cases e;done)|(obtain⟨z,_,e⟩:=b9.1 hc;obtain rfl:=OK.e.inj e;cases hx;done)|(obtain rfl:=OK.e.inj (af hc);cases hx;done)|split at hc))
def NC(P:Program)(F:RO)(rd:Option Nat)(E:cE)(M:Mem)(c:Nat→Prop)(ct:Nat)(w:World)(a:Act)(o:Oper)(v:V)(M':Mem)(ct':Nat):Prop:=
 ∀(next:Act→World→Prop) (Q:Exit→Act→World→Prop),(∀E' c' w',lw P F E M c w E' M' c' w'→j2 c ct c' ct'→bd c' v→next (a.put o.dst (conc E' v)) w')→o.wpIn (cP E rd) 0 P a w next Q
theorem DA.op{o:Oper}(hd:∀cl,o.op≠ .defer cl){v:V}(h:DA P F E M c ct w a o v M' ct'):NC P F rd E M c ct w a o v M' ct':=by
 intro next Q hn
 obtain⟨E',w',nx,c',hr,hnv,hS,hb,hG⟩:=h
 refine⟨fun _ _=>trivial,?_⟩
 rw[Oper.semAt_eq _ _ _ hd,hr]
 rcases hnv with rfl|⟨rfl,hv⟩
 ·exact hn E' c' w' hS hG hb
 ·have:=hn E' c' w' hS hG hb;rw[hv]at this;exact this
theorem ao0(h:Cx P E F M c w t a){o:Oper}{q:QO}(hc:aB P o.op=some (.q q)){x:V}(hx:(cS q F M t).val=some x):NC P F rd E M c ct w a o x M ct:=by
 intro next Q hn
 obtain⟨hr,hb⟩:=cc4 h hc hx
 refine⟨fun _ _=>trivial,?_⟩
 rw[Oper.semAt_eq _ _ _ (ft hc),hr]
 exact hn E c w (.refl h.rel) (.refl _ _) hb
theorem cw2(h:Cx P E F M c w t a)(hf:fZ c ct){o:Oper}{ao:AO}(hc:aB P o.op=some (.a ao)){v:V}{blk:bq}(ha:kl ao ct t=some (v,blk)):NC P F rd E M c ct w a o v (M.set ct blk) (ct+1):=by
 intro next Q hn
 obtain⟨E',w',hr,hS,_,hb⟩:=ay9 h hc (hf ct (ah _)) (c':=fun b=>c b∨b=ct) (.inr rfl) (fun _ h=> .inl h) ha
 refine⟨fun _ _=>trivial,?_⟩
 rw[Oper.semAt_eq _ _ _ (ft hc),hr]
 exact hn E' _ w' hS (gc c ct) hb
theorem Yn(k:Kn)(F:RO):(rR k F).F=F:=by cases k;rfl
theorem bP9{k:Kn}(hcall:mN P k)(hy:kj P k)(h:Cx P E F M c w t a)(hf:fZ c ct){o:Oper}{eo:EO}(hc:aB P o.op=some (.e eo)){v:V}(he:gG eo (rR k F) M ct t= .k v M' ct'):NC P F rd E M c ct w a o v M' ct':=by
 cases hp:eo.plain with
 |true=>exact DA.op (ft hc) (bP7 h hf hc hp (Yn k F) he)
 |false=>
  have hnd:=ft hc
  have fin:∀(f:Nat) (args:List V),(execOp a.eval o).run P w=(callFunc f (aw E args).toArray).run P w→fE c args→mo (rR k F) f args M ct= .k v M' ct'→NC P F rd E M c ct w a o v M' ct':=by
   intro f args hrun hba hcf next Q hn
   obtain⟨fn,hfn,hbo,hnm,hC⟩:=hcall F f args M ct v M' ct' hcf E c w h.rel h.glob h.big hf hba;refine⟨fun _ _=>trivial,?_⟩;rw[Oper.semAt_eq _ _ _ hnd,hrun];have hcfn:(callFunc f (aw E args).toArray).run P w= .ok (.enter f (aw E args).toArray) w:=by
    have h1:¬fn.name= "runtime.NumGoroutine" :=by simpa using hnm
    have h2:¬fn.body=none:=fun e=>by rw[e]at hbo;cases hbo
    simp[callFunc,hfn,h1,h2]
   rw[hcfn,Oper.uponIn_enter];refine⟨fun hd=>by simp[cP]at hd,sS (hC.mono ?_)⟩;rintro e w' ⟨E',c',rfl,hS,hb,hG⟩;exact hn E' c' w' hS hG hb
  cases hop:o.op with
  |call cl=>
   rw[hop]at hc;simp only[aB]at hc;split at hc
   ·
    rename_i b' hcal;exfalso;have hq:∀x,eB P b' cl.args.toList cl.argTypes.toList=some (.e x)→x.plain=true:=fun x hx=>xQ hx;rw[hq eo hc]at hp;cases hp
   ·rename_i f hcal;split at hc
    ·rename_i fn hf0;split at hc
     ·exfalso;unfold gn at hc;split at hc
      ·cases hc
      ·split at hc
       ·split at hc
        ·split at hc<;>cases hc
        ·split at hc
         ·split at hc<;>cases hc
         ·split at hc
          ·split at hc<;>cases hc
          ·cases hc
       ·split at hc
        ·obtain⟨z,_,e⟩:=aR.1 hc;cases e
        ·split at hc
         ·split at hc
          ·split at hc
           ·split at hc<;>cases hc
           ·cases hc
          ·cases hc
         ·cases hc
       ·cases hc
     ·obtain⟨xs,hxs,e⟩:=b9.1 hc;obtain rfl:EO.call f xs=eo:=by simpa using e
      have ev:=h.evs hxs;have hm:cl.args.map a.eval=(aw E (evs xs t)).toArray:=by
       rw[←ev.1];apply Array.ext';simp
      refine fin f (evs xs t) ?_ ev.2 he;simp only[execOp,hop,resolve,hcal,hm,Act.eval,Deferred.ofValue,aE,aA,aI,invoke,Array.empty_append,Array.append_empty]
    ·cases hc
   ·rename_i y hny hcal;split at hc
    ·rename_i x xs hx hxs;obtain rfl:EO.cv x xs=eo:=by simpa using hc
     have ev:=h.evs hxs;have e1:=h.ev hx;have hm:cl.args.map a.eval=(aw E (evs xs t)).toArray:=by
      rw[←ev.1];apply Array.ext';simp
     have he':sQ (rR k F) (x.ev t) (evs xs t) M ct= .k v M' ct':=he;cases hv:x.ev t with
     |f f first caps=>
      rw[hv]at he' e1;have he2:mo (rR k F) f (first++(evs xs t++caps)) M ct= .k v M' ct':=he';refine fin f _ ?_ (ip e1.2.1 (ip ev.2 e1.2.2)) he2;simp only[execOp,hop,resolve,hcal,hm,e1.1,conc,Deferred.ofValue,aE,aA,aI,invoke]
      congr 2
      rw[gM,gM];simp
     |y l=>
      rw[hv]at he' e1;have he2:sR (rR k F) l (evs xs t) M ct (f5 (M.get l))= .k v M' ct':=he';intro next Q hn
      obtain⟨fn,tmps,asg,body,hyr,hR⟩:=hy F l (evs xs t) M ct v M' ct' he2 E c w rd h.rel h.glob h.big hf ev.2;refine⟨fun _ _=>trivial,?_⟩;rw[Oper.semAt_eq _ _ _ hnd];have hrun:(execOp a.eval o).run P w= .ok (.round (E.ρ l) fn tmps asg body) w:=by
       simp only[execOp,hop,resolve,hcal,hm,e1.1,conc,Deferred.ofValue,aE,aA,aI,invoke,Array.empty_append,hyr]
      rw[hrun,Oper.uponIn_round];refine⟨fun hd=>by simp[cP]at hd,hR.mono ?_⟩;rintro e w' ⟨E',c',rfl,hS,hb,hG⟩;exact hn E' c' w' hS hG hb
     |_=>rw[hv]at he';cases(show RC.f= .k v M' ct' from he')
    ·cases hc
   ·cases hc
  |_=>
   exfalso;have:=xW (by rw[hop];intro cl;simp) hc;rw[this]at hp;cases hp
end
section
variable{P:Program}{E E':cE}{F:RO}{M M':Mem}{c c':Nat→Prop}{ct ct' nt:Nat}{w w':World}{t t':T}{d d':List Nat}{a:Act}{rd:Option Nat}
theorem PV.trans{E₁:cE}{c₁:Nat→Prop}{w₁:World}{M₁:Mem}{ct₁:Nat}(hS:lw P F E M c w E₁ M₁ c₁ w₁)(hG:j2 c ct c₁ ct₁){a':Act}(h:PV P F rd nt E₁ c₁ w₁ M₁ ct₁ t' d' M' ct' a' w'):PV P F rd nt E c w M ct t' d' M' ct' a' w':=by
 obtain⟨E',c',hS',hG',hR⟩:=h
 exact⟨E',c',hS.trans hS',hG.trans hG',hR⟩
theorem gU(dst:Option aH)(d:List Nat)(M:Mem)(ct:Nat)(t:T)(v:V):wl dst d M ct t v=some (.mk (setT t dst v) d M ct):=by
 unfold wl;rw[Tr.force_eq]
theorem Z8(dst:Option aH)(op:OK)(g:Option (aH×Bool))(k:Kn)(t:T)(d:List Nat)(M:Mem)(ct:Nat):
 eD (.mk dst op g) k (.mk t d M ct)=if wanted t g then sop op k dst t d M ct else some (.mk (setT t dst undef) d M ct):=by
 cases g with
 |none=>rfl
 |some g=>
  show(Bool.rec (motive:=fun _=>Option St) (wl dst d M ct t undef) (sop op k dst t d M ct) (wanted t (some g)))=_;rw[bb,gU]
theorem CZ(o:CO)(r:List CO)(k:Kn)(s:St):du (o::r) k s=(eD o k s).bind fun s=>du r k s:=by
 show Option.rec (motive:=fun _=>Option St) none (fun s=>du r k s) (eD o k s)=_
 cases eD o k s<;>rfl
theorem bj2{k:Kn}(hcall:mN P k)(hy:kj P k)(h:SR P F rd nt E c w a t d M ct){o:Oper}(hd:sW nt o.dst=true){op:OK}(hc:aB P o.op=some op){s':St}(hs:sop op (rR k F) (o.dst.map bk) t d M ct=some s'):
 ∃v M' ct',s'= .mk (setT t (o.dst.map bk) v) d M' ct'∧NC P F rd E M c ct w a o v M' ct':=by
 cases op with
 |q q=>
  have hs':ap4 (o.dst.map bk) t d M ct (cS q (rR k F).F M t)=some s':=hs;rw[Yn]at hs';cases hq:cS q F M t with
  |f=>rw[hq]at hs';cases(show(none:Option St)=some s' from hs')
  |v x=>
   rw[hq]at hs';have hs2:wl (o.dst.map bk) d M ct t x=some s':=hs';rw[gU]at hs2;exact⟨x,M,ct,(af hs2).symm,ao0 h.cx hc (by rw[hq];rfl)⟩
  |r x b=>
   rw[hq]at hs';have hs2:wl (o.dst.map bk) d M ct t x=some s':=hs';rw[gU]at hs2;exact⟨x,M,ct,(af hs2).symm,ao0 h.cx hc (by rw[hq];rfl)⟩
 |a ao=>
  have hs':ap3 (o.dst.map bk) t d M ct (kl ao ct t)=some s':=hs;cases ha:kl ao ct t with
  |none=>rw[ha]at hs';cases(show(none:Option St)=some s' from hs')
  |some p=>
   obtain⟨v,blk⟩:=p;rw[ha]at hs';have hs2:Z6 (o.dst.map bk) t d M ct v blk=some s':=hs';unfold Z6 at hs2;rw[Tr.force_eq,aN,gU]at hs2;exact⟨v,M.set ct blk,ct+1,(af hs2).symm,cw2 h.cx h.fr hc ha⟩
 |e eo=>
  have hs':xZ (o.dst.map bk) t d (gG eo (rR k F) M ct t)=some s':=hs;cases he:gG eo (rR k F) M ct t with
  |f=>rw[he]at hs';cases(show(none:Option St)=some s' from hs')
  |k v M' ct'=>
   rw[he]at hs';have hs2:wl (o.dst.map bk) d M' ct' t v=some s':=hs';rw[gU]at hs2;exact⟨v,M',ct',(af hs2).symm,bP9 hcall hy h.cx h.fr hc he⟩
theorem vj{ops:Array Oper}{o:Oper}{co:CO}(h:yu P nt ops o=some co):sW nt o.dst=true∧ ∃g op,co= .mk (o.dst.map bk) op g∧
 (match o.guard with
 |none=>some none
 |some (j,want)=>match (ops[j]?).bind (·.dst)with
  |some d=>some (some (bk d,want))
  |none=>none)=some g∧(aB P o.op=some op∨op= .q .bad):=by
 unfold yu at h
 split at h
 ·cases h
 ·rename_i hd;have hd':sW nt o.dst=true:=by simpa using hd
  split at h
  ·cases h
  ·rename_i g hg;split at h
   ·rename_i op hop;obtain rfl:=af h;exact⟨hd',g,op,rfl,hg,.inl hop⟩
   ·obtain rfl:=af h;exact⟨hd',g,_,rfl,hg,.inr rfl⟩
theorem FL{k:Kn}(hcall:mN P k)(hy:kj P k){ops:Array Oper}{Q:Exit→Act→World→Prop}:∀(l:List Oper) (cos:List CO) (i:Nat) (E:cE) (c:Nat→Prop) (w:World) (a:Act) (t:T) (M:Mem) (ct:Nat),ops.toList.drop i=l→mV P nt ops l=some cos→
 du cos (rR k F) (.mk t d M ct)=some (.mk t' d' M' ct')→SR P F rd nt E c w a t d M ct→(∀a' w',PV P F rd nt E c w M ct t' d' M' ct' a' w'→Q .normal a' w')→wpOpsIn (cP E rd) 0 P ops Q (List.range' i l.length) a w
 |[],cos,i,E,c,w,a,t,M,ct,hl,hc,hs,h,hQ=>by
  obtain rfl:=af hc;have hs':some (St.mk t d M ct)=some (.mk t' d' M' ct'):=hs;injection hs' with hs'
  injection hs' with e1 e2 e3 e4
  subst e1 e2 e3 e4;exact hQ a w h.res
 |o::l,cos,i,E,c,w,a,t,M,ct,hl,hc,hs,h,hQ=>by
  rw[mV]at hc;split at hc
  ·rename_i co cr h1 h2;obtain rfl:=af hc;have hi:ops[i]?=some o:=by
    have:(ops.toList.drop i)[0]?=some o:=by rw[hl];rfl
    simpa using this
   have hl':ops.toList.drop (i+1)=l:=by
    rw[←List.drop_drop,hl];rfl
   obtain⟨hd,g,op,rfl,hg,hop⟩:=vj h1;rw[CZ,Z8]at hs;rw[aX,List.range'_succ];simp only[wpOpsIn,hi];rw[Ct h.cx.tr hg];by_cases hw:wanted t g=true
   ·rw[ac hw]at hs;rw[ac hw];obtain⟨s1,hs1,hs2⟩:=aR.1 hs;rcases hop with hop|rfl
    ·obtain⟨v,M1,ct1,rfl,hO⟩:=bj2 hcall hy h hd hop hs1;refine hO _ _ fun E1 c1 w1 hS hG hb=>?_;have h1:=(h.stp hS hG).put hd rfl hb;rw[←gv hS.ext h.rd];exact FL hcall hy l cr (i+1) E1 c1 w1 _ _ M1 ct1 hl' h2 hs2 h1 fun a' w' hr=>hQ a' w' (hr.trans hS hG)
    ·cases(show(none:Option St)=some s1 from hs1)
   ·rw[ab hw]at hs;rw[ab hw];refine⟨fun _ _=>trivial,?_⟩;have h1:=h.put hd (v:=undef) (val:=Go.undef) rfl trivial;exact FL hcall hy l cr (i+1) E c w _ _ M ct hl' h2 hs h1 hQ
  ·cases hc
end
def qy:Ex→Exit
 | .nrm=> .normal
 | .ret=> .ret
 | .ext id=> .exit id
 | .gto l=> .goto l
def BI(P:Program)(ex:xz):Prop:=∀(rd:Option Nat) (fn:Nat) (F:RO) (cc:CC) (t:T) (d:List Nat) (M:Mem) (ct:Nat) (e:Ex) (t':T) (d':List Nat) (M':Mem) (ct':Nat),
 ex rd fn F cc (.mk t d M ct)= .k e (.mk t' d' M' ct')→ ∀(nt:Nat) (code:Code),Sim P nt code cc→ ∀(E:cE) (c:Nat→Prop) (w:World) (a:Act),SR P F rd nt E c w a t d M ct→
  ∀Q:Exit→Act→World→Prop,(∀a' w',PV P F rd nt E c w M ct t' d' M' ct' a' w'→Q (qy e) a' w')→code.wpIn (cP E rd) 0 P Q a w
def bB5(P:Program)(ex:xz)(m:Nat):Prop:=∀(rd:Option Nat) (fn:Nat) (F:RO) (b:CC) (t:T) (d:List Nat) (M:Mem) (ct:Nat) (e:Ex) (t':T) (d':List Nat) (M':Mem) (ct':Nat),
 ex rd fn F (.loop b) (.mk t d M ct)= .k e (.mk t' d' M' ct')→ ∀(nt:Nat) (code:Code),Sim P nt code b→ ∀(E:cE) (c:Nat→Prop) (w:World) (a:Act),SR P F rd nt E c w a t d M ct→
  ∀Q:Exit→Act→World→Prop,(∀a' w',PV P F rd nt E c w M ct t' d' M' ct' a' w'→Q (qy e) a' w')→Code.roundsIn (cP E rd) 0 P code Q m a w
def ay7(P:Program)(nt:Nat)(body:Code)(tbl:CC):Prop:=∀l cl,kB l tbl=some cl→ ∃rest,findLabel body l=some rest∧Sim P nt rest cl
def ce(P:Program)(f:Nat)(g:RO→List V→Mem→Nat→RC):Prop:=∀(F:RO) (args:List V) (M:Mem) (ct:Nat) (v:V) (M':Mem) (ct':Nat),g F args M ct= .k v M' ct'→
 ∀(E:cE) (c:Nat→Prop) (w:World),jl P E F M c w→(∀g,g<1000→E.ρ g=g∧E.β g=0)→(∀g,g<1000→c g)→fZ c ct→fE c args→
  ∃fn,P.funcs[f]?=some fn∧fn.body.isNone=false∧(fn.name== "runtime.NumGoroutine")=false∧
  Calls P f (aw E args).toArray w fun e w'=>∃E' c',e= .returned (conc E' v)∧lw P F E M c w E' M' c' w'∧bd c' v∧j2 c ct c' ct'
def bB2(P:Program)(f:Nat)(cf:CF):Prop:=
 match cf with
 | .mk n res body=>∃fn,P.funcs[f]?=some fn∧ag8 P fn=some (.mk n res body)
 | .orc g=>ce P f g
def fo(P:Program)(Φ:Nat→Option CF):Prop:=∀f cf,Φ f=some cf→bB2 P f cf
section
variable{P:Program}{E E':cE}{F:RO}{M M':Mem}{c c':Nat→Prop}{ct ct' nt:Nat}{w w':World}{t t':T}{d d':List Nat}{a:Act}{rd:Option Nat}
theorem D2{n:Nat}:∀k,(Pm n).get k=none:=by
 induction n with
 |zero=>intro k;rfl
 |succ n ih=>
  intro k;show(Tr.n (Pm n) none (Pm n)).get k=none;rw[Tr.get_n];split
  ·rfl
  ·split
   ·exact ih _
   ·exact ih _
theorem NT(E:cE)(args:List V)(m n:Nat):rB E (bh m args) ((aw E args).toArray++Array.replicate n Go.undef):=by
 intro k
 have hg:(bh m args).getP (bk k)=args[k]?:=by
  rw[dU];show(aW args 0 (Pm m)).get k=_;rw[dq];by_cases h:k<args.length
  ·rw[ac (by omega)];rfl
  ·rw[ab (by omega),List.getElem?_eq_none (by omega)];exact D2 k
 rw[Array.getD_eq_getD_getElem?]
 by_cases h:k<args.length
 ·have hv:args[k]?=some args[k]:=List.getElem?_eq_getElem h;rw[ul (hg.trans hv)];rw[Array.getElem?_append_left (by simpa [aZ]using h)];simp[aZ,h]
 ·have hv:args[k]?=none:=List.getElem?_eq_none (by omega);rw[yK (hg.trans hv)];rw[Array.getElem?_append_right (by simp[aZ];omega)];by_cases h2:k-(aw E args).toArray.size<n
  ·rw[Array.getElem?_replicate,ac h2];rfl
  ·rw[Array.getElem?_replicate,ab h2];rfl
theorem YL{p q:aH}(h:∀t:Tr Unit,t.getP p=t.getP q):p=q:=by
 by_cases e:q=p
 ·exact e.symm
 ·have:=h (Tr.e.setP p ());rw[Tr.getP_setP_same,Tr.getP_setP_ne p () q _ e,Tr.getP_e]at this;cases this
theorem zf(k:Nat):bk (2*k+1)= .l (bk k):=YL fun t=>by
 rw[dU]
 cases t with
 |e=>rw[Tr.getP_e];rfl
 |n l v r=>rw[Tr.getP_l,dU,Tr.get_n,ab (by omega),ab (by omega),show(2*k+1)/2=k by omega]
theorem wk(k:Nat):bk (2*k+2)= .r (bk k):=YL fun t=>by
 rw[dU]
 cases t with
 |e=>rw[Tr.getP_e];rfl
 |n l v r=>rw[Tr.getP_r,dU,Tr.get_n,ab (by omega),ac (by omega),show(2*k+2)/2-1=k by omega]
theorem lT:∀p:aH,∃k,bk k=p
 | .h=>⟨0,rfl⟩
 | .l p=>let⟨k,hk⟩:=lT p;⟨2*k+1,by rw[zf,hk]⟩
 | .r p=>let⟨k,hk⟩:=lT p;⟨2*k+2,by rw[wk,hk]⟩
theorem Qp{m:Nat}{args:List V}(h:fE c args):Xh c (bh m args):=by
 intro p
 have key:∀(vs:List V) (k:Nat) (t:T),fE c vs→Xh c t→Xh c (aW vs k t):=by
  intro vs
  induction vs with
  |nil=>intro k t _ ht;exact ht
  |cons v vs ih=>
   intro k t hv ht;rw[cH];refine ih (k+1) _ hv.2 ?_;intro q;obtain⟨j,rfl⟩:=lT q;have hg:(t.set k v).getP (bk j)=if j=k then some v else t.getP (bk j):=by
    rw[dU,dU,Tr.get_set]
   by_cases e:j=k
   ·rw[ac e]at hg;rw[ul hg];exact hv.1
   ·rw[ab e]at hg;have:=ht (bk j);unfold cq at this⊢;rw[hg];exact this
 refine key args 0 (Pm m) h ?_ p
 intro q
 obtain⟨j,rfl⟩:=lT q
 rw[yK (by rw[dU];exact D2 j)];trivial
end
section
variable{P:Program}{E E':cE}{F:RO}{M M':Mem}{c c':Nat→Prop}{ct ct' nt:Nat}{w w':World}{t t':T}{d d':List Nat}{a:Act}{rd:Option Nat}
theorem P6(r:RV)(l:List RV):eR F M t (r::l)=(zk F M t r).bind fun v=>(eR F M t l).map (v:: ·):=by
 show Option.rec (motive:=fun _=>Option (List V)) none (fun v=>u7 v (eR F M t l)) (zk F M t r)=_
 cases zk F M t r with
 |none=>rfl
 |some v=>
  show u7 v (eR F M t l)=(eR F M t l).map (v:: ·);unfold u7;cases eR F M t l<;>rfl
def YW(tmps:Array Value):ResultVar→Sem Value
 | .tmp n=>pure (tmps.getD n Go.undef)
 | .cell ad ty=>do loadVar ty (←asAddr (tmps.getD ad Go.undef))
theorem YX(h:Cx P E F M c w t a){x:ResultVar}{r:RV}(hc:aY2 P x=some r){v:V}(hv:zk F M t r=some v):
 (YW a.tmps x).run P w= .ok (conc E v) w∧bd c v:=by
 unfold YW
 cases x with
 |tmp n=>
  obtain rfl:=af hc;obtain rfl:cq t (bk n)=v:=af hv;exact⟨by simp[h.tr n],h.bt _⟩
 |cell ad ty=>
  have hn:=h.tr ad;have hc':(match tW P ty,dR P ty with
   |some true,some n=>some (RV.cn (bk ad) n)
   |some false,some _=>some (RV.c1 (bk ad))
   |_,_=>none)=some r:=hc
  replace hc:=hc';clear hc'
  ·split at hc
   ·rename_i n h1 h2;obtain rfl:=af hc;have hv':(rX (cq t (bk ad)) none fun b o=>Option.rec (motive:=fun _=>Option V) none (fun l=>some (.g l)) (loadN F M b o n))=some v:=hv;cases hg:cq t (bk ad)with
    |p b o=>
     rw[hg]at hv' hn;have hv2:Option.rec (motive:=fun _=>Option V) none (fun l=>some (.g l)) (loadN F M b o n)=some v:=hv';cases hl:loadN F M b o n with
     |none=>rw[hl]at hv2;cases hv2
     |some l=>
      rw[hl]at hv2;obtain rfl:V.g l=v:=af hv2;have hL:=h.loadN hl;refine⟨?_,hL.2.1⟩;simp only[hn,conc,asAddr,loadVar,aE,aA,aI,l5 h1,Sem.run_ite,if_true,dF h2,hL.1]
    |_=>rw[hg]at hv';cases(show(none:Option V)=some v from hv')
   ·rename_i n h1 h2;obtain rfl:=af hc;have hv':(rX (cq t (bk ad)) none fun b o=>load1 F M b o)=some v:=hv;cases hg:cq t (bk ad)with
    |p b o=>
     rw[hg]at hv' hn;have hL:=h.load1 (show Ev.load1 F M b o=some v from hv');refine⟨?_,hL.2⟩;simp only[hn,conc,asAddr,loadVar,aE,aA,aI,l5 h1,Sem.run_ite,aS,if_false,run_load,hL.1]
    |_=>rw[hg]at hv';cases(show(none:Option V)=some v from hv')
   ·cases hc
theorem My(h:Cx P E F M c w t a):∀{xs:List ResultVar} {rs:List RV} {vs:List V},rJ P xs=some rs→eR F M t rs=some vs→
 (xs.mapM (YW a.tmps)).run P w= .ok (aw E vs) w∧fE c vs
 |[],rs,vs,hc,hv=>by
  obtain rfl:=af hc;obtain rfl:[]=vs:=af hv;exact⟨rfl,trivial⟩
 |x::xs,rs,vs,hc,hv=>by
  rw[rJ]at hc;split at hc
  ·rename_i r rr h1 h2;obtain rfl:=af hc;rw[P6]at hv;obtain⟨v,hv1,hv2⟩:=aR.1 hv;obtain⟨vs',hv3,rfl⟩:=b9.1 hv2;have e1:=YX h h1 hv1;have e2:=My h h2 hv3;refine⟨?_,e1.2,e2.2⟩;simp only[List.mapM_cons,aE,e1.1,e2.1,aI,aA,aw]
  ·cases hc
theorem FF(h:Cx P E F M c w t a){fn:Func}{rs:List RV}{vs:List V}(hc:rJ P fn.results.toList=some rs)(hv:eR F M t rs=some vs):
 (results fn a.tmps).run P w= .ok (conc E (tY vs)) w∧bd c (tY vs):=by
 have e:=My h hc hv
 have hm:(fn.results.mapM (YW a.tmps)).run P w= .ok (aw E vs).toArray w:=by
  rw[←Array.toArray_toList (xs:=fn.results),List.mapM_toArray];simp[e.1]
 show(bind (fn.results.mapM (YW a.tmps)) _).run P w=_∧_
 rw[aE,hm]
 match vs,e.2 with
 |[],_=>exact⟨rfl,trivial⟩
 |[v],hb=>exact⟨rfl,hb.1⟩
 |v::v'::l,hb=>
  refine⟨?_,hb⟩;show Result.ok _ w=_
  congr 1
end
section
variable{P:Program}{E E':cE}{F:RO}{M M':Mem}{c c':Nat→Prop}{ct ct' nt:Nat}{w w':World}{t t':T}{d d':List Nat}{a:Act}{rd:Option Nat}
theorem y4(b:Nat)(ds:List Nat)(M:Mem):eu (b::ds) M=match M.get b with
 |some (.defs false)=>eu ds (M.set b (.defs true))
 |_=>none:=by
 show Option.rec (motive:=fun _=>Option Mem) none (fun blk=>Zy (eu ds) M b blk) (M.get b)=_
 cases M.get b with
 |none=>rfl
 |some blk=>
  cases blk with
  |defs x=>
   cases x with
   |true=>rfl
   |false=>exact Tr.force_eq _ _
  |_=>rfl
theorem yT{fn:Func}{R:Ending→World→Prop}{t:T}{tmps:Array Value}{M₂:Mem}:∀(ds:List Nat) (M:Mem) (w:World),eu ds M=some M₂→jl P E F M c w→
 (∀w',lw P F E M c w E M₂ c w'→ ∃v,(results fn tmps).run P w'= .ok v w'∧R (.returned v) w')→
 LeavesInM Fence.wide 0 P fn tmps R (ds.map fun b=>{target:= .collected (E.ρ b),args:=#[]}) .returning w
 |[],M,w,hm,h,hR=>by
  obtain rfl:M=M₂:=af hm;exact hR w (.refl h)
 |b::ds,M,w,hm,h,hR=>by
  rw[y4]at hm;split at hm
  ·rename_i hM;obtain⟨_,_,o,ho,hrel⟩:=h.has _ _ (aq hM);have hrel':o= .deferred (some []):=hrel;subst hrel';have hS:=h.write b _ (.defs true) hM (.deferred none) trivial (w.putObj (E.ρ b) (.deferred none)) rfl rfl rfl rfl rfl;refine⟨by simp,.inl ⟨E.ρ b,w.putObj (E.ρ b) (.deferred none),rfl,run_takeDeferred ho,?_⟩⟩;exact yT (t:=t) ds _ _ hm hS.rel fun w' hS'=>hR w' (hS.trans hS')
  ·cases hm
theorem EA{ex:xz}{f:Nat}{args:List V}{o:Option CF}{v:V}(h:cu ex F f args M ct o= .k v M' ct'):(∃n res body e t1 d1 M1 vs,o=some (.mk n res body)∧ex none f F body (.mk (bh n args) [] M ct)= .k e (.mk t1 d1 M1 ct')∧(e= .nrm∨e= .ret)∧eu d1 M1=some M'∧eR F M' t1 res=some vs∧v=tY vs)∨ ∃g,o=some (.orc g)∧g F args M ct= .k v M' ct':=by
 cases o with
 |none=>cases(show RC.f= .k v M' ct' from h)
 |some cf=>
  cases cf with
  |orc g=>exact .inr ⟨g,rfl,h⟩
  |mk n res body=>
  left;have h':n8 res F (ex none f F body (.mk (bh n args) [] M ct))= .k v M' ct':=h;cases hx:ex none f F body (.mk (bh n args) [] M ct)with
  |f=>rw[hx]at h';cases(show RC.f= .k v M' ct' from h')
  |k e s=>
   obtain⟨t1,d1,M1,c1⟩:=s;rw[hx]at h';have h2:Bool.rec (motive:=fun _=>RC) .f (A9 res F t1 c1 (eu d1 M1)) (Lz e)= .k v M' ct':=h';rw[bb]at h2;split at h2
   ·rename_i he;cases hm:eu d1 M1 with
    |none=>rw[hm]at h2;cases(show RC.f= .k v M' ct' from h2)
    |some M2=>
     rw[hm]at h2;have h3:Aa c1 M2 (eR F M2 t1 res)= .k v M' ct':=h2;cases hr:eR F M2 t1 res with
     |none=>rw[hr]at h3;cases(show RC.f= .k v M' ct' from h3)
     |some vs=>
      rw[hr]at h3;have h4:RC.k (tY vs) M2 c1= .k v M' ct':=h3;injection h4 with e1 e2 e3
      subst e1 e2 e3;refine⟨n,res,body,e,t1,d1,M1,vs,rfl,hx,?_,hm,hr,rfl⟩;cases e with
      |nrm=>exact .inl rfl
      |ret=>exact .inr rfl
      |ext id=>cases(show false=true from he)
      |gto l=>cases(show false=true from he)
   ·cases h2
theorem O5{fn:Func}{n:Nat}{res:List RV}{body:CC}(h:ag8 P fn=some (.mk n res body)):(fn.name== "runtime.NumGoroutine")=false∧ ∃b,fn.body=some b∧Sim P fn.ntmps b body∧rJ P fn.results.toList=some res:=by
 unfold ag8 at h
 split at h
 ·cases h
 ·rename_i hn;refine⟨by simpa using hn,?_⟩;split at h
  ·cases h
  ·rename_i b hb;split at h
   ·rename_i body' res' h1 h2;injection h with h
    injection h with e0 e1 e2
    subst e0 e1 e2;exact⟨b,hb,⟨_,h1⟩,h2⟩
   ·cases h
theorem ir{Φ:Nat→Option CF}{ex:xz}(hΦ:fo P Φ)(hex:BI P ex)(rd:Option Nat)(fn:Nat)(F₀:RO):mN P (.mk Φ ex rd fn F₀):=by
 intro F f args M ct v M' ct' h E c w hrel hglob hbig hfr hargs
 have h':cu ex F f args M ct (Φ f)= .k v M' ct':=h
 rcases EA h' with⟨n,res,body,e,t1,d1,M1,vs,ho,hx,he,hm,hr,rfl⟩|⟨g,ho,hg⟩
 case inr=>
  have hok:ce P f g:=hΦ f _ ho;exact hok F args M ct v M' ct' hg E c w hrel hglob hbig hfr hargs
 obtain⟨fn',hfn,hcomp⟩:∃fn,P.funcs[f]?=some fn∧ag8 P fn=some (.mk n res body):=hΦ f _ ho
 obtain⟨hnm,b,hb,hsim,hres⟩:=O5 hcomp
 refine⟨fn',hfn,by rw[hb];rfl,hnm,?_⟩
 refine(callsIn_wide (n:=0)).1 (callsIn_of_wp_marks hfn hb trivial ?_)
 have hSR:SR P F none fn'.ntmps E c w {tmps:=(aw E args).toArray++Array.replicate (fn'.ntmps-(aw E args).toArray.size) Go.undef,defers:=[]} (bh n args) [] M ct:=
  ⟨⟨hrel,hglob,hbig,NT E args _ _,Qp hargs⟩,hfr,rfl,fun b hb=>by simp at hb,by simp;omega,fun l hl=>by cases hl⟩
 refine hex none f F body _ [] M ct e t1 d1 M1 ct' hx fn'.ntmps b hsim E c w _ hSR _ ?_
 rintro a' w' ⟨E',c',hS,hG,hR⟩
 have key:LeavesInM Fence.wide 0 P fn' a'.tmps (fun e w'=>∃E' c',e= .returned (conc E' (tY vs))∧lw P F E M c w E' M' c' w'∧bd c' (tY vs)∧j2 c ct c' ct') a'.defers .returning w':=by
  rw[hR.df];refine yT (t:=t1) d1 M1 w' hm hR.cx.rel fun w2 hS2=>?_;have hcx:Cx P E' F M' c' w2 t1 a':=⟨hS2.rel,hR.cx.glob,hR.cx.big,hR.cx.tr,hR.cx.bt⟩
  have hres':=FF hcx hres hr;exact⟨_,hres'.1,E',c',rfl,hS.trans hS2,hres'.2,hG⟩
 rcases he with rfl|rfl
 ·exact key
 ·exact key
end
section
variable{P:Program}{E E':cE}{F:RO}{M M':Mem}{c c':Nat→Prop}{ct ct' nt:Nat}{w w':World}{t t':T}{d d':List Nat}{a:Act}{rd:Option Nat}
theorem fw{o:Option bq}{s:LS}{pe:zH}{fn:Nat}{tm:T}{ps:List aH}{asg body:CC}{dn:Nat}(h:f5 o= .k s pe fn tm ps asg body dn):o=some (.loop s pe fn tm ps asg body dn):=by
 unfold f5 at h
 split at h
 ·injection h with e1 e2 e3 e4 e5 e6 e7 e8
  subst e1 e2 e3 e4 e5 e6 e7 e8;rfl
 ·cases h
theorem qV{E:cE}:∀(ps:List Nat) (vs:List V) (t t':T) (tmps:Array Value),dM (ps.map bk) vs t=some t'→rB E t tmps→(∀p∈ps,p<tmps.size)→
 ps.length=vs.length∧rB E t' ((ps.zip (aw E vs)).foldl (fun tm (p:Nat×Value)=>tm.setIfInBounds p.1 p.2) tmps)
 |[],[],t,t',tmps,h,ht,_=>by
  obtain rfl:t=t':=af h;exact⟨rfl,ht⟩
 |p::ps,v::vs,t,t',tmps,h,ht,hp=>by
  have h':dM (ps.map bk) vs (t.setP (bk p) v)=some t':=by
   have:(t.setP (bk p) v).force (fun t=>dM (ps.map bk) vs t)=some t':=h
   rwa [Tr.force_eq]at this
  have h1:rB E (t.setP (bk p) v) (tmps.setIfInBounds p (conc E v)):=
   uC (a:=⟨tmps,[]⟩) (dst:=some p) ht (fun k hk=>by cases hk;exact hp p (by simp)) rfl
  have ih:=qV ps vs _ t' _ h' h1 (fun q hq=>by simpa using hp q (by simp[hq]));exact⟨by simp[ih.1],by simpa [aw]using ih.2⟩
 |[],_::_,t,t',tmps,h,_,_=>by cases h
 |_::_,[],t,t',tmps,h,_,_=>by cases h
theorem qU:∀(ps:List aH) (vs:List V) (t t':T),dM ps vs t=some t'→fE c vs→Xh c t→Xh c t'
 |[],[],t,t',h,_,ht=>by obtain rfl:t=t':=af h;exact ht
 |p::ps,v::vs,t,t',h,hv,ht=>by
  have h':dM ps vs (t.setP p v)=some t':=by
   have:(t.setP p v).force (fun t=>dM ps vs t)=some t':=h
   rwa [Tr.force_eq]at this
  exact qU ps vs _ t' h' hv.2 (zZ (dst:=some p) ht hv.1)
 |[],_::_,t,t',h,_,_=>by cases h
 |_::_,[],t,t',h,_,_=>by cases h
theorem F3(ps:List (Nat×Value)):∀tmps:Array Value,(ps.foldl (fun tm (p:Nat×Value)=>tm.setIfInBounds p.1 p.2) tmps).size=tmps.size:=by
 induction ps with
 |nil=>intro tmps;rfl
 |cons p ps ih=>intro tmps;rw[List.foldl_cons,ih];simp
end
section
variable{P:Program}{E E':cE}{F:RO}{M M':Mem}{c c':Nat→Prop}{ct ct' nt:Nat}{w w':World}{t t':T}{d d':List Nat}{a:Act}{rd:Option Nat}
theorem EC{Φ:Nat→Option CF}{ex:xz}{rd₀:Option Nat}{fn₀:Nat}{l:Nat}{args:List V}{o:Option bq}{v:V}(h:sR (.mk Φ ex rd₀ fn₀ F) l args M ct (f5 o)= .k v M' ct'):
 ∃pe fn tm ps asg body dn tp t1 M1 ct1 pe1 fn1 tm1 ps1 a1 b1 dn1 e t2 M3 s3 pe3 fn3 tm3 ps3 a3 b3 dn3 s4 pe4 r,o=some (.loop .ready pe fn tm ps asg body dn)∧dM ps args tm=some tp∧
  ex (some l) fn F asg (.mk tp [] M ct)= .k .nrm (.mk t1 [] M1 ct1)∧M1.get l=some (.loop .ready pe1 fn1 tm1 ps1 a1 b1 dn1)∧
  ex (some l) fn F body (.mk t1 [] (M1.set l (.loop .busy pe1 fn1 tm1 ps1 a1 b1 dn1)) ct1)= .k e (.mk t2 [] M3 ct')∧M3.get l=some (.loop s3 pe3 fn3 tm3 ps3 a3 b3 dn3)∧
  ((e= .nrm∧s4= .ready∧pe4= .none∧r=true)∨(e= .ret∧s4= .done∧pe4= .ret∧r=false)∨(∃id,e= .ext id∧s4= .done∧pe4= .ext id∧r=false))∧
  v= .b r∧M'=M3.set l (.loop s4 pe4 fn3 tm3 ps3 a3 b3 dn3):=by
 cases hl:f5 o with
 |f=>rw[hl]at h;cases h
 |k s pe fn tm ps asg body dn=>
  rw[hl]at h;cases s with
  |ready=>
   have ho:=fw hl;cases hp:dM ps args tm with
   |none=>
    have h1:GA (.mk Φ ex rd₀ fn₀ F) l fn asg body M ct (dM ps args tm)= .k v M' ct':=h;rw[hp]at h1;cases h1
   |some tp=>
    have h1:GA (.mk Φ ex rd₀ fn₀ F) l fn asg body M ct (dM ps args tm)= .k v M' ct':=h;rw[hp]at h1;have h2:nL (.mk Φ ex rd₀ fn₀ F) l fn body (ex (some l) fn F asg (.mk tp [] M ct))= .k v M' ct':=h1;unfold nL at h2;split at h2
    ·rename_i t1 M1 ct1 hx1;unfold sF at h2;split at h2
     ·rename_i pe1 fn1 tm1 ps1 a1 b1 dn1 hl1;rw[Tr.force_eq]at h2;have h3:nM l (ex (some l) fn F body (.mk t1 [] (M1.set l (.loop .busy pe1 fn1 tm1 ps1 a1 b1 dn1)) ct1))= .k v M' ct':=h2;unfold nM at h3;split at h3
      ·cases h3
      ·rename_i e t2 d2 M3 ct2 hx2;split at h3
       ·have key:∀(s4:LS) (pe4:zH) (r:Bool),Dq M3 l ct2 s4 pe4 r (f5 (M3.get l))= .k v M' ct'→ ∃s3 pe3 fn3 tm3 ps3 a3 b3 dn3,M3.get l=some (.loop s3 pe3 fn3 tm3 ps3 a3 b3 dn3)∧v= .b r∧M'=M3.set l (.loop s4 pe4 fn3 tm3 ps3 a3 b3 dn3)∧ct'=ct2:=by
         intro s4 pe4 r hy;unfold Dq at hy;split at hy
         ·rename_i s3 pe3 fn3 tm3 ps3 a3 b3 dn3 hl3;rw[gh]at hy;injection hy with g1 g2 g3
          exact⟨_,_,_,_,_,_,_,_,fw hl3,g1.symm,g2.symm,g3.symm⟩
         ·cases hy
        split at h3
        ·obtain⟨s3,pe3,fn3,tm3,ps3,a3,b3,dn3,hM3,hv,hM',hct⟩:=key _ _ _ h3;subst hct;exact⟨pe,fn,tm,ps,asg,body,dn,tp,t1,M1,ct1,pe1,fn1,tm1,ps1,a1,b1,dn1,_,t2,M3,s3,pe3,fn3,tm3,ps3,a3,b3,dn3,.ready,.none,true,ho,hp,hx1,fw hl1,hx2,hM3,.inl ⟨rfl,rfl,rfl,rfl⟩,hv,hM'⟩
        ·obtain⟨s3,pe3,fn3,tm3,ps3,a3,b3,dn3,hM3,hv,hM',hct⟩:=key _ _ _ h3;subst hct;exact⟨pe,fn,tm,ps,asg,body,dn,tp,t1,M1,ct1,pe1,fn1,tm1,ps1,a1,b1,dn1,_,t2,M3,s3,pe3,fn3,tm3,ps3,a3,b3,dn3,.done,.ret,false,ho,hp,hx1,fw hl1,hx2,hM3,.inr (.inl ⟨rfl,rfl,rfl,rfl⟩),hv,hM'⟩
        ·rename_i id;obtain⟨s3,pe3,fn3,tm3,ps3,a3,b3,dn3,hM3,hv,hM',hct⟩:=key _ _ _ h3;subst hct;exact⟨pe,fn,tm,ps,asg,body,dn,tp,t1,M1,ct1,pe1,fn1,tm1,ps1,a1,b1,dn1,_,t2,M3,s3,pe3,fn3,tm3,ps3,a3,b3,dn3,.done,.ext id,false,ho,hp,hx1,fw hl1,hx2,hM3,.inr (.inr ⟨id,rfl,rfl,rfl,rfl⟩),hv,hM'⟩
        ·cases h3
       ·cases h3
     ·cases h2
    ·cases h2
  |_=>cases h
end
section
variable{P:Program}{E E':cE}{F:RO}{M M':Mem}{c c':Nat→Prop}{ct ct' nt:Nat}{w w':World}{t t':T}{d d':List Nat}{a:Act}{rd:Option Nat}
theorem xf{Φ:Nat→Option CF}{ex:xz}(hex:BI P ex)(rd₀:Option Nat)(fn₀:Nat)(F₀:RO):kj P (.mk Φ ex rd₀ fn₀ F₀):=by
 intro F l args M ct v M' ct' h E c w rd hrel hglob hbig hfr hargs
 obtain⟨pe,fn,tm,ps,asg,body,dn,tp,t1,M1,ct1,pe1,fn1,tm1,ps1,a1,b1,dn1,e,t2,M3,s3,pe3,fn3,tm3,ps3,a3,b3,dn3,s4,pe4,r,ho,hp,hx1,hM1,hx2,hM3,hcase,rfl,rfl⟩:=EC (rd₀:=rd₀) (fn₀:=fn₀) h
 obtain⟨hcl,hbd,ob,hob,fn',tmps,params,ca,cb,rfl,htr,hps,nt,hnt,hpar,hsa,hsb⟩:=hrel.has _ _ (aq ho)
 subst hps
 obtain⟨hlen,htr'⟩:=qV params.toList args tm tp tmps hp htr (fun p hp'=>Nat.lt_of_lt_of_le (hpar p hp') hnt)
 have hy:=run_yield (P:=P) (args:=(aw E args).toArray) hob (by simp[aZ];rw[←hlen];simp)
 have hfold:(params.zip (aw E args).toArray).foldl (fun tmps (t,a)=>tmps.setIfInBounds t a) tmps=(params.toList.zip (aw E args)).foldl (fun tm (p:Nat×Value)=>tm.setIfInBounds p.1 p.2) tmps:=by
  rw[←Array.foldl_toList];simp
 simp only[hfold]at hy
 refine⟨fn',_,ca,cb,hy,roundIn_of_wpIn trivial ?_⟩
 have hSR:SR P F (some l) nt E c w {tmps:=(params.toList.zip (aw E args)).foldl (fun tm (p:Nat×Value)=>tm.setIfInBounds p.1 p.2) tmps,defers:=[]} tp [] M ct:=
  ⟨⟨hrel,hglob,hbig,htr',qU _ _ _ _ hp hargs hbd.1⟩,hfr,rfl,fun b hb=>by simp at hb,by rw[F3];exact hnt,fun l' hl'=>by cases hl';exact hcl⟩
 refine hex (some l) fn F asg tp [] M ct .nrm t1 [] M1 ct1 hx1 nt ca hsa E c w _ hSR _ ?_
 rintro a1' w1 ⟨E1,c1,hS1,hG1,hR1⟩
 obtain⟨hcl1,hbd1,ob1,hob1,fn1',tmps1,params1,ca1,cb1,rfl,htr1,hps1,hnt1⟩:=hR1.cx.rel.has _ _ (aq hM1)
 have hρ1:E1.ρ l=E.ρ l:=hS1.ext.ρ l hcl
 have hbr:=run_beginRound (P:=P) (l:=E.ρ l) (by rw[←hρ1];exact hob1) rfl
 refine⟨_,hbr,?_⟩
 have hS2:=hR1.cx.rel.write l _ (.loop .busy pe1 fn1 tm1 ps1 a1 b1 dn1) hM1 (.loop {state:= .busy,pending:=Fu pe1,fn:=fn1',tmps:=tmps1,params:=params1,assign:=ca1,body:=cb1,defers:=E1.ρ dn1}) hbd1
  (w1.putObj (E.ρ l) (.loop {state:= .busy,pending:=Fu pe1,fn:=fn1',tmps:=tmps1,params:=params1,assign:=ca1,body:=cb1,defers:=E1.ρ dn1})) (by rw[hρ1];rfl) rfl rfl rfl
  ⟨fn1',tmps1,params1,ca1,cb1,rfl,htr1,hps1,hnt1⟩
 have hSR2:=hR1.stp hS2 (.refl _ _)
 have hfe:cP E1 (some l)=(cP E rd).inRound (E.ρ l):=by unfold cP Fence.inRound;simp[hρ1]
 rw[←hfe]
 refine hex (some l) fn F body t1 [] _ ct1 e t2 [] M3 ct' hx2 nt cb hsb E1 c1 _ _ hSR2 _ ?_
 rintro a2 w3 ⟨E3,c3,hS3,hG3,hR3⟩
 obtain⟨hcl3,hbd3,ob3,hob3,fn3',tmps3,params3,ca3,cb3,rfl,htr3,hps3,hnt3⟩:=hR3.cx.rel.has _ _ (aq hM3)
 have hρ3:E3.ρ l=E.ρ l:=(hS3.ext.ρ l hcl1).trans hρ1
 have fin:∀(jump:Option Code),bW4 s4=(if jump.isNone then .ready else .done)→Fu pe4=jump→r=jump.isNone→
  ∃v' w',(Instr.endRound (E.ρ l) jump).run P w3= .ok v' w'∧ ∃E' c',Ending.returned v'= .returned (conc E' (.b r))∧lw P F E M c w E' (M3.set l (.loop s4 pe4 fn3 tm3 ps3 a3 b3 dn3)) c' w'∧bd c' (.b r)∧j2 c ct c' ct':=by
  intro jump h1 h2 h3;have her:=run_endRound (P:=P) (l:=E.ρ l) jump (by rw[←hρ3];exact hob3);refine⟨_,_,her,E3,c3,by rw[h3];rfl,?_,trivial,hG1.trans hG3⟩;refine((hS1.trans hS2).trans hS3).trans (hR3.cx.rel.write l _ (.loop s4 pe4 fn3 tm3 ps3 a3 b3 dn3) hM3 (.loop {state:=if jump.isNone then .ready else .done,pending:=jump,fn:=fn3',tmps:=tmps3,params:=params3,assign:=ca3,body:=cb3,defers:=E3.ρ dn3}) hbd3 _ (by rw[hρ3];rfl) rfl rfl rfl ?_);exact⟨fn3',tmps3,params3,ca3,cb3,by rw[h1,h2],htr3,hps3,hnt3⟩
 rcases hcase with⟨rfl,rfl,rfl,rfl⟩|⟨rfl,rfl,rfl,rfl⟩|⟨id,rfl,rfl,rfl,rfl⟩
 ·exact fin none rfl rfl rfl
 ·exact fin (some .ret) rfl rfl rfl
 ·exact fin (some (.exit id)) rfl rfl rfl
end
section
variable{Fn:Fence}{n:Nat}{P:Program}{b:Frame}{a:Act}{k:List Item}{cs:List Frame}{w:World}{Q:Exit→Act→World→Prop}
theorem Da{c:Code}:step P (lone (b.atR a (.code (.scope c)::k)) cs w)= .next (lone (b.atR a (.code c:: .inScope c::k)) cs w):=
 step_lone_go (by simp[stepG,stepG.exec,Frame.atR])
theorem y0{c:Code}:step P (lone (b.atR a (.inScope c::k)) cs w)= .next (lone (b.atR a k) cs w):=
 step_lone_go (by simp[stepG,stepG.exec,Frame.atR])
def cR(body:Code)(J:Code→Act→World→Prop)(Q:Exit→Act→World→Prop):Exit→Act→World→Prop
 | .goto l,a,w=>match findLabel body l with
   |some rest=>J rest a w
   |none=>Q (.goto l) a w
 |e,a,w=>Q e a w
def gI(Fn:Fence)(n:Nat)(P:Program)(body:Code)(Q:Exit→Act→World→Prop):Nat→Code→Act→World→Prop
 |0,_,_,_=>False
 |m+1,c,a,w=>c.wpIn Fn n P (cR body (gI Fn n P body Q m) Q) a w
theorem Gy{body:Code}(m:Nat)(h:gI Fn n P body Q m body a w):(Code.scope body).wpIn Fn n P Q a w:=by
 intro b k cs hro hb hr
 have hx:∀id,exitTo id (.inScope body::k)=exitTo id k:=fun id=>by simp[exitTo]
 have key:∀m c a w,gI Fn n P body Q m c a w→
  ∃e a' w',Q e a' w'∧ArrivesIn (Machine.fenced P Fn) P (lone (b.atR a (.code c:: .inScope body::k)) cs w) b k cs e a' w':=by
  intro m
  induction m with
  |zero=>intro c a w h;exact h.elim
  |succ m ih=>
   intro c a w h;obtain⟨e,a₁,w₁,hq,harr⟩:=h b (.inScope body::k) cs hro hb hr;cases e with
   |normal=>exact⟨.normal,a₁,w₁,hq,StepsIn.trans harr (.one (fenced_calm hb hr rfl) y0)⟩
   |exit id=>
    exact⟨.exit id,a₁,w₁,hq,fun k' hk=>harr.1 k' (by rw[hx];exact hk),
     fun hr' hk=>harr.2 hr' (by rw[hx];exact hk)⟩
   |goto l=>
    cases hf:findLabel body l with
    |none=>
     have hq':Q (.goto l) a₁ w₁:=by
      have:cR body (gI Fn n P body Q m) Q (.goto l) a₁ w₁:=hq;unfold cR at this;dsimp only at this;rw[hf]at this;exact this
     have hg:gotoIn l (.inScope body::k)=gotoIn l k:=by simp[gotoIn,hf]
     exact⟨.goto l,a₁,w₁,hq',fun k' hk=>harr.1 k' (by rw[hg];exact hk),fun hr' hk=>harr.2 hr' (by rw[hg];exact hk)⟩
    |some rest=>
     have hq':gI Fn n P body Q m rest a₁ w₁:=by
      have:cR body (gI Fn n P body Q m) Q (.goto l) a₁ w₁:=hq;unfold cR at this;dsimp only at this;rw[hf]at this;exact this
     obtain⟨e₂,a₂,w₂,hq₂,harr₂⟩:=ih rest a₁ w₁ hq';have hg:gotoIn l (.inScope body::k)=some (.code rest:: .inScope body::k):=by simp[gotoIn,hf]
     exact⟨e₂,a₂,w₂,hq₂,.of_steps (harr.1 _ hg) harr₂⟩
   |ret=>exact⟨_,a₁,w₁,hq,harr⟩
   |panic ch=>exact⟨_,a₁,w₁,hq,harr⟩
   |outgrown=>exact⟨_,a₁,w₁,hq,harr⟩
 obtain⟨e,a',w',hq,harr⟩:=key m body a w h
 exact⟨e,a',w',hq,.of_steps (.one (fenced_calm hb hr rfl) Da) harr⟩
end
section
variable{P:Program}{E E':cE}{F:RO}{M M':Mem}{c c':Nat→Prop}{ct ct' nt:Nat}{w w':World}{t t':T}{d d':List Nat}{a:Act}{rd:Option Nat}
def b59(P:Program)(k:Kn):Prop:=∀(F:RO) (rd:Option Nat) (nt id:Nat) (ops:Array Oper) (cos:List CO),mV P nt ops ops.toList=some cos→ ∀(n:Nat) (l:List (Nat×Nat×CO)),yy ops cos= .dreg n l→
 ∀(t:T) (d:List Nat) (M:Mem) (ct:Nat) (e:Ex) (t':T) (d':List Nat) (M':Mem) (ct':Nat),Xv n l (rR k F) (.mk t d M ct)= .k e (.mk t' d' M' ct')→
 ∀(E:cE) (c:Nat→Prop) (w:World) (a:Act),SR P F rd nt E c w a t d M ct→ ∀Q:Exit→Act→World→Prop,(∀a' w',PV P F rd nt E c w M ct t' d' M' ct' a' w'→Q (qy e) a' w')→(Code.region id ops true).wpIn (cP E rd) 0 P Q a w
theorem OR{pe:zH}{n:Nat}{Fn:Fence}{Q:Exit→Act→World→Prop}{e:Ex}{s:St}{s':St}(h:AB s pe= .k e s')(hq:Q (qy e) a w):
 (match Fu pe with
  |none=>Q .normal a w
  |some c=>c.wpIn Fn n P Q a w):=by
 cases pe with
 |none=>
  have h':Rs.k .nrm s= .k e s':=h;injection h' with h1 h2
  subst h1;exact hq
 |ret=>
  have h':Rs.k .ret s= .k e s':=h;injection h' with h1 h2
  subst h1;exact wpIn_ret hq
 |ext id=>
  have h':Rs.k (.ext id) s= .k e s':=h;injection h' with h1 h2
  subst h1;exact wpIn_exit hq
theorem P9{pe:zH}{e:Ex}{s s':St}(h:AB s pe= .k e s'):s'=s:=by
 cases pe with
 |none=>have h':Rs.k .nrm s= .k e s':=h;injection h' with h1 h2;exact h2.symm
 |ret=>have h':Rs.k .ret s= .k e s':=h;injection h' with h1 h2;exact h2.symm
 |ext id=>have h':Rs.k (.ext id) s= .k e s':=h;injection h' with h1 h2;exact h2.symm
theorem CW{l:Nat}{r:RC}{e:Ex}{s':St}(h:nv t d l r= .k e s'):∃v M1 c1 s pe fn tm ps a b dn,r= .k v M1 c1∧M1.get l=some (.loop s pe fn tm ps a b dn)∧s≠ .busy∧
 AB (.mk t d (M1.set l (.loop .exhausted pe fn tm ps a b dn)) c1) pe= .k e s':=by
 cases r with
 |f=>cases(show Rs.f= .k e s' from h)
 |k v M1 c1=>
  have h1:YZ t d M1 c1 l (f5 (M1.get l))= .k e s':=h;cases hl:f5 (M1.get l)with
  |f=>rw[hl]at h1;cases(show Rs.f= .k e s' from h1)
  |k s pe fn tm ps a b dn=>
   rw[hl]at h1;refine⟨v,M1,c1,s,pe,fn,tm,ps,a,b,dn,rfl,fw hl,?_,?_⟩
   ·rintro rfl;cases(show Rs.f= .k e s' from h1)
   ·unfold YZ at h1;split at h1
    ·cases h1
    ·rename_i heq;injection heq with e1 e2 e3 e4 e5 e6 e7 e8
     subst e1 e2 e3 e4 e5 e6 e7 e8;split at h1
     ·cases h1
     ·rw[Tr.force_eq]at h1;exact h1
theorem EB{k:Kn}{v:V}{args:List V}{x:V}(h:mU k v args M ct= .k x M' ct'):∃f first caps,v= .f f first caps∧mo k f (first++(args++caps)) M ct= .k x M' ct':=by
 cases v with
 |f f first caps=>exact⟨f,first,caps,rfl,h⟩
 |_=>cases(show RC.f= .k x M' ct' from h)
theorem MA{Φ:Nat→Option CF}{ex:xz}(hΦ:fo P Φ)(hex:BI P ex){fn₀:Nat}{g:Operand}{ps:Array Tmp}{ca cb:Code}{x:X}{asg body:CC}(hx:aY g=some x)
 (hsa:Sim P nt ca asg) (hsb:Sim P nt cb body) (hps:∀p∈ps.toList,p<nt) {dn:Nat} {e:Ex} {s':St}
 (h:pK x (ps.toList.map bk) asg body (.mk Φ ex rd fn₀ F) t d M ct dn= .k e s') (hdn:c dn)
 (hSR:SR P F rd nt E c w a t d M ct) {Q:Exit→Act→World→Prop} {fn:Nat} {mark:List Deferred} {w₁:World}
 {w₀:World} {a₀:Act} (he:(Instr.enterLoop fn a₀.tmps ps ca cb (rd.map E.ρ)).run P w₀= .ok (w.heap.size,mark) w₁)
 (hw₁:w₁=w.alloc (.loop {state:= .ready,pending:=none,fn,tmps:=a₀.tmps,params:=ps,assign:=ca,body:=cb,defers:=E.ρ dn}))
 (ha:a={a₀ with defers:=mark++a₀.defers})
 (hQ:∀t' d' M' ct',s'= .mk t' d' M' ct'→ ∀a' w',PV P F rd nt E c w M ct t' d' M' ct' a' w'→Q (qy e) a' w'):
 ∃(l:Nat) (mark:List Deferred) (w₁:World) (d:Deferred) (w₁':World) (f:FuncId) (args:Array Value) (w₂:World),
  (Instr.enterLoop fn a₀.tmps ps ca cb (cP E rd).round).run P w₀= .ok (l,mark) w₁∧
  (resolve a₀.eval (rangeCall g l) 0).run P w₁= .ok d w₁'∧
  (∀f',Target.leads P w₁' d.target d.args=some f'→(cP E rd).fn f')∧
  (invoke d.target d.args).run P w₁'= .ok (.enter f args) w₂∧
  ((cP E rd).depth.isSome=true→1≤0)∧
  CallsIn (cP E rd) (0-1) P f args w₂ (rangePost (cP E rd) 0 P l Q {a₀ with defers:=mark++a₀.defers}):=by
 have h1:nv t d ct (mU (.mk Φ ex rd fn₀ F) (x.ev t) [.y ct] (M.set ct (.loop .ready .none fn₀ t (ps.toList.map bk) asg body dn)) (ct+1))= .k e s':=by
  unfold pK at h;dsimp only at h;rw[Tr.force_eq,aN]at h;exact h
 obtain⟨v,M1,c1,s,pe,fn1,tm1,ps1,a1,b1,dn1,hr,hM1,hbusy,hpend⟩:=CW h1
 obtain⟨f,first,caps,hv,hcf⟩:=EB hr
 have htm:a₀.tmps=a.tmps:=by rw[ha]
 obtain⟨E1,hS1,hE1,hρ1,hβ1,_⟩:=hSR.cx.rel.alloc (.loop .ready .none fn₀ t (ps.toList.map bk) asg body dn) (.loop {state:= .ready,pending:=none,fn,tmps:=a₀.tmps,params:=ps,assign:=ca,body:=cb,defers:=E.ρ dn}) ct 0 (fun b=>c b∨b=ct) (hSR.fr ct (ah _)) (.inr rfl) (fun _ h=> .inl h)
  ⟨fun p=>dp (fun _ h=> .inl h) _ (hSR.cx.bt p),.inl hdn⟩ w₁ (by rw[hw₁];rfl) (by rw[hw₁];rfl) (by rw[hw₁];rfl) (by rw[hw₁];rfl)
  (fun E2 hE2 _ _ _=>⟨fn,a₀.tmps,ps,ca,cb,by rw[hE2.ρ dn hdn];rfl,by rw[htm];exact hSR.cx.tr.ext hE2 hSR.cx.bt,rfl,nt,by rw[htm];exact hSR.sz,hps,hsa,hsb⟩)
 have hG1:j2 c ct (fun b=>c b∨b=ct) (ct+1):=gc c ct
 have hSR1:=hSR.stp hS1 hG1
 have ev:=hSR1.cx.ev hx
 rw[hv]at ev
 have hcall:=ir hΦ hex rd fn₀ F
 have hcf':mo (rR (.mk Φ ex rd fn₀ F) F) f (first++([.y ct]++caps)) (M.set ct (.loop .ready .none fn₀ t (ps.toList.map bk) asg body dn)) (ct+1)= .k v M1 c1:=hcf
 obtain⟨fn',hfn,hbo,hnm,hC⟩:=hcall F f _ _ _ _ _ _ hcf' E1 _ w₁ hSR1.cx.rel hSR1.cx.glob hSR1.cx.big hSR1.fr (ip ev.2.1 (ip (⟨.inr rfl,trivial⟩) ev.2.2))
 have hcfn:(callFunc f (aw E1 (first++([.y ct]++caps))).toArray).run P w₁= .ok (.enter f (aw E1 (first++([.y ct]++caps))).toArray) w₁:=by
  have h1:¬fn'.name= "runtime.NumGoroutine" :=by simpa using hnm
  have h2:¬fn'.body=none:=fun e=>by rw[e]at hbo;cases hbo
  simp[callFunc,hfn,h1,h2]
 have hge:a₀.eval g= .func (.func f) (aw E1 first).toArray (aw E1 caps).toArray:=by
  have:a.eval g=a₀.eval g:=by rw[ha];rfl
  rw[←this,ev.1];rfl
 refine⟨w.heap.size,mark,w₁,⟨.fn (.func f) (aw E1 caps).toArray,(aw E1 first).toArray++#[.func (.yield w.heap.size) #[] #[]]⟩,w₁,f,(aw E1 (first++([.y ct]++caps))).toArray,w₁,he,?_,fun _ _=>trivial,?_,fun hd=>by simp[cP]at hd,?_⟩
 ·have hm:(rangeCall g w.heap.size).args.map a₀.eval=#[.func (.yield w.heap.size) #[] #[]]:=by simp[Act.eval]
  show(Deferred.ofValue (a₀.eval g) ((rangeCall g w.heap.size).args.map a₀.eval)).run P w₁=_;rw[hm,hge];rfl
 ·have:(aw E1 first).toArray++#[.func (.yield w.heap.size) #[] #[]]++(aw E1 caps).toArray=(aw E1 (first++([.y ct]++caps))).toArray:=by
   rw[gM,gM];simp[aw,conc,hρ1]
  simp only[invoke,this];exact hcfn
 ·rw[←gv hS1.ext hSR.rd];refine sS (hC.mono ?_);rintro e2 w2 ⟨E2,c2,rfl,hS2,hb2,hG2⟩;obtain⟨hcl,hbd,ob,hob,fn3,tmps3,params3,ca3,cb3,rfl,htr3,hps3,hnt3⟩:=hS2.rel.has _ _ (aq hM1);have hρ2:E2.ρ ct=w.heap.size:=(hS2.ext.ρ ct (.inr rfl)).trans hρ1;have hen:=run_endLoop (P:=P) (l:=w.heap.size) (by rw[←hρ2];exact hob) (by cases s<;>first|exact absurd rfl hbusy|(intro h;cases h));refine⟨_,_,hen,?_⟩
  have hS3:=hS2.rel.write ct _ (.loop .exhausted pe fn1 tm1 ps1 a1 b1 dn1) hM1 (.loop {state:= .exhausted,pending:=Fu pe,fn:=fn3,tmps:=tmps3,params:=params3,assign:=ca3,body:=cb3,defers:=E2.ρ dn1}) hbd
   (w2.putObj w.heap.size (.loop {state:= .exhausted,pending:=Fu pe,fn:=fn3,tmps:=tmps3,params:=params3,assign:=ca3,body:=cb3,defers:=E2.ρ dn1})) (by rw[hρ2];rfl) rfl rfl rfl
   ⟨fn3,tmps3,params3,ca3,cb3,rfl,htr3,hps3,hnt3⟩
  have hst:=P9 hpend;refine OR hpend ?_;have hR:=(hSR1.stp hS2 hG2).stp hS3 (.refl _ _);rw[←ha];refine hQ _ _ _ _ hst a _ ⟨E2,c2,(hS1.trans hS2).trans hS3,hG1.trans hG2,hR⟩
end
section
variable{P:Program}{E E':cE}{F:RO}{M M':Mem}{c c':Nat→Prop}{ct ct' nt:Nat}{w w':World}{t t':T}{d d':List Nat}{a:Act}{rd:Option Nat}
theorem FD{f:Kn→St→Rs}{k:Kn}{r:Rs}{e:Ex}{s':St}(h:lf f k r= .k e s'):(∃s1,r= .k .nrm s1∧f k s1= .k e s')∨(e≠ .nrm∧r= .k e s'):=by
 cases r with
 |f=>cases(show Rs.f= .k e s' from h)
 |k e1 s1=>
  cases e1 with
  |nrm=>exact .inl ⟨s1,rfl,h⟩
  |ret=>have h':Rs.k .ret s1= .k e s':=h;injection h' with h1 h2;subst h1 h2;exact .inr ⟨(fun h=>by cases h),rfl⟩
  |ext id=>have h':Rs.k (.ext id) s1= .k e s':=h;injection h' with h1 h2;subst h1 h2;exact .inr ⟨(fun h=>by cases h),rfl⟩
  |gto l=>have h':Rs.k (.gto l) s1= .k e s':=h;injection h' with h1 h2;subst h1 h2;exact .inr ⟨(fun h=>by cases h),rfl⟩
theorem tj{b:CC}{k:Kn}{r:Rs}{e:Ex}{s':St}(h:gV b k r= .k e s'):(∃s1,r= .k .nrm s1∧mS k (.loop b) s1= .k e s')∨(e≠ .nrm∧r= .k e s'):=by
 cases r with
 |f=>cases(show Rs.f= .k e s' from h)
 |k e1 s1=>
  cases e1 with
  |nrm=>exact .inl ⟨s1,rfl,h⟩
  |ret=>have h':Rs.k .ret s1= .k e s':=h;injection h' with h1 h2;subst h1 h2;exact .inr ⟨(fun h=>by cases h),rfl⟩
  |ext id=>have h':Rs.k (.ext id) s1= .k e s':=h;injection h' with h1 h2;subst h1 h2;exact .inr ⟨(fun h=>by cases h),rfl⟩
  |gto l=>have h':Rs.k (.gto l) s1= .k e s':=h;injection h' with h1 h2;subst h1 h2;exact .inr ⟨(fun h=>by cases h),rfl⟩
theorem pN{K:Act→World→Prop}{Q:Exit→Act→World→Prop}{e:Ex}(he:e≠ .nrm)(h:Q (qy e) a w):Exit.then K Q (qy e) a w:=by
 cases e with
 |nrm=>exact absurd rfl he
 |_=>exact h
theorem AA{id:Nat}{r:Rs}{e:Ex}{s':St}(h:fL id r= .k e s'):∃e1,r= .k e1 s'∧ ∀(Q:Exit→Act→World→Prop) (a:Act) (w:World),Q (qy e) a w→Exit.inBlock id Q (qy e1) a w:=by
 cases r with
 |f=>cases(show Rs.f= .k e s' from h)
 |k e1 s1=>
  cases e1 with
  |nrm=>have h':Rs.k .nrm s1= .k e s':=h;injection h' with h1 h2;subst h1 h2;exact⟨_,rfl,fun _ _ _ h=>h⟩
  |ret=>have h':Rs.k .ret s1= .k e s':=h;injection h' with h1 h2;subst h1 h2;exact⟨_,rfl,fun _ _ _ h=>h⟩
  |gto l=>have h':Rs.k (.gto l) s1= .k e s':=h;injection h' with h1 h2;subst h1 h2;exact⟨_,rfl,fun _ _ _ h=>h⟩
  |ext id'=>
   have h':Bool.rec (motive:=fun _=>Rs) (.k (.ext id') s1) (.k .nrm s1) (Nat.beq id' id)= .k e s':=h;rw[bb,bp]at h';split at h'
   ·rename_i hid;injection h' with h1 h2;subst h1 h2
    exact⟨_,rfl,fun Q a w h=>by simp only[qy,Exit.inBlock];rw[ac (bc hid)];exact h⟩
   ·rename_i hid;injection h' with h1 h2;subst h1 h2
    exact⟨_,rfl,fun Q a w h=>by simp only[qy,Exit.inBlock];rw[ab (by simpa using hid)];exact h⟩
def bB8(P:Program)(ex:xz)(m:Nat):Prop:=∀(rd:Option Nat) (fn:Nat) (F:RO) (cc tbl:CC) (t:T) (d:List Nat) (M:Mem) (ct:Nat) (e:Ex) (t':T) (d':List Nat) (M':Mem) (ct':Nat),
 ex rd fn F (.scope cc tbl) (.mk t d M ct)= .k e (.mk t' d' M' ct')→ ∀(nt:Nat) (body code:Code),Sim P nt code cc→ay7 P nt body tbl→ ∀(E:cE) (c:Nat→Prop) (w:World) (a:Act),SR P F rd nt E c w a t d M ct→
  ∀Q:Exit→Act→World→Prop,(∀a' w',PV P F rd nt E c w M ct t' d' M' ct' a' w'→Q (qy e) a' w')→gI (cP E rd) 0 P body Q m code a w
theorem qQ{tbl:CC}{k:Kn}{r:Rs}{e:Ex}{s':St}(h:js tbl k r= .k e s'):(∃l s1 cl,r= .k (.gto l) s1∧kB l tbl=some cl∧mS k (.scope cl tbl) s1= .k e s')∨((∀l,qy e≠ .goto l)∧r= .k e s'):=by
 cases r with
 |f=>cases(show Rs.f= .k e s' from h)
 |k e1 s1=>
  cases e1 with
  |gto l=>
   have h':sg tbl k s1 (kB l tbl)= .k e s':=h;cases hf:kB l tbl with
   |none=>rw[hf]at h';cases(show Rs.f= .k e s' from h')
   |some cl=>rw[hf]at h';exact .inl ⟨l,s1,cl,rfl,hf,h'⟩
  |nrm=>have h':Rs.k .nrm s1= .k e s':=h;injection h' with h1 h2;subst h1 h2;exact .inr ⟨(fun l h=>by cases h),rfl⟩
  |ret=>have h':Rs.k .ret s1= .k e s':=h;injection h' with h1 h2;subst h1 h2;exact .inr ⟨(fun l h=>by cases h),rfl⟩
  |ext id=>have h':Rs.k (.ext id) s1= .k e s':=h;injection h' with h1 h2;subst h1 h2;exact .inr ⟨(fun l h=>by cases h),rfl⟩
theorem vN{body:Code}{J:Code→Act→World→Prop}{Q:Exit→Act→World→Prop}{e:Exit}(he:∀l,e≠ .goto l)(h:Q e a w):cR body J Q e a w:=by
 cases e with
 |goto l=>exact absurd rfl (he l)
 |_=>exact h
theorem Dd{f:Nat→Option CC}:∀{ls:List Nat} {tbl:CC},MO f ls=some tbl→ ∀l cl,kB l tbl=some cl→f l=some cl
 |[],tbl,h,l,cl,hf=>by
  obtain rfl:=af h;cases hf
 |l'::ls,tbl,h,l,cl,hf=>by
  rw[MO]at h;split at h
  ·rename_i c t h1 h2;obtain rfl:=af h;have hf':(bif Nat.beq l' l then some c else kB l t)=some cl:=hf;rw[bp]at hf';by_cases e:l'=l
   ·rw[ae e,cond_true]at hf';obtain rfl:=af hf';rw[←e];exact h1
   ·rw[ag e,cond_false]at hf';exact Dd h2 l cl hf'
  ·cases h
theorem Y0{Φ:Nat→Option CF}{ex:xz}(hΦ:fo P Φ)(hex:BI P ex){m:Nat}(hlp:bB5 P ex m)(hsc:bB8 P ex m)(hdr:∀rd fn F,b59 P (.mk Φ ex rd fn F)):∀(j:Nat) (code:Code) (cc:CC),kv P nt j code=some cc→
 ∀(rd:Option Nat) (fn:Nat) (F:RO) (t:T) (d:List Nat) (M:Mem) (ct:Nat) (e:Ex) (t':T) (d':List Nat) (M':Mem) (ct':Nat),
 b5 cc (.mk Φ ex rd fn F) (.mk t d M ct)= .k e (.mk t' d' M' ct')→ ∀(E:cE) (c:Nat→Prop) (w:World) (a:Act),SR P F rd nt E c w a t d M ct→
 ∀Q:Exit→Act→World→Prop,(∀a' w',PV P F rd nt E c w M ct t' d' M' ct' a' w'→Q (qy e) a' w')→code.wpIn (cP E rd) 0 P Q a w:=by
 intro j
 induction j with
 |zero=>intro code cc hc;cases hc
 |succ j ih=>
  intro code cc hc rd fn F t d M ct e t' d' M' ct' hx E c w a h Q hQ;have hcall:=ir hΦ hex rd fn F;have hy:=xf (Φ:=Φ) hex rd fn F;unfold kv at hc;cases code with
  |skip=>
   obtain rfl:=af hc;have hx':Rs.k .nrm (.mk t d M ct)= .k e (.mk t' d' M' ct'):=hx;injection hx' with h1 h2;injection h2 with e1 e2 e3 e4;subst h1 e1 e2 e3 e4
   exact wpIn_skip (hQ a w h.res)
  |label l=>
   obtain rfl:=af hc;have hx':Rs.k .nrm (.mk t d M ct)= .k e (.mk t' d' M' ct'):=hx;injection hx' with h1 h2;injection h2 with e1 e2 e3 e4;subst h1 e1 e2 e3 e4
   exact wpIn_label (hQ a w h.res)
  |region id ops dr=>
   cases dr with
   |false=>
    obtain⟨cos,hcos,rfl⟩:=b9.1 hc;have hx':qP (du cos (.mk Φ ex rd fn F) (.mk t d M ct))= .k e (.mk t' d' M' ct'):=hx;cases hs:du cos (.mk Φ ex rd fn F) (.mk t d M ct)with
    |none=>rw[hs]at hx';cases(show Rs.f= .k e (.mk t' d' M' ct')from hx')
    |some s1=>
     rw[hs]at hx';have hx2:Rs.k .nrm s1= .k e (.mk t' d' M' ct'):=hx';injection hx2 with h1 h2;subst h1 h2
     refine wpIn_region ?_;have:=FL (F:=F) (rd:=rd) (nt:=nt) hcall hy (ops:=ops) (Q:=Q) ops.toList cos 0 E c w a t M ct rfl hcos hs h hQ;rw[←List.range_eq_range']at this
     simpa using this
   |true=>
    dsimp only at hc;split at hc
    ·rename_i cos hcos;have hc':=af hc;cases hd:yy ops cos with
     |dreg n l=>
      rw[hd]at hc';subst hc';exact hdr rd fn F F rd nt id ops cos hcos n l hd t d M ct e t' d' M' ct' hx E c w a h Q hQ
     |_=>
      exfalso;have hd':=hd;unfold yy XM at hd';have hb:∀(b:Bool) (x y:CC),(bif b then x else y)=x∨(bif b then x else y)=y:=by intro b;cases b<;>simp
      rcases hb (CV ops.toList (Region.before ops).toList ops.size (oJ (Region.before ops).toList cos ops.size 0)) (.dreg ops.size (oJ (Region.before ops).toList cos ops.size 0)) .bad with hh|hh
      ·rw[hh]at hd';cases hd'
      ·rw[hh]at hd';rw[hd]at hc';rw[←hd']at hc';subst hc';cases(show Rs.f= .k e (.mk t' d' M' ct')from hx)
    ·cases hc
  |seq x y=>
   dsimp only at hc;split at hc
   ·rename_i cx cy h1 h2;obtain rfl:=af hc;have hx':lf (b5 cy) (.mk Φ ex rd fn F) (b5 cx (.mk Φ ex rd fn F) (.mk t d M ct))= .k e (.mk t' d' M' ct'):=hx;refine wpIn_seq ?_;rcases FD hx' with⟨⟨t1,d1,M1,ct1⟩,hx1,hx2⟩|⟨hne,hx1⟩
    ·refine ih x cx h1 rd fn F t d M ct .nrm t1 d1 M1 ct1 hx1 E c w a h _ ?_;rintro a1 w1 ⟨E1,c1,hS,hG,hR⟩;show y.wpIn (cP E rd) 0 P Q a1 w1;rw[←gv hS.ext h.rd];exact ih y cy h2 rd fn F t1 d1 M1 ct1 e t' d' M' ct' hx2 E1 c1 w1 a1 hR Q fun a' w' hr=>hQ a' w' (hr.trans hS hG)
    ·exact ih x cx h1 rd fn F t d M ct e t' d' M' ct' hx1 E c w a h _ fun a' w' hr=>pN hne (hQ a' w' hr)
   ·cases hc
  |cond o x y=>
   dsimp only at hc;split at hc
   ·rename_i xo cx cy h0 h1 h2;obtain rfl:=af hc;have hx':LX (xo.ev t) Rs.f (fun b=>Bool.rec (motive:=fun _=>Rs) (b5 cy (.mk Φ ex rd fn F) (.mk t d M ct)) (b5 cx (.mk Φ ex rd fn F) (.mk t d M ct)) b)= .k e (.mk t' d' M' ct'):=hx;have ev:=h.cx.ev h0;cases hv:xo.ev t with
    |b v=>
     rw[hv]at hx' ev;have hx2:Bool.rec (motive:=fun _=>Rs) (b5 cy (.mk Φ ex rd fn F) (.mk t d M ct)) (b5 cx (.mk Φ ex rd fn F) (.mk t d M ct)) v= .k e (.mk t' d' M' ct'):=hx';cases v with
     |true=>exact wpIn_cond_true ev.1 (ih x cx h1 rd fn F t d M ct e t' d' M' ct' hx2 E c w a h Q hQ)
     |false=>exact wpIn_cond_false ev.1 (ih y cy h2 rd fn F t d M ct e t' d' M' ct' hx2 E c w a h Q hQ)
    |_=>rw[hv]at hx';cases(show Rs.f= .k e (.mk t' d' M' ct')from hx')
   ·cases hc
  |block id x=>
   obtain⟨cx,h1,rfl⟩:=b9.1 hc;have hx':fL id (b5 cx (.mk Φ ex rd fn F) (.mk t d M ct))= .k e (.mk t' d' M' ct'):=hx;obtain⟨e1,hx1,hq⟩:=AA hx';exact wpIn_block (ih x cx h1 rd fn F t d M ct e1 t' d' M' ct' hx1 E c w a h _ fun a' w' hr=>hq Q a' w' (hQ a' w' hr))
  |loop x=>
   obtain⟨cx,h1,rfl⟩:=b9.1 hc;have hx':gV cx (.mk Φ ex rd fn F) (b5 cx (.mk Φ ex rd fn F) (.mk t d M ct))= .k e (.mk t' d' M' ct'):=hx;refine wpIn_loop_rounds (m+1) ?_;rw[roundsIn_succ];rcases tj hx' with⟨⟨t1,d1,M1,ct1⟩,hx1,hx2⟩|⟨hne,hx1⟩
   ·refine ih x cx h1 rd fn F t d M ct .nrm t1 d1 M1 ct1 hx1 E c w a h _ ?_;rintro a1 w1 ⟨E1,c1,hS,hG,hR⟩;show Code.roundsIn (cP E rd) 0 P x Q m a1 w1;rw[←gv hS.ext h.rd];have hx3:ex rd fn F (.loop cx) (.mk t1 d1 M1 ct1)= .k e (.mk t' d' M' ct'):=hx2;exact hlp rd fn F cx t1 d1 M1 ct1 e t' d' M' ct' hx3 nt x ⟨j,h1⟩ E1 c1 w1 a1 hR Q fun a' w' hr=>hQ a' w' (hr.trans hS hG)
   ·exact ih x cx h1 rd fn F t d M ct e t' d' M' ct' hx1 E c w a h _ fun a' w' hr=>pN hne (hQ a' w' hr)
  |rangeFunc g ps ca cb=>
   dsimp only at hc;split at hc
   ·cases hc
   ·rename_i hps0;have hps:∀p∈ps.toList,p<nt:=by
     intro p hp;have h1:(ps.toList.all fun p=>decide (p<nt))=true:=by simpa using hps0
     exact bc (List.all_eq_true.1 h1 p hp)
    split at hc
    ·rename_i xg asg body h0 h1 h2;obtain rfl:=af hc;refine wpIn_rangeFunc fun fn' _=>?_;cases rd with
     |none=>
      have hx':pK xg (ps.toList.map bk) asg body (.mk Φ ex none fn F) t (ct::d) (M.set ct (.defs false)) (ct+1) ct= .k e (.mk t' d' M' ct'):=by
       have:(M.set ct (.defs false)).force (fun M=>fN (Nat.succ ct) fun c'=>pK xg (ps.toList.map bk) asg body (.mk Φ ex none fn F) t (ct::d) M c' ct)= .k e (.mk t' d' M' ct'):=hx
       rwa [Tr.force_eq,aN]at this
      obtain⟨E1,hS1,hE1,hρ1,hβ1,_⟩:=h.cx.rel.alloc (.defs false) (.deferred (some [])) ct 0 (fun b=>c b∨b=ct) (h.fr ct (ah _)) (.inr rfl) (fun _ h=> .inl h) trivial (w.alloc (.deferred (some []))) rfl rfl rfl rfl (fun _ _ _ _ _=>rfl);have hG1:j2 c ct (fun b=>c b∨b=ct) (ct+1):=gc c ct;have hR1:=h.stp hS1 hG1
      have hR2:SR P F none nt E1 (fun b=>c b∨b=ct) (w.alloc (.deferred (some []))) {a with defers:=[{target:= .collected w.heap.size,args:=#[]}]++a.defers} t (ct::d) (M.set ct (.defs false)) (ct+1):=
       ⟨⟨hR1.cx.rel,hR1.cx.glob,hR1.cx.big,hR1.cx.tr,hR1.cx.bt⟩,hR1.fr,by rw[List.map_cons,hρ1,←hR1.df];rfl,fun b hb=>by
         rcases bj.1 hb with rfl|hb
         ·exact .inr rfl
         ·exact hR1.dc b hb,hR1.sz,hR1.rd⟩
      have hf:cP E none=cP E1 none:=rfl;rw[hf];have hen:=run_enterLoop_outer (P:=P) (w:=w) fn' a.tmps ps ca cb;have hsz:(w.alloc (.deferred (some []))).heap.size=w.heap.size+1:=World.size_alloc _ _;rw[←hsz]at hen;refine MA hΦ hex h0 ⟨j,h1⟩ ⟨j,h2⟩ hps hx' (.inr rfl) hR2 hen (by rw[hρ1]) rfl ?_;intro t2 d2 M2 ct2 hs a' w' hr;injection hs with e1 e2 e3 e4;subst e1 e2 e3 e4
      exact hQ a' w' (hr.trans hS1 hG1)
     |some l=>
      have hx':P8 xg (ps.toList.map bk) asg body (.mk Φ ex (some l) fn F) t d M ct (f5 (M.get l))= .k e (.mk t' d' M' ct'):=hx;cases hl:f5 (M.get l)with
      |f=>rw[hl]at hx';cases(show Rs.f= .k e (.mk t' d' M' ct')from hx')
      |k s pe fnl tml psl al bl dnl=>
       rw[hl]at hx';have hx2:pK xg (ps.toList.map bk) asg body (.mk Φ ex (some l) fn F) t d M ct dnl= .k e (.mk t' d' M' ct'):=hx';obtain⟨hcl,hbd,ob,hob,fn3,tmps3,params3,ca3,cb3,rfl,_⟩:=h.cx.rel.has _ _ (aq (fw hl));have hen:=run_enterLoop_inner (P:=P) hob fn' a.tmps ps ca cb;refine MA hΦ hex h0 ⟨j,h1⟩ ⟨j,h2⟩ hps hx2 hbd.2 h hen rfl ?_ ?_
       ·cases a;rfl
       ·intro t2 d2 M2 ct2 hs a' w' hr;injection hs with e1 e2 e3 e4;subst e1 e2 e3 e4
        exact hQ a' w' hr
    ·cases hc
  |exit id=>
   obtain rfl:=af hc;have hx':Rs.k (.ext id) (.mk t d M ct)= .k e (.mk t' d' M' ct'):=hx;injection hx' with h1 h2;injection h2 with e1 e2 e3 e4;subst h1 e1 e2 e3 e4
   exact wpIn_exit (hQ a w h.res)
  |scope x=>
   dsimp only at hc;split at hc
   ·rename_i cx tbl h1 h2;obtain rfl:=af hc;have htbl:ay7 P nt x tbl:=by
     intro l cl hl;obtain⟨rest,hr1,hr2⟩:=aR.1 (Dd h2 l cl hl);exact⟨rest,hr1,j,hr2⟩
    have hx':js tbl (.mk Φ ex rd fn F) (b5 cx (.mk Φ ex rd fn F) (.mk t d M ct))= .k e (.mk t' d' M' ct'):=hx;refine Gy (m+1) ?_;show x.wpIn (cP E rd) 0 P (cR x (gI (cP E rd) 0 P x Q m) Q) a w;rcases qQ hx' with⟨l,⟨t1,d1,M1,ct1⟩,cl,hx1,hfl,hx2⟩|⟨hne,hx1⟩
    ·refine ih x cx h1 rd fn F t d M ct (.gto l) t1 d1 M1 ct1 hx1 E c w a h _ ?_;rintro a1 w1 ⟨E1,c1,hS,hG,hR⟩;obtain⟨rest,hr1,hr2⟩:=htbl l cl hfl;show cR x (gI (cP E rd) 0 P x Q m) Q (.goto l) a1 w1;unfold cR;dsimp only;rw[hr1];rw[←gv hS.ext h.rd];have hx3:ex rd fn F (.scope cl tbl) (.mk t1 d1 M1 ct1)= .k e (.mk t' d' M' ct'):=hx2;exact hsc rd fn F cl tbl t1 d1 M1 ct1 e t' d' M' ct' hx3 nt x rest hr2 htbl E1 c1 w1 a1 hR Q fun a' w' hr=>hQ a' w' (hr.trans hS hG)
    ·exact ih x cx h1 rd fn F t d M ct e t' d' M' ct' hx1 E c w a h _ fun a' w' hr=>vN hne (hQ a' w' hr)
   ·cases hc
  |goto l=>
   obtain rfl:=af hc;have hx':Rs.k (.gto l) (.mk t d M ct)= .k e (.mk t' d' M' ct'):=hx;injection hx' with h1 h2;injection h2 with e1 e2 e3 e4;subst h1 e1 e2 e3 e4
   exact wpIn_goto (hQ a w h.res)
  |ret=>
   obtain rfl:=af hc;have hx':Rs.k .ret (.mk t d M ct)= .k e (.mk t' d' M' ct'):=hx;injection hx' with h1 h2;injection h2 with e1 e2 e3 e4;subst h1 e1 e2 e3 e4
   exact wpIn_ret (hQ a w h.res)
  |refuse s=>
   obtain rfl:=af hc;cases(show Rs.f= .k e (.mk t' d' M' ct')from hx)
theorem aj5{Φ:Nat→Option CF}(hΦ:fo P Φ)(hdr:∀ex,BI P ex→ ∀rd fn F,b59 P (.mk Φ ex rd fn F)):∀n,BI P (exec Φ n)∧bB5 P (exec Φ n) n∧bB8 P (exec Φ n) n:=by
 intro n
 induction n with
 |zero=>
  refine⟨?_,?_,?_⟩
  ·intro rd fn F cc t d M ct e t' d' M' ct' hx;cases(show Rs.f= .k e (.mk t' d' M' ct')from hx)
  ·intro rd fn F cc t d M ct e t' d' M' ct' hx;cases(show Rs.f= .k e (.mk t' d' M' ct')from hx)
  ·intro rd fn F cc tbl t d M ct e t' d' M' ct' hx;cases(show Rs.f= .k e (.mk t' d' M' ct')from hx)
 |succ n ih=>
  have key:=fun nt=>Y0 (nt:=nt) hΦ ih.1 ih.2.1 ih.2.2 (hdr _ ih.1);refine⟨?_,?_,?_⟩
  ·intro rd fn F cc t d M ct e t' d' M' ct' hx nt code hsim;obtain⟨j,hj⟩:=hsim;exact key nt j code cc hj rd fn F t d M ct e t' d' M' ct' hx
  ·intro rd fn F b t d M ct e t' d' M' ct' hx nt code hsim E c w a h Q hQ;obtain⟨j,hj⟩:=hsim;have hx':gV b (.mk Φ (exec Φ n) rd fn F) (b5 b (.mk Φ (exec Φ n) rd fn F) (.mk t d M ct))= .k e (.mk t' d' M' ct'):=hx;rw[roundsIn_succ];rcases tj hx' with⟨⟨t1,d1,M1,ct1⟩,hx1,hx2⟩|⟨hne,hx1⟩
   ·refine key nt j code b hj rd fn F t d M ct .nrm t1 d1 M1 ct1 hx1 E c w a h _ ?_;rintro a1 w1 ⟨E1,c1,hS,hG,hR⟩;show Code.roundsIn (cP E rd) 0 P code Q n a1 w1;rw[←gv hS.ext h.rd];have hx3:exec Φ n rd fn F (.loop b) (.mk t1 d1 M1 ct1)= .k e (.mk t' d' M' ct'):=hx2;exact ih.2.1 rd fn F b t1 d1 M1 ct1 e t' d' M' ct' hx3 nt code ⟨j,hj⟩ E1 c1 w1 a1 hR Q fun a' w' hr=>hQ a' w' (hr.trans hS hG)
   ·exact key nt j code b hj rd fn F t d M ct e t' d' M' ct' hx1 E c w a h _ fun a' w' hr=>pN hne (hQ a' w' hr)
  ·intro rd fn F cc tbl t d M ct e t' d' M' ct' hx nt body code hsim htbl E c w a h Q hQ;obtain⟨j,hj⟩:=hsim;have hx':js tbl (.mk Φ (exec Φ n) rd fn F) (b5 cc (.mk Φ (exec Φ n) rd fn F) (.mk t d M ct))= .k e (.mk t' d' M' ct'):=hx;show code.wpIn (cP E rd) 0 P (cR body (gI (cP E rd) 0 P body Q n) Q) a w;rcases qQ hx' with⟨l,⟨t1,d1,M1,ct1⟩,cl,hx1,hfl,hx2⟩|⟨hne,hx1⟩
   ·refine key nt j code cc hj rd fn F t d M ct (.gto l) t1 d1 M1 ct1 hx1 E c w a h _ ?_;rintro a1 w1 ⟨E1,c1,hS,hG,hR⟩;obtain⟨rest,hr1,hr2⟩:=htbl l cl hfl;show cR body (gI (cP E rd) 0 P body Q n) Q (.goto l) a1 w1;unfold cR;dsimp only;rw[hr1];rw[←gv hS.ext h.rd];have hx3:exec Φ n rd fn F (.scope cl tbl) (.mk t1 d1 M1 ct1)= .k e (.mk t' d' M' ct'):=hx2;exact ih.2.2 rd fn F cl tbl t1 d1 M1 ct1 e t' d' M' ct' hx3 nt body rest hr2 htbl E1 c1 w1 a1 hR Q fun a' w' hr=>hQ a' w' (hr.trans hS hG)
   ·exact key nt j code cc hj rd fn F t d M ct e t' d' M' ct' hx1 E c w a h _ fun a' w' hr=>vN hne (hQ a' w' hr)
end
def aJ(ps:List aH)(t t':T):Prop:=∀p∈ps,cq t' p=cq t p
section
variable{t t':T}
theorem aJ.l{a b:List aH}(h:aJ (a++b) t t'):aJ a t t':=fun p hp=>h p (List.mem_append_left _ hp)
theorem aJ.r{a b:List aH}(h:aJ (a++b) t t'):aJ b t t':=fun p hp=>h p (List.mem_append_right _ hp)
theorem aJ.ev{x:X}(h:aJ x.ps t t'):x.ev t'=x.ev t:=by
 cases x with
 |t p=>exact h p (by simp[X.ps])
 |c v=>rfl
theorem aJ.evs{xs:List X}(h:aJ (psL xs) t t'):Ev.evs xs t'=Ev.evs xs t:=by
 induction xs with
 |nil=>rfl
 |cons x xs ih=>
  show x.ev t'::Ev.evs xs t'=x.ev t::Ev.evs xs t;rw[h.l.ev,ih h.r]
theorem aJ.optN{o:Option X}(h:aJ (psO o) t t')(d:Nat):Ev.optN t' d o=Ev.optN t d o:=by
 cases o with
 |none=>rfl
 |some x=>
  show oA (x.ev t')=oA (x.ev t);rw[aJ.ev h]
theorem aJ.optNN{o:Option X}(h:aJ (psO o) t t'):Ev.optNN t' o=Ev.optNN t o:=by
 cases o with
 |none=>rfl
 |some x=>
  have h':aJ x.ps t t':=h;simp only[Ev.optNN];rw[h'.ev]
theorem aJ.minAll{xs:List X}(h:aJ (psL xs) t t')(mx:Bool):∀v,Ev.minAll mx t' v xs=Ev.minAll mx t v xs:=by
 induction xs with
 |nil=>intro v;rfl
 |cons x xs ih=>
  intro v;simp only[Ev.minAll];rw[h.l.ev];cases Fk mx v (x.ev t)with
  |none=>rfl
  |some v'=>exact ih h.r v'
theorem aJ.fillParts{ps:List (Nat×Nat×X)}(h:aJ (psP ps) t t'):∀cs,Ev.fillParts t' cs ps=Ev.fillParts t cs ps:=by
 induction ps with
 |nil=>intro v;rfl
 |cons x xs ih=>
  obtain⟨o,n,x⟩:=x;intro cs;simp only[Ev.fillParts];have h1:aJ x.ps t t':=h.l;have h2:aJ (psP xs) t t':=h.r;rw[h1.ev];cases Nat.beq (flatten (x.ev t)).length n with
  |false=>rfl
  |true=>
   simp only[cond_true];cases ig cs o (flatten (x.ev t))with
   |none=>rfl
   |some cs'=>exact ih h2 cs'
theorem aJ.fillP{ps:List (Nat×X)}(h:aJ (am9 ps) t t')(sz m:Nat):∀tt,Ev.fillP sz m t' ps tt=Ev.fillP sz m t ps tt:=by
 induction ps with
 |nil=>intro v;rfl
 |cons x xs ih=>
  obtain⟨o,x⟩:=x;intro tt;simp only[Ev.fillP];have h1:aJ x.ps t t':=h.l;have h2:aJ (am9 xs) t t':=h.r;rw[h1.ev];cases Nat.beq (flatten (x.ev t)).length sz&&Nat.ble (Nat.add o sz) m&&bv (flatten (x.ev t))with
  |false=>rfl
  |true=>
   simp only[cond_true,Tr.force_eq];exact ih h2 _
theorem zj(F:RO)(M:Mem){o:QO}(h:aJ o.ps t t'):cS o F M t'=cS o F M t:=by
 cases o with
 |mv x=>have h1:x.ev t'=x.ev t:=aJ.ev h;show an9 x F M t'=an9 x F M t;unfold an9;rw[h1]
 |pk c a b=>
  have h1:=aJ.l h|>.ev;have h2:=(aJ.r h).l.ev;have h3:=(aJ.r h).r.ev;show P3 c a b F M t'=P3 c a b F M t;unfold P3;rw[h1,h2,h3]
 |ld1 x=>have h1:x.ev t'=x.ev t:=aJ.ev h;show Mk x F M t'=Mk x F M t;unfold Mk;rw[h1]
 |ldn n x=>have h1:x.ev t'=x.ev t:=aJ.ev h;show Ml n x F M t'=Ml n x F M t;unfold Ml;rw[h1]
 |nck x=>have h1:x.ev t'=x.ev t:=aJ.ev h;show nq x F M t'=nq x F M t;unfold nq;rw[h1]
 |bi op x y=>have h1:=aJ.l h|>.ev;have h2:=aJ.r h|>.ev;show CP op x y F M t'=CP op x y F M t;unfold CP;rw[h1,h2]
 |eq neg sh lit x y=>have h1:=aJ.l h|>.ev;have h2:=aJ.r h|>.ev;show an3 neg sh lit x y F M t'=an3 neg sh lit x y F M t;unfold an3;rw[h1,h2]
 |un op x=>have h1:x.ev t'=x.ev t:=aJ.ev h;show ao2 op x F M t'=ao2 op x F M t;unfold ao2;rw[h1]
 |ci k x=>have h1:x.ev t'=x.ev t:=aJ.ev h;show an2 k x F M t'=an2 k x F M t;unfold an2;rw[h1]
 |bs x=>have h1:x.ev t'=x.ev t:=aJ.ev h;show OX x F M t'=OX x F M t;unfold OX;rw[h1]
 |mki k x=>have h1:x.ev t'=x.ev t:=aJ.ev h;show Mp k x F M t'=Mp k x F M t;unfold Mp;rw[h1]
 |mkf f a b=>have h1:=(aJ.l h).evs;have h2:=(aJ.r h).evs;show Mo f a b F M t'=Mo f a b F M t;unfold Mo;rw[h1,h2]
 |fa k x=>have h1:x.ev t'=x.ev t:=aJ.ev h;show an4 k x F M t'=an4 k x F M t;unfold an4;rw[h1]
 |fl1 k x=>have h1:x.ev t'=x.ev t:=aJ.ev h;show Mg k x F M t'=Mg k x F M t;unfold Mg;rw[h1]
 |fln k n x=>have h1:x.ev t'=x.ev t:=aJ.ev h;show Mh k n x F M t'=Mh k n x F M t;unfold Mh;rw[h1]
 |iaA l s x y=>have h1:=aJ.l h|>.ev;have h2:=aJ.r h|>.ev;show Mi l s x y F M t'=Mi l s x y F M t;unfold Mi;rw[h1,h2]
 |iaS s x y=>have h1:=aJ.l h|>.ev;have h2:=aJ.r h|>.ev;show qO s x y F M t'=qO s x y F M t;unfold qO;rw[h1,h2]
 |ixA1 l s x y=>have h1:=aJ.l h|>.ev;have h2:=aJ.r h|>.ev;show Au l s x y F M t'=Au l s x y F M t;unfold Au;rw[h1,h2]
 |ixAn l s x y=>have h1:=aJ.l h|>.ev;have h2:=aJ.r h|>.ev;show Av l s x y F M t'=Av l s x y F M t;unfold Av;rw[h1,h2]
 |ixS x y=>have h1:=aJ.l h|>.ev;have h2:=aJ.r h|>.ev;show Mj x y F M t'=Mj x y F M t;unfold Mj;rw[h1,h2]
 |slS x lo hi=>
  have h1:=aJ.l h|>.ev;show wt x lo hi F M t'=wt x lo hi F M t;unfold wt;rw[h1];simp only[(aJ.r h).l.optN,(aJ.r h).r.optN]
 |slL s x lo hi mx=>
  have h1:=aJ.l h|>.ev;show Mq s x lo hi mx F M t'=Mq s x lo hi mx F M t;unfold Mq;rw[h1,(aJ.r h).l.optNN,(aJ.r h).r.l.optNN,(aJ.r h).r.r.optNN]
 |slA n s x lo hi mx=>
  have h1:=aJ.l h|>.ev;show zi n s x lo hi mx F M t'=zi n s x lo hi mx F M t;unfold zi;rw[h1];simp only[(aJ.r h).l.optN,(aJ.r h).r.l.optN,(aJ.r h).r.r.optN]
 |lk sh z ok x y=>have h1:=aJ.l h|>.ev;have h2:=aJ.r h|>.ev;show P2 sh z ok x y F M t'=P2 sh z ok x y F M t;unfold P2;rw[h1,h2]
 |ex i x=>have h1:x.ev t'=x.ev t:=aJ.ev h;show wo i x F M t'=wo i x F M t;unfold wo;rw[h1]
 |ln sh x=>have h1:x.ev t'=x.ev t:=aJ.ev h;show an7 sh x F M t'=an7 sh x F M t;unfold an7;rw[h1]
 |lnc n=>rfl
 |cp x=>have h1:x.ev t'=x.ev t:=aJ.ev h;show wm x F M t'=wm x F M t;unfold wm;rw[h1]
 |mn mx x xs=>have h1:=aJ.l h|>.ev;show an8 mx x xs F M t'=an8 mx x xs F M t;unfold an8;rw[h1,(aJ.r h).minAll]
 |bld z ps=>show Mc z ps F M t'=Mc z ps F M t;unfold Mc;rw[aJ.fillParts h]
 |ta w z ok x=>have h1:x.ev t'=x.ev t:=aJ.ev h;show P4 w z ok x F M t'=P4 w z ok x F M t;unfold P4;rw[h1]
 |up x=>have h1:x.ev t'=x.ev t:=aJ.ev h;show P5 x F M t'=P5 x F M t;unfold P5;rw[h1]
 |dn ty s x=>have h1:x.ev t'=x.ev t:=aJ.ev h;show P0 ty s x F M t'=P0 ty s x F M t;unfold P0;rw[h1]
 |sd x=>have h1:x.ev t'=x.ev t:=aJ.ev h;show wp x F M t'=wp x F M t;unfold wp;rw[h1]
 |xib x y=>have h1:=aJ.l h|>.ev;have h2:=aJ.r h|>.ev;show Mt x y F M t'=Mt x y F M t;unfold Mt;rw[h1,h2]
 |xcmp x y=>have h1:=aJ.l h|>.ev;have h2:=aJ.r h|>.ev;show Ay x y F M t'=Ay x y F M t;unfold Ay;rw[h1,h2]
 |sap n x=>have h1:x.ev t'=x.ev t:=aJ.ev h;show zh n x F M t'=zh n x F M t;unfold zh;rw[h1]
 |xcn x y=>have h1:=aJ.l h|>.ev;have h2:=aJ.r h|>.ev;show Ms x y F M t'=Ms x y F M t;unfold Ms;rw[h1,h2]
 |bad=>rfl
theorem NS(b:Nat){o:AO}(h:aJ o.ps t t'):kl o b t'=kl o b t:=by
 cases o with
 |al ty cs=>rfl
 |bx ty sz x=>have h1:x.ev t'=x.ev t:=aJ.ev h;show NM ty sz x b t'=NM ty sz x b t;unfold NM;rw[h1]
 |bsl ty n sz z ps=>show yl ty n sz z ps b t'=yl ty n sz z ps b t;unfold yl;rw[aJ.fillP h]
 |mks ty sz by_ z l k=>have h1:=aJ.l h|>.ev;have h2:=aJ.r h|>.ev;show H8 ty sz by_ z l k b t'=H8 ty sz by_ z l k b t;unfold H8;rw[h1,h2]
 |mkm=>rfl
 |sb ty x=>have h1:x.ev t'=x.ev t:=aJ.ev h;show ad6 ty x b t'=ad6 ty x b t;unfold ad6;rw[h1]
 |nz ty x=>have h1:x.ev t'=x.ev t:=aJ.ev h;show NP ty x b t'=NP ty x b t;unfold NP;rw[h1]
 |rgs x=>have h1:x.ev t'=x.ev t:=aJ.ev h;show H9 x b t'=H9 x b t;unfold H9;rw[h1]
theorem O7(k:Kn)(M:Mem)(c:Nat){o:EO}(h:aJ o.ps t t'):gG o k M c t'=gG o k M c t:=by
 cases o with
 |call f as0=>have h1:=aJ.evs h;show Bv f as0 k M c t'=Bv f as0 k M c t;unfold Bv;rw[h1]
 |cv f as0=>have h1:=aJ.l h|>.ev;have h2:=(aJ.r h).evs;show av1 f as0 k M c t'=av1 f as0 k M c t;unfold av1;rw[h1,h2]
 |st n x y=>have h1:=aJ.l h|>.ev;have h2:=aJ.r h|>.ev;show av4 n x y k M c t'=av4 n x y k M c t;unfold av4 bQ0;rw[h1,h2]
 |app ty sz by_ x y=>have h1:=aJ.l h|>.ev;have h2:=aJ.r h|>.ev;show Nq ty sz by_ x y k M c t'=Nq ty sz by_ x y k M c t;unfold Nq aY6;rw[h1,h2]
 |cpy sz x y=>have h1:=aJ.l h|>.ev;have h2:=aJ.r h|>.ev;show Ns sz x y k M c t'=Ns sz x y k M c t;unfold Ns Cg;rw[h1,h2]
 |clr z x=>have h1:x.ev t'=x.ev t:=aJ.ev h;show Nr z x k M c t'=Nr z x k M c t;unfold Nr L5;rw[h1]
 |mu sh m k' v=>have h1:=aJ.l h|>.ev;have h2:=(aJ.r h).l.ev;have h3:=(aJ.r h).r.ev;show av3 sh m k' v k M c t'=av3 sh m k' v k M c t;unfold av3 bP8;rw[h1,h2,h3]
 |del sh m k'=>have h1:=aJ.l h|>.ev;have h2:=aJ.r h|>.ev;show Nt sh m k' k M c t'=Nt sh m k' k M c t;unfold Nt aY7;rw[h1,h2]
 |us ty x n=>have h1:=aJ.l h|>.ev;have h2:=aJ.r h|>.ev;show av5 ty x n k M c t'=av5 ty x n k M c t;unfold av5 XR;rw[h1,h2]
 |ms x=>have h1:x.ev t'=x.ev t:=aJ.ev h;show av2 x k M c t'=av2 x k M c t;unfold av2 ah9;rw[h1]
 |nxs x=>have h1:x.ev t'=x.ev t:=aJ.ev h;show Nv x k M c t'=Nv x k M c t;unfold Nv L8;rw[h1]
 |rgm x=>have h1:x.ev t'=x.ev t:=aJ.ev h;show Nw x k M c t'=Nw x k M c t;unfold Nw L9;rw[h1]
 |nxm x=>have h1:x.ev t'=x.ev t:=aJ.ev h;show Nu x k M c t'=Nu x k M c t;unfold Nu L7;rw[h1]
theorem Bu{g:Option (aH×Bool)}(h:aJ (gps g) t t'):wanted t' g=wanted t g:=by
 cases g with
 |none=>rfl
 |some pw=>
  obtain⟨p,want⟩:=pw;show iN want (cq t' p)=iN want (cq t p);rw[h p (by simp[gps])]
theorem la:∀p q:aH,jg p q=true↔p=q
 | .h,.h=>by simp[jg]
 | .l p,.l q=>by simp[jg,la p q]
 | .r p,.r q=>by simp[jg,la p q]
 | .h,.l _=>by simp[jg]
 | .h,.r _=>by simp[jg]
 | .l _,.h=>by simp[jg]
 | .l _,.r _=>by simp[jg]
 | .r _,.h=>by simp[jg]
 | .r _,.l _=>by simp[jg]
theorem OU(p:aH)(l:List aH):wj p l=true↔p∈l:=by
 induction l with
 |nil=>simp[wj]
 |cons q r ih=>
  simp only[wj,bj];cases h:jg p q with
  |true=>simp[(la p q).1 h]
  |false=>
   have:p≠q:=fun e=>by rw[(la p q).2 e]at h;cases h
   simp[this,ih]
theorem aJ.setT{ps:List aH}{dst:Option aH}(h:sU ps dst=false)(t:T)(v:V):aJ ps t (Ev.setT t dst v):=by
 intro p hp
 cases dst with
 |none=>rfl
 |some q=>
  have hne:p≠q:=by
   rintro rfl;have:wj p ps=true:=(OU p ps).2 hp;rw[show sU ps (some p)=wj p ps from rfl,this]at h;cases h
  rw[lh];unfold cq;rw[Tr.getP_setP_ne q v p t hne]
theorem Pe{d1 d2:Option aH}(h:qo d1 d2=false)(t:T)(v1 v2:V):Ev.setT (Ev.setT t d1 v1) d2 v2=Ev.setT (Ev.setT t d2 v2) d1 v1:=by
 cases d1 with
 |none=>rfl
 |some p=>
  cases d2 with
  |none=>rfl
  |some q=>
   have hne:p≠q:=fun e=>by
    have:=(la p q).2 e;rw[show qo (some p) (some q)=jg p q from rfl,this]at h;cases h
   simp only[lh];exact Tr.setP_comm p v1 q v2 t (Ne.symm hne)
end
structure SS where
 t:T
 m:Nat→Option bq
 ct:Nat
inductive LK where
 |skip
 |qv (v:V)
 |qr (v:V) (b:Nat)
 |al (v:V) (blk:bq)
 |ef (v:V) (M1:Mem) (F1:RO) (M':Mem) (ct ct':Nat)
structure io where
 i:Nat
 mask:Nat
 co:CO
 k:LK
def CO.op:CO→OK
 | .mk _ op _=>op
def CO.guard:CO→Option (aH×Bool)
 | .mk _ _ g=>g
def LK.isEf:LK→Bool
 | .ef .. =>true
 |_=>false
def ed(M1 M':Mem)(m:Nat→Option bq)(b:Nat):Option bq:=
 if M1.get b=none∧m b≠none then m b else M'.get b
def jW(m:Nat→Option bq)(b:Nat)(blk:bq):Nat→Option bq:=fun x=>if x=b then some blk else m x
structure bB4(k:Kn)(F:RO)(o:EO)(v:V)(M1:Mem)(F1:RO)(M':Mem)(ct ct':Nat)(t:T)(m:Nat→Option bq):Prop where
 run:gG o (rR k F1) M1 ct t= .k v M' ct'
 sub:∀b blk,M1.get b=some blk→m b=some blk
 ro:∀b blk,aV F1 b=some blk→(m b=some blk∧M1.get b=none)∨aV F b=some blk
 new:∀b,(aV F b).isSome→M'.get b=none
def Tn(k:Kn)(base:Nat)(F:RO)(l:io)(s s':SS):Prop:=
 match l.k with
 | .skip=>wanted s.t l.co.guard=false∧s'=⟨setT s.t l.co.dst undef,s.m,s.ct⟩
 | .qv v=>wanted s.t l.co.guard=true∧ ∃o,l.co.op= .q o∧(cS o [] .e s.t).val=some v∧s'=⟨setT s.t l.co.dst v,s.m,s.ct⟩
 | .qr v b=>wanted s.t l.co.guard=true∧ ∃o blk,l.co.op= .q o∧(s.m b=some blk∨(s.m b=none∧aV F b=some blk))∧(cS o [(b,blk)] .e s.t).val=some v∧s'=⟨setT s.t l.co.dst v,s.m,s.ct⟩
 | .al v blk=>wanted s.t l.co.guard=true∧ ∃o,l.co.op= .a o∧kl o (base+l.i) s.t=some (v,blk)∧s'=⟨setT s.t l.co.dst v,jW s.m (base+l.i) blk,s.ct⟩
 | .ef v M1 F1 M' ct ct'=>wanted s.t l.co.guard=true∧s.ct=ct∧ ∃o,l.co.op= .e o∧bB4 k F o v M1 F1 M' ct ct' s.t s.m∧s'=⟨setT s.t l.co.dst v,ed M1 M' s.m,ct'⟩
structure GW(base:Nat)(x y:io):Prop where
 ne:x.i≠y.i
 kx:x.k.isEf=false
 d1:sU y.co.ps x.co.dst=false
 d2:sU x.co.ps y.co.dst=false
 d3:qo x.co.dst y.co.dst=false
 rd:∀vx b v M1 F1 M' ct ct',x.k= .qr vx b→y.k= .ef v M1 F1 M' ct ct'→M1.get b=none
 al:∀vx blk v M1 F1 M' ct ct',x.k= .al vx blk→y.k= .ef v M1 F1 M' ct ct'→M1.get (base+x.i)=none∧aV F1 (base+x.i)=none
 rd2:∀vx blk v b,x.k= .al vx blk→y.k= .qr v b→b≠base+x.i
 rd3:∀vx b v blk,x.k= .qr vx b→y.k= .al v blk→b≠base+y.i
section
variable{k:Kn}{base:Nat}{F:RO}{x y:io}{s s1 s2:SS}
theorem CO.ps_eq(c:CO):c.ps=gps c.guard++c.op.ps:=by cases c;rfl
def io.val(l:io):V:=match l.k with
 | .skip=>undef
 | .qv v| .qr v _| .al v _=>v
 | .ef v .. =>v
def io.mem(base:Nat)(l:io)(m:Nat→Option bq):Nat→Option bq:=match l.k with
 | .al _ blk=>jW m (base+l.i) blk
 | .ef _ M1 _ M' _ _=>ed M1 M' m
 |_=>m
def io.ctr(l:io)(ct:Nat):Nat:=match l.k with
 | .ef _ _ _ _ _ ct'=>ct'
 |_=>ct
def PA(k:Kn)(base:Nat)(F:RO)(l:io)(s:SS):Prop:=
 match l.k with
 | .skip=>wanted s.t l.co.guard=false
 | .qv v=>wanted s.t l.co.guard=true∧ ∃o,l.co.op= .q o∧(cS o [] .e s.t).val=some v
 | .qr v b=>wanted s.t l.co.guard=true∧ ∃o blk,l.co.op= .q o∧(s.m b=some blk∨(s.m b=none∧aV F b=some blk))∧(cS o [(b,blk)] .e s.t).val=some v
 | .al v blk=>wanted s.t l.co.guard=true∧ ∃o,l.co.op= .a o∧kl o (base+l.i) s.t=some (v,blk)
 | .ef v M1 F1 M' ct ct'=>wanted s.t l.co.guard=true∧s.ct=ct∧ ∃o,l.co.op= .e o∧bB4 k F o v M1 F1 M' ct ct' s.t s.m
theorem p9:Tn k base F x s s1↔PA k base F x s∧s1=⟨setT s.t x.co.dst x.val,x.mem base s.m,x.ctr s.ct⟩:=by
 unfold Tn PA io.val io.mem io.ctr
 cases x.k with
 |skip=>exact Iff.rfl
 |qv v=>
  constructor
  ·rintro⟨h1,o,h2,h3,h4⟩;exact⟨⟨h1,o,h2,h3⟩,h4⟩
  ·rintro⟨⟨h1,o,h2,h3⟩,h4⟩;exact⟨h1,o,h2,h3,h4⟩
 |qr v b=>
  constructor
  ·rintro⟨h1,o,blk,h2,h3,h4,h5⟩;exact⟨⟨h1,o,blk,h2,h3,h4⟩,h5⟩
  ·rintro⟨⟨h1,o,blk,h2,h3,h4⟩,h5⟩;exact⟨h1,o,blk,h2,h3,h4,h5⟩
 |al v blk=>
  constructor
  ·rintro⟨h1,o,h2,h3,h4⟩;exact⟨⟨h1,o,h2,h3⟩,h4⟩
  ·rintro⟨⟨h1,o,h2,h3⟩,h4⟩;exact⟨h1,o,h2,h3,h4⟩
 |ef v M1 F1 M' ct ct'=>
  constructor
  ·rintro⟨h1,h0,o,h2,h3,h4⟩;exact⟨⟨h1,h0,o,h2,h3⟩,h4⟩
  ·rintro⟨⟨h1,h0,o,h2,h3⟩,h4⟩;exact⟨h1,h0,o,h2,h3,h4⟩
def GY(base:Nat)(F:RO)(l:io)(m m':Nat→Option bq):Prop:=match l.k with
 | .qr _ b=>m' b=m b
 | .ef _ M1 F1 _ _ _=>(∀b,(M1.get b).isSome→m' b=m b)∧(∀b,(aV F1 b).isSome→m' b=m b)
 |_=>True
theorem PA.move{t t':T}{m m':Nat→Option bq}{ct ct':Nat}(h:PA k base F x ⟨t,m,ct⟩)(ha:aJ x.co.ps t t')(hm:GY base F x m m')(hc:x.k.isEf=true→ct'=ct):PA k base F x ⟨t',m',ct'⟩:=by
 rw[CO.ps_eq]at ha
 have hw:=Bu ha.l
 have ho:=ha.r
 unfold PA at h⊢
 unfold GY at hm
 cases hk:x.k with
 |skip=>rw[hk]at h;exact hw.trans h
 |qv v=>
  rw[hk]at h;obtain⟨h1,o,h2,h3⟩:=h;rw[h2]at ho;exact⟨hw.trans h1,o,h2,by show(cS o [] .e t').val=_;rw[zj _ _ ho];exact h3⟩
 |qr v b=>
  rw[hk]at h hm;obtain⟨h1,o,blk,h2,h3,h4⟩:=h;rw[h2]at ho;have hm':m' b=m b:=hm;exact⟨hw.trans h1,o,blk,h2,by show m' b=_∨(m' b=_∧_);rw[hm'];exact h3,by show(cS o _ .e t').val=_;rw[zj _ _ ho];exact h4⟩
 |al v blk=>
  rw[hk]at h;obtain⟨h1,o,h2,h3⟩:=h;rw[h2]at ho;exact⟨hw.trans h1,o,h2,by show kl o _ t'=_;rw[NS _ ho];exact h3⟩
 |ef v M1 F1 M' c1 c2=>
  rw[hk]at h hm hc;obtain⟨h1,h0,o,h2,h3⟩:=h;rw[h2]at ho;have hm':(∀b,(M1.get b).isSome→m' b=m b)∧(∀b,(aV F1 b).isSome→m' b=m b):=hm;refine⟨hw.trans h1,(hc rfl).trans h0,o,h2,⟨?_,?_,?_,h3.new⟩⟩
  ·show gG o (rR k F1) M1 c1 t'=_;rw[O7 _ _ _ ho];exact h3.run
  ·intro b blk hb;show m' b=_;rw[hm'.1 b (by rw[hb];rfl)];exact h3.sub b blk hb
  ·intro b blk hb;show(m' b=_∧_)∨_;rw[hm'.2 b (by rw[hb];rfl)];exact h3.ro b blk hb
theorem cJ8(ha:GW base x y)(h1:Tn k base F x s s1)(h2:Tn k base F y s1 s2):∃s1',Tn k base F y s s1'∧Tn k base F x s1' s2:=by
 obtain⟨t,m,ct⟩:=s
 rw[p9]at h1 h2
 obtain⟨c1,rfl⟩:=h1
 obtain⟨c2,rfl⟩:=h2
 have hctx:x.ctr ct=ct:=by
  have:=ha.kx;unfold io.ctr;cases hx:x.k<;>first|rfl|(rw[hx]at this;cases this)
 refine⟨_,p9.2 ⟨?_,rfl⟩,p9.2 ⟨?_,?_⟩⟩
 ·
  refine PA.move (t':=t) (m':=m) (ct':=ct) c2 ?_ ?_ ?_
  ·intro p hp;exact(aJ.setT ha.d1 t x.val p hp).symm
  ·unfold GY;cases hy:y.k with
   |qr v b=>
    show m b=x.mem base m b;unfold io.mem;cases hx:x.k with
    |al vx blk=>
     show m b=jW m (base+x.i) blk b;unfold jW;rw[ab (ha.rd2 vx blk v b hx hy)]
    |ef=>have:=ha.kx;rw[hx]at this;cases this
    |_=>rfl
   |ef v M1 F1 M' c3 c4=>
    unfold io.mem;cases hx:x.k with
    |al vx blk=>
     have hal:=ha.al vx blk v M1 F1 M' c3 c4 hx hy;constructor
     ·intro b hb;show m b=jW m (base+x.i) blk b;unfold jW;rw[ab];rintro rfl;rw[hal.1]at hb;cases hb
     ·intro b hb;show m b=jW m (base+x.i) blk b;unfold jW;rw[ab];rintro rfl;rw[hal.2]at hb;cases hb
    |ef=>have:=ha.kx;rw[hx]at this;cases this
    |_=>exact⟨fun _ _=>rfl,fun _ _=>rfl⟩
   |_=>trivial
  ·intro _;exact hctx.symm
 ·
  refine PA.move (t:=t) (m:=m) (ct:=ct) c1 (aJ.setT ha.d2 t y.val) ?_ (fun h=>by rw[ha.kx]at h;cases h);unfold GY;cases hx:x.k with
  |qr v b=>
   show y.mem base m b=m b;unfold io.mem;cases hy:y.k with
   |al vy blk=>
    show jW m (base+y.i) blk b=m b;unfold jW;rw[ab (ha.rd3 v b vy blk hx hy)]
   |ef vy M1 F1 M' c3 c4=>
    have hrd:=ha.rd v b vy M1 F1 M' c3 c4 hx hy;show ed M1 M' m b=m b;unfold ed;split
    ·rfl
    ·rename_i hn;have hmb:m b=none:=by
      cases hb:m b with
      |none=>rfl
      |some _=>exact absurd ⟨hrd,by rw[hb];exact(fun h=>by cases h)⟩ hn
     have hF:(aV F b).isSome:=by
      unfold PA at c1;rw[hx]at c1;obtain⟨_,o,blk,_,h3,_⟩:=c1;rcases h3 with h3|h3
      ·have h3':m b=some blk:=h3;rw[hmb]at h3';cases h3'
      ·rw[h3.2];rfl
     have hE:M'.get b=none:=by
      unfold PA at c2;rw[hy]at c2;obtain⟨_,_,o,_,h3⟩:=c2;exact h3.new b hF
     rw[hmb,hE]
   |_=>rfl
  |ef=>have:=ha.kx;rw[hx]at this;cases this
  |_=>trivial
 ·have e1:setT (setT t x.co.dst x.val) y.co.dst y.val=setT (setT t y.co.dst y.val) x.co.dst x.val:=Pe ha.d3 t x.val y.val;have e2:y.mem base (x.mem base m)=x.mem base (y.mem base m):=by
   unfold io.mem;cases hx:x.k with
   |al vx blk=>
    cases hy:y.k with
    |al vy blk'=>
     have hne:base+x.i≠base+y.i:=fun e=>ha.ne (by omega)
     funext b
     show jW (jW m (base+x.i) blk) (base+y.i) blk' b=jW (jW m (base+y.i) blk') (base+x.i) blk b;unfold jW;by_cases e:b=base+x.i
     ·rw[ac e,ab (by rw[e];exact hne),ac e]
     ·rw[ab e,ab e]
    |ef vy M1 F1 M' c3 c4=>
     have hal:=(ha.al vx blk vy M1 F1 M' c3 c4 hx hy).1
     funext b
     show ed M1 M' (jW m (base+x.i) blk) b=jW (ed M1 M' m) (base+x.i) blk b;unfold ed jW;by_cases e:b=base+x.i
     ·rw[ac e,ac e,ac ⟨by rw[e];exact hal,fun h=>by cases h⟩]
     ·rw[ab e,ab e]
    |_=>rfl
   |ef=>have:=ha.kx;rw[hx]at this;cases this
   |_=>rfl
  have e3:y.ctr (x.ctr ct)=x.ctr (y.ctr ct):=by
   have hc:∀n,x.ctr n=n:=by
    intro n;have:=ha.kx;unfold io.ctr;cases hx:x.k<;>first|rfl|(rw[hx]at this;cases this)
   rw[hc,hc]
  show SS.mk _ _ _=SS.mk _ _ _;rw[e1,e2,e3]
def sI(k:Kn)(base:Nat)(F:RO):List io→SS→SS→Prop
 |[],s,s'=>s=s'
 |l::r,s,s'=>∃s1,Tn k base F l s s1∧sI k base F r s1 s'
theorem sI.move{l2:List io}{y:io}{s':SS}:∀(l1:List io) (s:SS),(∀x∈l1,GW base x y)→sI k base F (l1++y::l2) s s'→ ∃s1,Tn k base F y s s1∧sI k base F (l1++l2) s1 s'
 |[],s,_,h=>h
 |x::l1,s,ha,h=>by
  obtain⟨s1,h1,h2⟩:=h;obtain⟨s2,h3,h4⟩:=sI.move l1 s1 (fun z hz=>ha z (bz _ hz)) h2;obtain⟨s3,h5,h6⟩:=cJ8 (ha x (bK ..)) h1 h3;exact⟨s3,h5,s2,h6,h4⟩
end
def gT:List (Nat×Nat×bq)→Nat→Option bq
 |[],_=>none
 |(_,b,blk)::r,x=>if x=b then some blk else gT r x
theorem l8{p:List (Nat×Nat×bq)}{b:Nat}{blk:bq}(h:gT p b=some blk):∃i,(i,b,blk)∈p:=by
 induction p with
 |nil=>cases h
 |cons q r ih=>
  obtain⟨i,b',blk'⟩:=q;unfold gT at h;split at h
  ·rename_i e;subst e;obtain rfl:=af h;exact⟨i,by simp⟩
  ·obtain⟨j,hj⟩:=ih h;exact⟨j,bz _ hj⟩
theorem OT{p:List (Nat×Nat×bq)}{b:Nat}(h:gT p b=none):∀i blk,(i,b,blk)∉p:=by
 induction p with
 |nil=>intro i blk hm;cases hm
 |cons q r ih=>
  obtain⟨i',b',blk'⟩:=q;unfold gT at h;split at h
  ·cases h
  ·rename_i e;intro i blk hm;rcases bj.1 hm with hm|hm
   ·injection hm with h1 h2;injection h2 with h2 h3;exact e h2
   ·exact ih h i blk hm
def ND(p:List (Nat×Nat×bq)):Prop:=p.Pairwise fun x y=>x.2.1≠y.2.1
theorem pG(mask:Nat):∀(p:List (Nat×Nat×bq)) (M:Mem),ND p→ ∃Mm,jf mask p M=(Mm,p.filter fun x=> !testBit mask x.1)∧
 ∀b,(gT (p.filter fun x=> !testBit mask x.1) b).or (Mm.get b)=(gT p b).or (M.get b)
 |[],M,_=>⟨M,rfl,fun _=>rfl⟩
 |(i,b,blk)::r,M,h=>by
  obtain⟨h1,h2⟩:=List.pairwise_cons.1 h;cases ht:testBit mask i with
  |true=>
   obtain⟨Mm,hm,hg⟩:=pG mask r (M.set b blk) h2;refine⟨Mm,?_,?_⟩
   ·rw[jf,ht,cond_true,Tr.force_eq,hm];simp[ht]
   ·intro x;have e:((i,b,blk)::r).filter (fun x=> !testBit mask x.1)=r.filter fun x=> !testBit mask x.1:=by simp[ht]
    rw[e,hg x];simp only[gT];by_cases ex:x=b
    ·subst ex;rw[ac rfl];have hn:gT r x=none:=by
      cases hp:gT r x with
      |none=>rfl
      |some blk'=>obtain⟨j,hj⟩:=l8 hp;exact absurd rfl (h1 (j,x,blk') hj)
     rw[hn,Tr.get_set,ac rfl];rfl
    ·rw[ab ex,Tr.get_set,ab ex]
  |false=>
   obtain⟨Mm,hm,hg⟩:=pG mask r M h2;refine⟨Mm,?_,?_⟩
   ·rw[jf,ht,cond_false,hm];simp[ht]
   ·intro x;have e:((i,b,blk)::r).filter (fun x=> !testBit mask x.1)=(i,b,blk)::r.filter fun x=> !testBit mask x.1:=by simp[ht]
    rw[e];simp only[gT];by_cases ex:x=b
    ·rw[ac ex,ac ex];rfl
    ·rw[ab ex,ab ex];exact hg x
def uY(l:List (Nat×bq))(b:Nat):Prop:=∃blk,(b,blk)∈l
structure b61(mask:Nat)(reads:List (Nat×Nat))(F:RO)(M:Mem)(F1:RO)(M1:Mem)(news:List (Nat×bq)):Prop where
 ro:F1=news++F
 get:∀b,M1.get b=none∧uY news b∨M1.get b=M.get b∧ ¬uY news b
 was:∀b blk,(b,blk)∈news→M.get b=some blk
 rd:∀i b,(i,b)∈reads→testBit mask i=false→M1.get b=none
theorem jr(mask:Nat):∀(reads:List (Nat×Nat)) (F:RO) (M:Mem) (s:List (Nat×bq)),∃F1 M1 news,bB mask reads F M s= .mk F1 M1 (news++s)∧b61 mask reads F M F1 M1 news
 |[],F,M,s=>⟨F,M,[],rfl,⟨rfl,fun b=> .inr ⟨rfl,fun⟨_,h⟩=>(by cases h)⟩,fun _ _ h=>(by cases h),fun _ _ h=>(by cases h)⟩⟩
 |(i,b)::r,F,M,s=>by
  cases ht:testBit mask i with
  |true=>
   obtain⟨F1,M1,news,hp,hk⟩:=jr mask r F M s;refine⟨F1,M1,news,by rw[bB,ht,cond_true];exact hp,hk.ro,hk.get,hk.was,?_⟩;intro i' b' hm hf;rcases bj.1 hm with hm|hm
   ·injection hm with h1 h2;rw[h1,ht]at hf;cases hf
   ·exact hk.rd i' b' hm hf
  |false=>
   cases hb:M.get b with
   |none=>
    obtain⟨F1,M1,news,hp,hk⟩:=jr mask r F M s;refine⟨F1,M1,news,by rw[bB,ht,cond_false];simp only[hb];exact hp,hk.ro,hk.get,hk.was,?_⟩;intro i' b' hm hf;rcases bj.1 hm with hm|hm
    ·injection hm with h1 h2
     rw[h2];rcases hk.get b with h|h
     ·exact h.1
     ·rw[h.1,hb]
    ·exact hk.rd i' b' hm hf
   |some blk=>
    obtain⟨F1,M1,news,hp,hk⟩:=jr mask r ((b,blk)::F) (M.del b) ((b,blk)::s);refine⟨F1,M1,news++[(b,blk)],?_,by rw[hk.ro];simp,?_,?_,?_⟩
    ·rw[bB,ht,cond_false];simp only[hb,Tr.force_eq];rw[hp];simp
    ·intro x;by_cases ex:x=b
     ·left;refine⟨?_,blk,by rw[ex];simp⟩;rcases hk.get x with h|h
      ·exact h.1
      ·rw[h.1,Tr.get_del,ac ex]
     ·rcases hk.get x with h|h
      ·exact .inl ⟨h.1,let⟨y,hy⟩:=h.2;⟨y,List.mem_append_left _ hy⟩⟩
      ·right;refine⟨by rw[h.1,Tr.get_del,ab ex],?_⟩;rintro⟨y,hy⟩;rcases List.mem_append.1 hy with hy|hy
       ·exact h.2 ⟨y,hy⟩
       ·simp at hy;exact ex hy.1
    ·intro x y hxy;rcases List.mem_append.1 hxy with hxy|hxy
     ·have:=hk.was x y hxy;rw[Tr.get_del]at this;split at this
      ·cases this
      ·exact this
     ·simp at hxy;rw[hxy.1,hxy.2];exact hb
    ·intro i' b' hm hf;rcases bj.1 hm with hm|hm
     ·injection hm with h1 h2
      rw[h2];rcases hk.get b with h|h
      ·exact h.1
      ·rw[h.1,Tr.get_del,ac rfl]
     ·exact hk.rd i' b' hm hf
theorem nG(f:Nat→Option bq):∀(l:List (Nat×bq)) (M:Mem),(∀b blk,(b,blk)∈l→f b=some blk)→ ∀b,(uY l b∧(b7 l M).get b=f b)∨(¬uY l b∧(b7 l M).get b=M.get b)
 |[],M,_,b=> .inr ⟨fun⟨_,h⟩=>(by cases h),rfl⟩
 |(x,blk)::r,M,h,b=>by
  rw[b7,Tr.force_eq];rcases nG f r (M.set x blk) (fun b' blk' hm=>h b' blk' (bz _ hm)) b with hh|hh
  ·exact .inl ⟨let⟨y,hy⟩:=hh.1;⟨y,bz _ hy⟩,hh.2⟩
  ·by_cases e:b=x
   ·left;refine⟨⟨blk,by rw[e];simp⟩,?_⟩;rw[hh.2,Tr.get_set,ac e,e,h x blk (by simp)]
   ·right;refine⟨?_,by rw[hh.2,Tr.get_set,ab e]⟩;rintro⟨y,hy⟩;rcases bj.1 hy with hy|hy
    ·injection hy with h1 h2;exact e h1
    ·exact hh.1 ⟨y,hy⟩
theorem lR{F:RO}{M:Mem}:∀(p:List (Nat×Nat×bq)),cz F M p=true→ ∀i b blk,(i,b,blk)∈p→look F M b=none
 |[],_,_,_,_,h=>by cases h
 |(j,b',blk')::r,hp,i,b,blk,hm=>by
  rw[cz]at hp;cases hl:look F M b' with
  |none=>
   rw[hl]at hp;simp only[Option.isNone_none,cond_true]at hp;rcases bj.1 hm with hm|hm
   ·injection hm with h1 h2;injection h2 with h2 h3;rw[h2];exact hl
   ·exact lR r hp i b blk hm
  |some y=>rw[hl]at hp;simp at hp
theorem lY{M:Mem}:∀(F:RO),bF M F=true→ ∀b blk,(b,blk)∈F→M.get b=none
 |[],_,_,_,h=>by cases h
 |(b',blk')::r,hp,b,blk,hm=>by
  rw[bF]at hp;cases hl:M.get b' with
  |none=>
   rw[hl]at hp;simp only[Option.isNone_none,cond_true]at hp;rcases bj.1 hm with hm|hm
   ·injection hm with h1 h2;rw[h1];exact hl
   ·exact lY r hp b blk hm
  |some y=>rw[hl]at hp;simp at hp
theorem qR{b:Nat}:∀(l:List (Nat×Nat)),cV b l=true→ ∀i b',(i,b')∈l→b'≠b
 |[],_,_,_,h=>by cases h
 |(j,x)::r,hp,i,b',hm=>by
  rw[cV,bp]at hp;by_cases e:x=b
  ·simp[e]at hp
  ·simp[e]at hp;rcases bj.1 hm with hm|hm
   ·injection hm with h1 h2;rw[h2];exact e
   ·exact qR r hp i b' hm
theorem cM(h:Nat×bq)(F:RO)(k:Nat):aV (h::F) k=if h.1=k then some h.2 else aV F k:=by
 show Bool.rec (motive:=fun _=>Option bq) (aV F k) (some h.2) (Nat.beq h.1 k)=_
 rw[bb,bp]
 by_cases e:h.1=k<;>simp[e]
theorem Pa{F:RO}{b:Nat}{blk:bq}(h:aV F b=some blk):(b,blk)∈F:=by
 induction F with
 |nil=>cases h
 |cons p r ih=>
  rw[cM]at h;split at h
  ·rename_i e;obtain rfl:=af h;rw[←e];simp
  ·exact bz _ (ih h)
theorem AD{F G:RO}{b:Nat}{blk:bq}(h:aV (F++G) b=some blk):(b,blk)∈F∨aV G b=some blk:=by
 induction F with
 |nil=>exact .inr h
 |cons p r ih=>
  rw[List.cons_append,cM]at h;split at h
  ·rename_i e;obtain rfl:=af h;left;rw[←e];simp
  ·rcases ih h with h'|h'
   ·exact .inl (bz _ h')
   ·exact .inr h'
theorem qS{F G:RO}{b:Nat}(h:aV (F++G) b=none):aV G b=none∧ ¬uY F b:=by
 induction F with
 |nil=>exact⟨h,fun⟨_,h⟩=>(by cases h)⟩
 |cons p r ih=>
  rw[List.cons_append,cM]at h;split at h
  ·cases h
  ·rename_i e;refine⟨(ih h).1,?_⟩;rintro⟨y,hy⟩;rcases bj.1 hy with hy|hy
   ·rw[←hy]at e;exact e rfl
   ·exact(ih h).2 ⟨y,hy⟩
theorem nY{F:RO}{M:Mem}{b:Nat}(h:look F M b=none):M.get b=none∧aV F b=none:=by
 cases hm:M.get b with
 |none=>rw[aC hm]at h;exact⟨rfl,h⟩
 |some x=>rw[aq hm]at h;cases h
theorem Aj{F:RO}{M:Mem}{b:Nat}(h1:M.get b=none)(h2:aV F b=none):look F M b=none:=by
 rw[aC h1,h2]
theorem kN:∀(p:List (Nat×Nat×bq)) (M:Mem),ND p→ ∀b,(dP p M).get b=(gT p b).or (M.get b)
 |[],M,_,b=>rfl
 |(i,x,blk)::r,M,h,b=>by
  obtain⟨h1,h2⟩:=List.pairwise_cons.1 h;rw[dP,Tr.force_eq,kN r _ h2,gT];by_cases e:b=x
  ·rw[ac e];have hn:gT r b=none:=by
    cases hp:gT r b with
    |none=>rfl
    |some blk'=>obtain⟨j,hj⟩:=l8 hp;exact absurd e.symm (h1 (j,b,blk') hj)
   rw[hn,Tr.get_set,ac e];rfl
  ·rw[ab e,Tr.get_set,ab e]
theorem tv{a b x:Nat}(h:Nat.lor a b=b)(hx:testBit a x=true):testBit b x=true:=by
 have key:∀m i,testBit m i=Nat.testBit m i:=by
  intro m i;show Nat.beq (m/2^i%2) 1=Nat.testBit m i;rw[bp,Nat.testBit_eq_decide_div_mod_eq]
 rw[key]at hx⊢
 have:(a|||b)=b:=h
 rw[←this,Nat.testBit_or,hx];rfl
def sk(t:T)(M:Mem)(c:Nat)(p:List (Nat×Nat×bq)):SS:=⟨t,fun b=>(gT p b).or (M.get b),c⟩
structure DK(base:Nat)(F:RO)(M:Mem)(p:List (Nat×Nat×bq)):Prop where
 nm:∀i b blk,(i,b,blk)∈p→b=base+i
 nd:ND p
 fr:∀i b blk,(i,b,blk)∈p→look F M b=none
def uA(base:Nat)(x y:io):Prop:=testBit x.mask y.i=false∧x.i≠y.i∧(testBit y.mask x.i=true∨GW base x y)
structure zG(base:Nat)(p:List (Nat×Nat×bq))(reads:List (Nat×Nat))(y:io):Prop where
 r1:∀x b,(x,b)∈reads→testBit y.mask x=false→ ∀v M1 F1 M' ct ct',y.k= .ef v M1 F1 M' ct ct'→M1.get b=none
 r2:∀x b,(x,b)∈reads→ ∀v blk,y.k= .al v blk→b≠base+y.i
 p1:∀x b blk,(x,b,blk)∈p→testBit y.mask x=false→ ∀v M1 F1 M' ct ct',y.k= .ef v M1 F1 M' ct ct'→M1.get b=none∧aV F1 b=none
 p2:∀x b blk,(x,b,blk)∈p→testBit y.mask x=false→ ∀v b',y.k= .qr v b'→b'≠b
def io.trip(l:io):Nat×Nat×CO:=(l.i,l.mask,l.co)
theorem pI{x y:Nat×Nat×CO}(h:s7 x y=true):testBit x.2.1 y.1=false∧x.1≠y.1∧
 ((testBit y.2.1 x.1=true∧Nat.lor x.2.1 y.2.1=y.2.1)∨(testBit y.2.1 x.1=false∧Ly x.2.2 y.2.2=true)):=by
 unfold s7 at h
 rw[bp,bp]at h
 simp only[aD,Bool.not_eq_true']at h
 obtain⟨h1,h2,h3⟩:=h
 refine⟨h1,by simpa using h2,?_⟩
 cases ht:testBit y.2.1 x.1 with
 |true=>rw[ht]at h3;exact .inl ⟨rfl,by simpa using h3⟩
 |false=>rw[ht]at h3;exact .inr ⟨rfl,by simpa using h3⟩
theorem qK{x:Nat×Nat×CO}:∀{l:List (Nat×Nat×CO)},qJ x l=true→ ∀y∈l,s7 x y=true
 |[],_,_,h=>by cases h
 |z::r,h,y,hy=>by
  simp only[qJ,aD]at h;rcases bj.1 hy with rfl|hy
  ·exact h.1
  ·exact qK h.2 y hy
theorem tc{x y:CO}(h:Ly x y=true):isE x=false∧sU y.ps x.dst=false∧sU x.ps y.dst=false∧qo x.dst y.dst=false:=by
 unfold Ly at h
 simpa using h
theorem uA.mk'{base:Nat}{x y:io}(h:s7 x.trip y.trip=true)(hk:x.k.isEf=false)
 (rd:testBit y.mask x.i=false→ ∀vx b v M1 F1 M' ct ct',x.k= .qr vx b→y.k= .ef v M1 F1 M' ct ct'→M1.get b=none)
 (al:testBit y.mask x.i=false→ ∀vx blk v M1 F1 M' ct ct',x.k= .al vx blk→y.k= .ef v M1 F1 M' ct ct'→M1.get (base+x.i)=none∧aV F1 (base+x.i)=none)
 (rd2:testBit y.mask x.i=false→ ∀vx blk v b,x.k= .al vx blk→y.k= .qr v b→b≠base+x.i)
 (rd3:∀vx b v blk,x.k= .qr vx b→y.k= .al v blk→b≠base+y.i):uA base x y:=by
 obtain⟨h1,h2,h3⟩:=pI h
 refine⟨h1,h2,?_⟩
 rcases h3 with⟨h3,_⟩|⟨h3,h4⟩
 ·exact .inl h3
 ·obtain⟨_,a2,a3,a4⟩:=tc h4;exact .inr ⟨h2,hk,a2,a3,a4,rd h3,al h3,rd2 h3,rd3⟩
section
variable{k:Kn}{base:Nat}{t t1:T}{M M1:Mem}{c c1:Nat}{p p1:List (Nat×Nat×bq)}{reads reads1:List (Nat×Nat)}{i mask:Nat}{co:CO}
def DN(k:Kn)(base:Nat)(h:Nat×Nat×CO)(t:T)(M:Mem)(c:Nat)(p:List (Nat×Nat×bq))(reads:List (Nat×Nat))(t1:T)(M1:Mem)(c1:Nat)(p1:List (Nat×Nat×bq))(reads1:List (Nat×Nat)):Prop:=
 ∃l:io,l.trip=h∧Tn k base k.F l (sk t M c p) (sk t1 M1 c1 p1)∧DK base k.F M1 p1∧(∀q∈p1,q.1=h.1∨ ∃q'∈p,q'.1=q.1)∧zG base p reads l∧
  ∀y:io,s7 h y.trip=true→zG base p1 reads1 y→zG base p reads y∧uA base l y
theorem OS{F:RO}(hI:DK base F M p){b:Nat}{blk:bq}(h:look F M b=some blk):gT p b=none:=by
 cases hp:gT p b with
 |none=>rfl
 |some x=>
  obtain⟨j,hj⟩:=l8 hp;rw[hI.fr _ _ _ hj]at h;cases h
theorem lV(hI:DK base k.F M p){lk:LK}{v:V}(hv:io.val ⟨i,mask,co,lk⟩=v)(hm:∀m,io.mem base ⟨i,mask,co,lk⟩ m=m)(hc:io.ctr ⟨i,mask,co,lk⟩ c=c)
 (hcan:PA k base k.F ⟨i,mask,co,lk⟩ (sk t M c p)) (hne:lk.isEf=false) (hna:∀v blk,lk≠ .al v blk)
 (hrd:∀v b,lk= .qr v b→(i,b)∈reads1∧ ∀blk x,(x,b,blk)∉p) (hsub:∀q∈reads,q∈reads1):
 DN k base (i,mask,co) t M c p reads (setT t co.dst v) M c p reads1:=by
 refine⟨⟨i,mask,co,lk⟩,rfl,p9.2 ⟨hcan,?_⟩,hI,fun q hq=> .inr ⟨q,hq,rfl⟩,⟨?_,?_,?_,?_⟩,?_⟩
 ·show sk _ _ _ _=SS.mk _ _ _;rw[hv,hm];show SS.mk _ _ _=SS.mk _ _ (io.ctr _ c);rw[hc];rfl
 ·intro x b _ _ v M1 F1 M' ct ct' e;have e':lk=_:=e;rw[e']at hne;cases hne
 ·intro x b _ v blk e;exact absurd e (hna v blk)
 ·intro x b blk _ _ v M1 F1 M' ct ct' e;have e':lk=_:=e;rw[e']at hne;cases hne
 ·intro x b blk hx _ v b' e;rintro rfl;exact(hrd v b' e).2 blk x hx
 ·intro y hp hy;refine⟨⟨fun x b hx=>hy.r1 x b (hsub _ hx),fun x b hx=>hy.r2 x b (hsub _ hx),hy.p1,hy.p2⟩,?_⟩;refine .mk' hp hne ?_ ?_ ?_ ?_
  ·intro ht vx b v M1 F1 M' ct ct' e1 e2;exact hy.r1 i b (hrd vx b e1).1 ht v M1 F1 M' ct ct' e2
  ·intro ht vx blk v M1 F1 M' ct ct' e1;exact absurd e1 (hna _ _)
  ·intro ht vx blk v b e1;exact absurd e1 (hna _ _)
  ·intro vx b v blk e1 e2;exact hy.r2 i b (hrd vx b e1).1 v blk e2
theorem F9{α:Type}{o:Option α}(h:o.isNone=true):o=none:=by cases o<;>simp_all
theorem XE(hI:DK base k.F M p)(hi:∀q∈p,q.1≠i)(h:ui k base (i,mask,co) (.mk t M c p reads)=some (.mk t1 M1 c1 p1 reads1)):
 DN k base (i,mask,co) t M c p reads t1 M1 c1 p1 reads1:=by
 obtain⟨dst,op,g⟩:=co
 unfold ui at h
 dsimp only at h
 cases hw:wanted t g with
 |false=>
  rw[hw,cond_false,Tr.force_eq]at h;injection h with h;injection h with e1 e2 e3 e4 e5
  subst e1 e2 e3 e4 e5;exact lV (lk:= .skip) hI rfl (fun _=>rfl) rfl hw rfl (fun _ _ h=>by cases h) (fun _ _ h=>by cases h) (fun _ h=>h)
 |true=>
  rw[hw,cond_true]at h;cases op with
  |q o=>
   have h':tP i dst t M c p reads (O6 o k.F M t (cS o k.F M t))=some (.mk t1 M1 c1 p1 reads1):=h;cases hq:cS o k.F M t with
   |f=>rw[hq]at h';cases(show(none:Option DS)=some _ from h')
   |v x0=>
    rw[hq]at h';have h2:tP i dst t M c p reads (cS o [] .e t)=some (.mk t1 M1 c1 p1 reads1):=h';cases hq2:cS o [] .e t with
    |f=>rw[hq2]at h2;cases(show(none:Option DS)=some _ from h2)
    |v x=>
     rw[hq2,tP,Tr.force_eq]at h2;injection h2 with h2;injection h2 with e1 e2 e3 e4 e5
     subst e1 e2 e3 e4 e5;exact lV (lk:= .qv x) hI rfl (fun _=>rfl) rfl ⟨hw,o,rfl,by show(cS o [] .e t).val=_;rw[hq2];rfl⟩ rfl (fun _ _ h=>by cases h) (fun _ _ h=>by cases h) (fun _ h=>h)
    |r x b=>
     rw[hq2,tP,Tr.force_eq]at h2;injection h2 with h2;injection h2 with e1 e2 e3 e4 e5
     subst e1 e2 e3 e4 e5;exact lV (lk:= .qv x) hI rfl (fun _=>rfl) rfl ⟨hw,o,rfl,by show(cS o [] .e t).val=_;rw[hq2];rfl⟩ rfl (fun _ _ h=>by cases h) (fun _ _ h=>by cases h) (fun _ h=>bz _ h)
   |r x0 b=>
    rw[hq]at h';have h2:tP i dst t M c p reads (ah2 o t b (look k.F M b))=some (.mk t1 M1 c1 p1 reads1):=h';cases hl:look k.F M b with
    |none=>rw[hl]at h2;cases(show(none:Option DS)=some _ from h2)
    |some blk=>
     rw[hl]at h2;have h3:tP i dst t M c p reads (Mw b (cS o [(b,blk)] .e t))=some (.mk t1 M1 c1 p1 reads1):=h2;have hpg:=OS hI hl;have hmem:((gT p b).or (M.get b)=some blk∨((gT p b).or (M.get b)=none∧aV k.F b=some blk)):=by
      rw[hpg];cases hm:M.get b with
      |none=>rw[aC hm]at hl;exact .inr ⟨rfl,hl⟩
      |some y=>rw[aq hm]at hl;exact .inl hl
     have fin:∀x,(cS o [(b,blk)] .e t).val=some x→tP i dst t M c p reads (.r x b)=some (.mk t1 M1 c1 p1 reads1)→DN k base (i,mask,.mk dst (.q o) g) t M c p reads t1 M1 c1 p1 reads1:=by
      intro x hx h4;rw[tP,Tr.force_eq]at h4;injection h4 with h4;injection h4 with e1 e2 e3 e4 e5
      subst e1 e2 e3 e4 e5;refine lV (lk:= .qr x b) hI rfl (fun _=>rfl) rfl ⟨hw,o,blk,rfl,hmem,hx⟩ rfl (fun _ _ h=>by cases h) ?_ (fun _ h=>bz _ h);intro v b' e;injection e with e1 e2
      subst e1 e2;exact⟨by simp,fun blk x=>OT hpg x blk⟩
     cases hq2:cS o [(b,blk)] .e t with
     |f=>rw[hq2]at h3;cases(show(none:Option DS)=some _ from h3)
     |v x=>rw[hq2]at h3;exact fin x (by rw[hq2];rfl) h3
     |r x b2=>rw[hq2]at h3;exact fin x (by rw[hq2];rfl) h3
  |a o=>
   have h':fN (Nat.add base i) (fun b=>bif (look k.F M b).isNone&&cV b reads then EK i b dst t M c p reads (kl o b t)else none)=some (.mk t1 M1 c1 p1 reads1):=h;rw[aN]at h';cases hb:((look k.F M (Nat.add base i)).isNone&&cV (Nat.add base i) reads)with
   |false=>rw[hb]at h';cases h'
   |true=>
    rw[hb,cond_true]at h';rw[aD]at hb;have hlk:=F9 hb.1;have hrf:=qR _ hb.2;cases ha:kl o (Nat.add base i) t with
    |none=>rw[ha]at h';cases h'
    |some pr=>
     obtain⟨v,blk⟩:=pr;rw[ha,EK,Tr.force_eq]at h';injection h' with h';injection h' with e1 e2 e3 e4 e5
     subst e1 e2 e3 e4 e5;refine⟨⟨i,mask,.mk dst (.a o) g,.al v blk⟩,rfl,p9.2 ⟨⟨hw,o,rfl,ha⟩,?_⟩,⟨?_,?_,?_⟩,?_,⟨?_,?_,?_,?_⟩,?_⟩
     ·show SS.mk _ _ _=SS.mk _ _ _
      congr 1
      funext b
      show(gT ((i,base+i,blk)::p) b).or (M.get b)=jW (fun b=>(gT p b).or (M.get b)) (base+i) blk b;unfold jW;rw[gT];by_cases e:b=base+i
      ·rw[ac e,ac e];rfl
      ·rw[ab e,ab e]
     ·intro j b blk' hm;rcases bj.1 hm with hm|hm
      ·injection hm with h1 h2;injection h2 with h2 h3;rw[h1,h2];rfl
      ·exact hI.nm j b blk' hm
     ·refine List.pairwise_cons.2 ⟨?_,hI.nd⟩;rintro⟨j,b,blk'⟩ hm e;have e1:=hI.nm j b blk' hm;have e2:=hi _ hm;have e3:base+i=b:=e;exact e2 (by show j=i;omega)
     ·intro j b blk' hm;rcases bj.1 hm with hm|hm
      ·injection hm with h1 h2;injection h2 with h2 h3;rw[h2];exact hlk
      ·exact hI.fr j b blk' hm
     ·intro q hq;rcases bj.1 hq with hq|hq
      ·left;rw[hq]
      ·exact .inr ⟨q,hq,rfl⟩
     ·intro x b _ _ v M1 F1 M' ct ct' e;cases e
     ·intro x b hx v blk e;exact hrf x b hx
     ·intro x b blk _ _ v M1 F1 M' ct ct' e;cases e
     ·intro x b blk _ _ v b' e;cases e
     ·intro y hp hy;refine⟨⟨hy.r1,hy.r2,fun x b blk hx=>hy.p1 x b blk (bz _ hx),fun x b blk hx=>hy.p2 x b blk (bz _ hx)⟩,?_⟩;refine .mk' hp rfl (by intro _ vx b v M1 F1 M' ct ct' e1;cases e1) ?_ ?_ (by intro vx b v blk e1;cases e1)
      ·intro ht vx blk' v M1 F1 M' ct ct' e1 e2;exact hy.p1 i (base+i) blk (bK ..) ht v M1 F1 M' ct ct' e2
      ·intro ht vx blk' v b e1 e2;exact hy.p2 i (base+i) blk (bK ..) ht v b e2
  |e o=>
   have h':Cc o k mask dst t c reads (jf mask p M)=some (.mk t1 M1 c1 p1 reads1):=h;obtain⟨Mm,hmg,hmget⟩:=pG mask p M hI.nd;rw[hmg]at h';obtain⟨F1,Ma,news,hpr,hP⟩:=jr mask reads k.F Mm [];rw[Cc,hpr,rK]at h';rw[cL]at h';cases hpf:cz F1 Ma (p.filter fun x=> !testBit mask x.1)with
   |false=>rw[hpf]at h';cases h'
   |true=>
    rw[hpf,cond_true]at h';cases hE:gG o (rR k F1) Ma c t with
    |f=>rw[hE]at h';cases(show(none:Option DS)=some _ from h')
    |k v Mr cr=>
     rw[hE,lM]at h';cases hck:(bF Mr F1&&cz F1 Mr (p.filter fun x=> !testBit mask x.1))with
     |false=>rw[hck]at h';cases h'
     |true=>
      rw[hck,cond_true,Tr.force_eq,Tr.force_eq]at h';injection h' with h';injection h' with e1 e2 e3 e4 e5
      subst e1 e2 e3 e4 e5;rw[aD]at hck;have hro:=lY _ hck.1;have hpa:=lR _ hck.2;have hpb:=lR _ hpf
      have hmem:∀q:Nat×Nat×bq,q∈p.filter (fun x=> !testBit mask x.1)↔q∈p∧testBit mask q.1=false:=by
       intro q;rw[List.mem_filter];simp
      have hun:=nG (fun b=>Mm.get b) news Mr hP.was
      have hnoF:∀b,(∀blk x,(x,b,blk)∉p.filter fun x=> !testBit mask x.1)→gT (p.filter fun x=> !testBit mask x.1) b=none:=by
       intro b hb;cases hp:gT (p.filter fun x=> !testBit mask x.1) b with
       |none=>rfl
       |some blk=>obtain⟨j,hj⟩:=l8 hp;exact absurd hj (hb blk j)
      have hnone:∀b,(Ma.get b≠none∨aV F1 b≠none)→gT (p.filter fun x=> !testBit mask x.1) b=none:=by
       intro b hb;refine hnoF b fun blk x hx=>?_;obtain⟨g1,g2⟩:=nY (hpb x b blk hx);rcases hb with hb|hb
       ·exact hb g1
       ·exact hb g2
      have hm:∀b,(sk t M c p).m b=(gT (p.filter fun x=> !testBit mask x.1) b).or (Mm.get b):=fun b=>(hmget b).symm;refine⟨⟨i,mask,.mk dst (.e o) g,.ef v Ma F1 Mr c cr⟩,rfl,p9.2 ⟨⟨hw,rfl,o,rfl,⟨hE,?_,?_,?_⟩⟩,?_⟩,⟨?_,?_,?_⟩,?_,⟨?_,?_,?_,?_⟩,?_⟩
      ·intro b blk hb;rw[hm b,hnone b (.inl (by rw[hb];exact(fun h=>by cases h)))];rcases hP.get b with hg|hg
       ·rw[hg.1]at hb;cases hb
       ·show Mm.get b=some blk;rw[←hg.1];exact hb
      ·intro b blk hb;have hb':=hb;rw[hP.ro]at hb';rcases AD hb' with hn|hF
       ·left;refine⟨?_,?_⟩
        ·rw[hm b,hnone b (.inr (by rw[hb];exact(fun h=>by cases h)))];exact hP.was b blk hn
        ·rcases hP.get b with hg|hg
         ·exact hg.1
         ·exact absurd ⟨blk,hn⟩ hg.2
       ·exact .inr hF
      ·intro b hb;obtain⟨blk,hblk⟩:=bm.1 hb;refine hro b blk ?_;rw[hP.ro];exact List.mem_append_right _ (Pa hblk)
      ·show SS.mk _ _ _=SS.mk _ _ _
       congr 1
       funext b
       show(gT (p.filter fun x=> !testBit mask x.1) b).or ((b7 news Mr).get b)=ed Ma Mr (sk t M c p).m b;unfold ed;rw[hm b];cases hpg:gT (p.filter fun x=> !testBit mask x.1) b with
       |some blk=>
        obtain⟨j,hj⟩:=l8 hpg;rw[ac ⟨(nY (hpb j b blk hj)).1,by simp⟩];rfl
       |none=>
        show(b7 news Mr).get b=if Ma.get b=none∧Mm.get b≠none then Mm.get b else Mr.get b
        rcases hun b with hu|hu
        ·rw[hu.2];obtain⟨blk,hn⟩:=hu.1;have h1:=hP.was b blk hn;rcases hP.get b with hg|hg
         ·rw[ac ⟨hg.1,by rw[h1];exact(fun h=>by cases h)⟩]
         ·exact absurd ⟨blk,hn⟩ hg.2
        ·rw[hu.2,ab];rintro⟨g1,g2⟩;rcases hP.get b with hg|hg
         ·exact hu.1 hg.2
         ·rw[hg.1]at g1;exact g2 g1
      ·intro j b blk hj;exact hI.nm j b blk ((hmem _).1 hj).1
      ·exact hI.nd.sublist List.filter_sublist
      ·intro j b blk hj;obtain⟨g1,g2⟩:=nY (hpa j b blk hj);rw[hP.ro]at g2;obtain⟨g3,g4⟩:=qS g2;refine Aj ?_ g3;rcases hun b with hu|hu
       ·exact absurd hu.1 g4
       ·rw[hu.2];exact g1
      ·intro q hq;exact .inr ⟨q,((hmem _).1 hq).1,rfl⟩
      ·intro x b hx ht v M1 F1' M' ct ct' e;injection e with e1 e2 e3 e4 e5 e6
       subst e2;exact hP.rd x b hx ht
      ·intro x b hx v blk e;cases e
      ·intro x b blk hx ht v M1 F1' M' ct ct' e;injection e with e1 e2 e3 e4 e5 e6
       subst e2 e3;exact nY (hpb x b blk ((hmem _).2 ⟨hx,ht⟩))
      ·intro x b blk hx ht v b' e;cases e
      ·intro y hp hy;obtain⟨f1,f2,f3⟩:=pI hp;have f4:testBit y.mask i=true∧Nat.lor mask y.mask=y.mask:=by
        rcases f3 with f3|f3
        ·exact f3
        ·have:=(tc f3.2).1;cases(show true=false from this)
       refine⟨⟨hy.r1,hy.r2,?_,?_⟩,⟨f1,f2,.inl f4.1⟩⟩
       ·intro x b blk hx ht;refine hy.p1 x b blk ((hmem _).2 ⟨hx,?_⟩) ht;cases htm:testBit mask x with
        |false=>rfl
        |true=>rw[tv f4.2 htm]at ht;cases ht
       ·intro x b blk hx ht;refine hy.p2 x b blk ((hmem _).2 ⟨hx,?_⟩) ht;cases htm:testBit mask x with
        |false=>rfl
        |true=>rw[tv f4.2 htm]at ht;cases ht
theorem vn:∀(C:List (Nat×Nat×CO)) (t:T) (M:Mem) (c:Nat) (p:List (Nat×Nat×bq)) (reads:List (Nat×Nat)) (t':T) (M':Mem) (c':Nat) (p':List (Nat×Nat×bq)) (reads':List (Nat×Nat)),
 jo k base C (.mk t M c p reads)=some (.mk t' M' c' p' reads')→ur C=true→DK base k.F M p→(∀q∈p,∀h∈C,q.1≠h.1)→
 ∃L:List io,L.map io.trip=C∧sI k base k.F L (sk t M c p) (sk t' M' c' p')∧L.Pairwise (uA base)∧DK base k.F M' p'∧ ∀y∈L,zG base p reads y
 |[],t,M,c,p,reads,t',M',c',p',reads',h,_,hI,_=>by
  have h':some (DS.mk t M c p reads)=some (.mk t' M' c' p' reads'):=h;injection h' with h';injection h' with e1 e2 e3 e4 e5
  subst e1 e2 e3 e4 e5;exact⟨[],rfl,rfl,.nil,hI,fun y hy=>by cases hy⟩
 |(i,mask,co)::C,t,M,c,p,reads,t',M',c',p',reads',h,hp,hI,hn=>by
  rw[jo]at h;cases hs:ui k base (i,mask,co) (.mk t M c p reads)with
  |none=>rw[hs]at h;cases h
  |some s1=>
   obtain⟨t1,M1,c1,p1,reads1⟩:=s1;rw[hs]at h;simp only[ur,aD]at hp;obtain⟨l,hl,hT,hI1,hsub,hpast,hrest⟩:=XE hI (fun q hq=>hn q hq _ (bK ..)) hs;have hpair:=fun y hy=>qK hp.1 y hy
   obtain⟨L,hL,hC,hPW,hI',hPO⟩:=vn C t1 M1 c1 p1 reads1 t' M' c' p' reads' h hp.2 hI1 (by
    intro q hq y hy;rcases hsub q hq with e|⟨q',hq',e⟩
    ·rw[e];exact(pI (hpair y hy)).2.1
    ·rw[←e];exact hn q' hq' y (bz _ hy))
   have hyC:∀y∈L,y.trip∈C:=fun y hy=>by rw[←hL];exact List.mem_map_of_mem hy
   refine⟨l::L,by rw[List.map_cons,hl,hL],⟨_,hT,hC⟩,List.pairwise_cons.2 ⟨fun y hy=>(hrest y (hpair _ (hyC y hy)) (hPO y hy)).2,hPW⟩,hI',?_⟩;intro y hy;rcases bj.1 hy with rfl|hy
   ·exact hpast
   ·exact(hrest y (hpair _ (hyC y hy)) (hPO y hy)).1
end
end
end Go.Proofs.YtdnddpmjnlagfaaGreatDoor.Ev
