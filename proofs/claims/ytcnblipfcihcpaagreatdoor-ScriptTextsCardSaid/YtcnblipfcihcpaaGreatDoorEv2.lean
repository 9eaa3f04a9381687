/- What is proved here: pieces of the evaluator's soundness: if the evaluator comes to a value, the model's run comes to it, for every world and tape; no conditions beyond the hypotheses of each theorem. -/
import Derived.Test.YtcnblipfcihcpaaGreatDoorEv1
import Derived.Lib.UnsafeStr
import Derived.RangeFuncRecord
import Derived.LoopNIn
import Derived.RangeFuncNested
import Derived.OrdersIn
set_option linter.unusedSimpArgs false
set_option linter.unusedVariables false
set_option linter.defProp false
namespace Go.Proofs.YtcnblipfcihcpaaGreatDoor.Ev
open Go
noncomputable section
section
variable{P:Program}{E:dj}{F:RO}{M:Mem}{c:Nat→Prop}{w:World}{t:T}{a:Act}
abbrev zN(P:Program)(F:RO)(E:dj)(M:Mem)(c:Nat→Prop)(ct:Nat)(w:World)(s:Sem Value)(v:V)(M':Mem)(ct':Nat):Prop:=
 ∃E' w' c',s.run P w= .ok (conc E' v) w'∧mY P F E M c w E' M' c' w'∧bd c' v∧jA c ct c' ct'
theorem CU{len by_:Nat}(h:jJ len by_=true):(3*len+2000)*by_≤281474976710656∧len≤1099511627776:=by
 unfold jJ at h
 rw[cE,cE]at h
 simpa using h
theorem wj{M0:Mem}{ct e by_ len fz:Nat}{str:Bool}{vs:List V}{v:V}{M':Mem}{ct':Nat}(h:ju M0 ct e by_ len fz str vs= .k v M' ct'):
 jJ len by_=true∧v= .u ct 0 len 0 len∧M'=M0.set ct (.cells e vs.length false fz str [] (bz vs 0 .e))∧ct'=ct+1:=by
 unfold ju at h
 cases hr:jJ len by_ with
 |false=>rw[hr]at h;cases h
 |true=>
  rw[hr,cond_true,Tr.force_eq,b9,b9]at h;injection h with h1 h2 h3
  exact⟨rfl,h1.symm,h2.symm,h3.symm⟩
theorem ja(c:Nat→Prop)(ct:Nat):jA c ct (fun b=>c b∨b=ct) (ct+1):=⟨by omega,fun b hb=>hb.elim .inl fun h=> .inr (by omega)⟩
theorem oP(h:Cx P E F M c w t a){ct:Nat}(hf:gP c ct){M0:Mem}(hM0:mY P F E M c w E M0 c w){ats:Array TypeId}{rty ty e:TypeId}{i:TypeInfo}(hat:ats[0]?=some ty)(hu:P.underlying ty=some (.slice e))(hzs:lV P ats)(hi:P.info? e=some i)(hzo:zOk P e i.size=true)
 {X:Value} {base:Option Addr} {sLen sCap n fz:Nat} {str:Bool} {old new:List V} (hlen:(Builtin.lenOf X).run P w= .ok n w) (hold:(Builtin.firstCells i.size sLen (.slice base sLen sCap)).run P w.drew= .ok (aB E old).toArray w.drew)
 (hnew:(Builtin.firstCells i.size n X).run P w.drew= .ok (aB E new).toArray w.drew) (hbo:i9 c old) (hbn:i9 c new) (hlo:old.length=sLen*i.size) (hln:new.length=n*i.size) (hg:sCap<sLen+n)
 {v:V} {M':Mem} {ct':Nat} (hgr:ju M0 ct e i.bytes (sLen+n) fz str (old++new)= .k v M' ct'):
 zN P F E M c ct w (Builtin.append_ ats rty #[.slice base sLen sCap,X]) v M' ct':=by
 obtain⟨hr,rfl,rfl,rfl⟩:=wj hgr
 obtain⟨hr1,hr2⟩:=CU hr
 obtain⟨z,hz,hzc⟩:=Di hi hzo
 have h2:=nextslicecap_le hg
 have h48:Builtin.nextslicecap (sLen+n) sCap*i.bytes≤281474976710656:=by
  have h3:Builtin.nextslicecap (sLen+n) sCap*i.bytes≤(3*(sLen+n)+2000)*i.bytes:=Nat.mul_le_mul_right _ (by omega);omega
 have hrun:=mZ (w:=w) (rty:=rty) hat hu hzs hi hz hlen hold hnew hg (by omega) h48
 have hcap:sLen+n≤grownCap w (sLen+n) sCap e:=by simp[grownCap,Question.cut]
 have hco:P.cellsOf e=i.size:=by unfold Program.cellsOf;rw[hi];rfl
 have hbd:=iH hbo hbn
 have harr:(aB E old).toArray++(aB E new).toArray=(aB E (old++new)).toArray:=by rw[ie];simp
 rw[harr]at hrun
 obtain⟨E',hS,hE,hρ,hβ,hκ⟩:=hM0.rel.alloc (.cells e (old++new).length false fz str [] (bz (old++new) 0 .e)) (.cells ((aB E (old++new)).toArray++Builtin.zeroCells z.cells (grownCap w (sLen+n) sCap e-(sLen+n))) e) ct
  (grownCap w (sLen+n) sCap e-(sLen+n)) (fun b=>c b∨b=ct) (hf ct (ak _)) (.inr rfl) (fun _ h=> .inl h) (rG hbd fun _ h=> .inl h)
  (w.drew.alloc (.cells ((aB E (old++new)).toArray++Builtin.zeroCells z.cells (grownCap w (sLen+n) sCap e-(sLen+n))) e)) rfl rfl rfl rfl
  (fun E' he _ hβ hκ=>Mt he hbd hβ hκ (by rw[aG,hlo,hln,hco,Nat.add_mul]) hcap (by rw[hzc,hco]))
 refine⟨E',_,_,?_,hM0.trans hS,.inr rfl,ja c ct⟩
 rw[hrun]
 simp only[conc,hρ,hβ,hκ]
 congr 2
 omega
theorem Cj(h:Cx P E F M c w t a){ct:Nat}(hf:gP c ct){b n' fz o kn sLen n:Nat}{str:Bool}{d:List V}{cs:T}{e:TypeId}{i:TypeInfo}(hi:P.info? e=some i)(hM:M.get b=some (.cells e n' false fz str d cs))
 (hn':n'=o+kn*i.size) (hfz:fz≤o+sLen*i.size) {old new:List V} (hold:∀j v,old[j]?=some v→cell n' d cs (o+j)=some v) (hbo:i9 c old) (hbn:i9 c new) (h1:bj new=true) (hlo:old.length=sLen*i.size) (hln:new.length=n*i.size)
 (hle:sLen+n≤kn+E.κ b) {by_:Nat} {v:V} {M':Mem} {ct':Nat} (hgr:ju (M.del b) ct e by_ (sLen+n) fz str (old++new)= .k v M' ct'):
 ∃E' w' c',(storeCells ⟨E.ρ b,E.β b+o+sLen*i.size,none⟩ (aB E new)).run P w= .ok () w'∧mY P F E M c w E' M' c' w'∧bd c' v∧jA c ct c' ct'∧conc E' v= .slice (some ⟨E.ρ b,E.β b+o,none⟩) (sLen+n) (kn+E.κ b):=by
 obtain⟨hr,rfl,rfl,rfl⟩:=wj hgr
 obtain⟨arr,fr,ho,hrel⟩:=h.cells (ay hM)
 have hco:P.cellsOf e=i.size:=by unfold Program.cellsOf;rw[hi];rfl
 have hsz:=hrel.size
 simp only[bg,if_false]at hsz
 rw[hco]at hsz
 have hlen:(aB E new).length=n*i.size:=by simp[bC,hln]
 have hone:∀v∈aB E new,v.oneCell'=true:=by
  intro v hv;rw[bC,List.mem_map]at hv;obtain⟨x,hx,rfl⟩:=hv;exact qp (lW h1 x hx)
 have hmul:(sLen+n)*i.size≤(kn+E.κ b)*i.size:=Nat.mul_le_mul_right _ hle
 rw[Nat.add_mul,Nat.add_mul]at hmul
 have hrun:=iv (P:=P) (E.ρ b) (E.β b+o+sLen*i.size) e fr (aB E new) 0 arr w ho (fun k hk hk'=>hrel.free k (by omega) hk') (by rw[hlen];omega) hone
 have hsp:=oN (E.β b+o+sLen*i.size) (aB E new) 0 arr
 have hbd:=iH hbo hbn
 obtain⟨E',hS,hρ,hβ,hκ⟩:=h.rel.take b ct _ (.cells e (old++new).length false fz str [] (bz (old++new) 0 .e)) hM (.cells (eO arr (E.β b+o+sLen*i.size) (aB E new) 0) e fr) (E.β b+o) (kn+E.κ b-(sLen+n)) (fun x=>c x∨x=ct)
  (hf ct (ak _)) (.inr rfl) (fun _ h=> .inl h) (rG hbd fun _ h=> .inl h) {w with heap:=w.heap.setIfInBounds (E.ρ b) (.cells (eO arr (E.β b+o+sLen*i.size) (aB E new) 0) e fr)} rfl rfl rfl rfl (fun E' he hρ hβ hκ=>by
   refine⟨_,_,rfl,⟨fun k v hk=>?_,?_,?_,?_⟩⟩
   ·have hk':=jN hk;have hlt:k<(old++new).length:=(List.getElem?_eq_some_iff.1 hk').1;rw[aG,hlo,hln]at hlt;rw[hβ,dO he v (eI hbd hk')];unfold eO;rw[hsp.2 (E.β b+o+k) (by omega),hlen,cT];by_cases hko:k<sLen*i.size
    ·rw[ab (by omega)];rw[List.getElem?_append_left (by omega)]at hk';rw[Nat.add_assoc];exact hrel.cell (o+k) v (hold k v hk')
    ·rw[ae (by omega),show E.β b+o+k-(E.β b+o+sLen*i.size)=k-old.length by omega];rw[List.getElem?_append_right (by omega)]at hk';exact eM hk'
   ·simp only[bg,if_false];unfold eO;rw[hsp.1,hβ,hκ,hco,aG,hlo,hln,hsz,Nat.sub_mul,Nat.add_mul,Nat.add_mul];omega
   ·unfold eO;rw[hsp.1,hβ];intro k hk hk';exact hrel.free k (by omega) hk'
   ·intro hs;rw[hβ];rcases hrel.plain hs with hp|⟨hp,hp'⟩
    ·exact .inl hp
    ·exact .inr ⟨hp,by omega⟩)
 refine⟨E',_,_,hrun,hS,.inr rfl,ja c ct,?_⟩
 simp only[conc,hρ,hβ,hκ]
 congr 1
 omega
theorem sL{m:Nat}{d:List V}{cs:T}{new:List V}{k:Nat}{v:V}(h:cell (m+new.length) d (bz new m cs) k=some v):(k<m∧cell m d cs k=some v)∨(m≤k∧new[k-m]?=some v):=by
 rw[cM,dH]at h
 split at h
 ·rename_i hk;by_cases hm:m≤k
  ·right;rw[ae ⟨hm,hk⟩,List.getElem?_eq_getElem (by omega)]at h;exact⟨hm,by rw[List.getElem?_eq_getElem (by omega)];exact h⟩
  ·left;rw[ab (by omega)]at h;exact⟨by omega,by rw[cM,ae (by omega)];exact h⟩
 ·cases h
theorem JW{m e fz:Nat}{d:List V}{cs:T}{new:List V}{c':Nat→Prop}{ex str:Bool}(ho:fw c (.cells e m ex fz str d cs))(hn:i9 c new)(hc:∀b,c b→c' b):fw c' (.cells e (m+new.length) false fz str d (bz new m cs)):=fun k v hk=>by
 rcases sL hk with⟨_,h⟩|⟨_,h⟩
 ·exact dZ hc v (ho k v h)
 ·exact dZ hc v (eI hn h)
theorem tU{M0:Mem}{ct e by_ len fz m:Nat}{str:Bool}{new d:List V}{cs:T}{v:V}{M':Mem}{ct':Nat}(h:nW M0 ct e by_ len fz str new m d cs= .k v M' ct'):
 jJ len by_=true∧v= .u ct 0 len 0 len∧M'=M0.set ct (.cells e (m+new.length) false fz str d (bz new m cs))∧ct'=ct+1:=by
 unfold nW at h
 cases hr:jJ len by_ with
 |false=>rw[hr]at h;cases h
 |true=>
  rw[hr,cond_true,Tr.force_eq,b9,Tr.force_eq,b9,b9]at h;injection h with h1 h2 h3
  exact⟨rfl,h1.symm,h2.symm,h3.symm⟩
theorem EQ(h:Cx P E F M c w t a){ct:Nat}(hf:gP c ct){ats:Array TypeId}{rty ty e:TypeId}{i:TypeInfo}(hat:ats[0]?=some ty)(hu:P.underlying ty=some (.slice e))(hzs:lV P ats)(hi:P.info? e=some i)(hzo:zOk P e i.size=true)
 {X:Value} {b m sLen sCap n fz:Nat} {str:Bool} {d new:List V} {cs:T} (hM:M.get b=some (.cells e m false fz str d cs)) (hm:m=sLen*i.size) (hlen:(Builtin.lenOf X).run P w= .ok n w)
 (hnew:(Builtin.firstCells i.size n X).run P w.drew= .ok (aB E new).toArray w.drew) (hbn:i9 c new) (hln:new.length=n*i.size) (hg:sCap<sLen+n)
 {v:V} {M':Mem} {ct':Nat} (hgr:nW (M.del b) ct e i.bytes (sLen+n) fz str new m d cs= .k v M' ct'):
 zN P F E M c ct w (Builtin.append_ ats rty #[.slice (some ⟨E.ρ b,E.β b+0,none⟩) sLen sCap,X]) v M' ct':=by
 obtain⟨hr,rfl,rfl,rfl⟩:=tU hgr
 obtain⟨hr1,hr2⟩:=CU hr
 obtain⟨z,hz,hzc⟩:=Di hi hzo
 obtain⟨arr,fr,ho,hrel⟩:=h.cells (ay hM)
 have hbo:=(h.rel.has _ _ (ay hM)).2.1
 have hM0:=h.rel.drop b
 have hle:=hrel.le
 obtain⟨ol,hol⟩:∃ol,ol=(arr.toList.drop (E.β b)).take m:=⟨_,rfl⟩
 have hll:ol.length=m:=by rw[hol,List.length_take,eL,Array.length_toList];omega
 have hget:∀j,j<m→ol[j]?=arr[E.β b+j]?:=fun j hj=>by rw[hol,List.getElem?_take_of_lt hj,List.getElem?_drop,Array.getElem?_toList]
 have hold:(Builtin.firstCells i.size sLen (.slice (some ⟨E.ρ b,E.β b+0,none⟩) sLen sCap)).run P w.drew= .ok ol.toArray w.drew:=by
  simp only[Builtin.firstCells]
  have:=run_loadCells_list (P:=P) w.drew ⟨E.ρ b,E.β b+0,none⟩ ol (fun j v hj=>by
   rw[Addr.add_eq];have hjm:j<m:=by rw[←hll];exact(List.getElem?_eq_some_iff.1 hj).1
   have ho':w.drew.heap[E.ρ b]?=some (.cells arr e fr):=ho;simp only[World.cell?,ho',Option.isSome_none,bg,if_false];rw[cT,←hget j hjm];exact hj)
  rwa [hll,hm]at this
 have h2:=nextslicecap_le hg
 have h48:Builtin.nextslicecap (sLen+n) sCap*i.bytes≤281474976710656:=by
  have h3:Builtin.nextslicecap (sLen+n) sCap*i.bytes≤(3*(sLen+n)+2000)*i.bytes:=Nat.mul_le_mul_right _ (by omega);omega
 have hrun:=mZ (w:=w) (rty:=rty) hat hu hzs hi hz hlen hold hnew hg (by omega) h48
 have hcap:sLen+n≤grownCap w (sLen+n) sCap e:=by simp[grownCap,Question.cut]
 have hco:P.cellsOf e=i.size:=by unfold Program.cellsOf;rw[hi];rfl
 have harr:ol.toArray++(aB E new).toArray=(ol++aB E new).toArray:=by simp
 rw[harr]at hrun
 obtain⟨E',hS,hE,hρ,hβ,hκ⟩:=hM0.rel.alloc (.cells e (m+new.length) false fz str d (bz new m cs)) (.cells ((ol++aB E new).toArray++Builtin.zeroCells z.cells (grownCap w (sLen+n) sCap e-(sLen+n))) e) ct
  (grownCap w (sLen+n) sCap e-(sLen+n)) (fun b=>c b∨b=ct) (hf ct (ak _)) (.inr rfl) (fun _ h=> .inl h) (JW hbo hbn fun _ h=> .inl h)
  (w.drew.alloc (.cells ((ol++aB E new).toArray++Builtin.zeroCells z.cells (grownCap w (sLen+n) sCap e-(sLen+n))) e)) rfl rfl rfl rfl
  (fun E' he _ hβ hκ=>by
   have hcl:(aB E new).length=n*i.size:=by simp[bC,hln]
   refine⟨_,_,rfl,⟨fun k v hk=>?_,?_,?_,fun _=> .inl rfl⟩⟩
   ·rw[hβ,Nat.zero_add];rcases sL hk with⟨h1,h2⟩|⟨h1,h2⟩
    ·rw[dO he v (hbo k v h2),Array.getElem?_append_left (by simp[hll];omega)];have:(ol++aB E new).toArray[k]?=ol[k]?:=by rw[List.getElem?_toArray,List.getElem?_append_left (by omega)]
     rw[this,hget k h1];exact hrel.cell k v h2
    ·have hlt:k-m<new.length:=(List.getElem?_eq_some_iff.1 h2).1;rw[dO he v (eI hbn h2),Array.getElem?_append_left (by simp[hll,hcl];omega)];have:(ol++aB E new).toArray[k]?=(aB E new)[k-m]?:=by rw[List.getElem?_toArray,List.getElem?_append_right (by omega),hll]
     rw[this];exact eM h2
   ·simp only[bg,if_false];rw[Array.size_append,oG,hβ,hκ,hzc,hco];simp[hll,hcl,hln]
   ·intro o _ ho hf;have h1:=hf.1;have h2:=hf.2;simp only at h1 h2;omega)
 refine⟨E',_,_,?_,hM0.trans hS,.inr rfl,ja c ct⟩
 rw[hrun]
 simp only[conc,hρ,hβ,hκ]
 congr 2
 omega
theorem Ms(h:Cx P E F M c w t a){ct:Nat}(hf:gP c ct){b m fz sLen n:Nat}{str:Bool}{d:List V}{cs:T}{e:TypeId}{i:TypeInfo}(hi:P.info? e=some i)(hM:M.get b=some (.cells e m false fz str d cs))
 (hm:m=sLen*i.size) (hfz:fz≤sLen*i.size) {new:List V} (hbn:i9 c new) (h1:bj new=true) (hln:new.length=n*i.size)
 (hle:sLen+n≤sLen+E.κ b) {by_:Nat} {v:V} {M':Mem} {ct':Nat} (hgr:nW (M.del b) ct e by_ (sLen+n) fz str new m d cs= .k v M' ct'):
 ∃E' w' c',(storeCells ⟨E.ρ b,E.β b+0+sLen*i.size,none⟩ (aB E new)).run P w= .ok () w'∧mY P F E M c w E' M' c' w'∧bd c' v∧jA c ct c' ct'∧conc E' v= .slice (some ⟨E.ρ b,E.β b+0,none⟩) (sLen+n) (sLen+E.κ b):=by
 obtain⟨hr,rfl,rfl,rfl⟩:=tU hgr
 obtain⟨arr,fr,ho,hrel⟩:=h.cells (ay hM)
 have hbo:=(h.rel.has _ _ (ay hM)).2.1
 have hco:P.cellsOf e=i.size:=by unfold Program.cellsOf;rw[hi];rfl
 have hsz:=hrel.size
 simp only[bg,if_false]at hsz
 rw[hco]at hsz
 have hlen:(aB E new).length=n*i.size:=by simp[bC,hln]
 have hone:∀v∈aB E new,v.oneCell'=true:=by
  intro v hv;rw[bC,List.mem_map]at hv;obtain⟨x,hx,rfl⟩:=hv;exact qp (lW h1 x hx)
 have hmul:(sLen+n)*i.size≤(sLen+E.κ b)*i.size:=Nat.mul_le_mul_right _ hle
 rw[Nat.add_mul,Nat.add_mul]at hmul
 have hrun:=iv (P:=P) (E.ρ b) (E.β b+0+sLen*i.size) e fr (aB E new) 0 arr w ho (fun k hk hk'=>hrel.free k (by omega) hk') (by rw[hlen];omega) hone
 have hsp:=oN (E.β b+0+sLen*i.size) (aB E new) 0 arr
 obtain⟨E',hS,hρ,hβ,hκ⟩:=h.rel.take b ct _ (.cells e (m+new.length) false fz str d (bz new m cs)) hM (.cells (eO arr (E.β b+0+sLen*i.size) (aB E new) 0) e fr) (E.β b+0) (sLen+E.κ b-(sLen+n)) (fun x=>c x∨x=ct)
  (hf ct (ak _)) (.inr rfl) (fun _ h=> .inl h) (JW hbo hbn fun _ h=> .inl h) {w with heap:=w.heap.setIfInBounds (E.ρ b) (.cells (eO arr (E.β b+0+sLen*i.size) (aB E new) 0) e fr)} rfl rfl rfl rfl (fun E' he hρ hβ hκ=>by
   refine⟨_,_,rfl,⟨fun k v hk=>?_,?_,?_,?_⟩⟩
   ·rw[hβ];unfold eO;rcases sL hk with⟨k1,k2⟩|⟨k1,k2⟩
    ·rw[dO he v (hbo k v k2),hsp.2 (E.β b+0+k) (by omega),hlen,cT,ab (by omega)];exact hrel.cell k v k2
    ·have hlt:k-m<new.length:=(List.getElem?_eq_some_iff.1 k2).1;rw[dO he v (eI hbn k2),hsp.2 (E.β b+0+k) (by omega),hlen,cT,ae (by omega),show E.β b+0+k-(E.β b+0+sLen*i.size)=k-m by omega];exact eM k2
   ·simp only[bg,if_false];unfold eO;rw[hsp.1,hβ,hκ,hco,hln,hsz,Nat.sub_mul,Nat.add_mul,Nat.add_mul];omega
   ·unfold eO;rw[hsp.1,hβ];intro k hk hk';exact hrel.free k (by omega) hk'
   ·intro hs;rw[hβ];rcases hrel.plain hs with hp|⟨hp,hp'⟩
    ·exact .inl hp
    ·exact .inr ⟨hp,by omega⟩)
 refine⟨E',_,_,hrun,hS,.inr rfl,ja c ct,?_⟩
 simp only[conc,hρ,hβ,hκ]
 congr 1
 omega
theorem pI{b ty o e fz:Nat}{str:Bool}(h:il M b ty o e=some (fz,str)):∃n d cs,M.get b=some (.cells ty n false fz str d cs)∧n=e∧fz≤o∧o≤e:=by
 unfold il at h
 split at h
 ·rename_i ty' n fz' str' d cs hM;rw[bK,bK,cE,cE]at h;by_cases hc:(decide (ty'=ty)&&decide (n=e)&&decide (fz'≤o)&&decide (o≤e))=true
  ·rw[hc,cond_true]at h;simp only[Option.some.injEq,Prod.mk.injEq]at h;obtain⟨rfl,rfl⟩:=h;simp only[aC,decide_eq_true_eq]at hc;obtain⟨⟨⟨rfl,rfl⟩,h3⟩,h4⟩:=hc;exact⟨_,_,_,hM,rfl,h3,h4⟩
  ·rw[Bool.not_eq_true]at hc;rw[hc]at h;cases h
 ·cases h
theorem vG{ct b o sz len n:Nat}{new:List V}{f:Nat→V}{v:V}{M':Mem}{ct':Nat}(h:BT ct b o sz len n M new f= .k v M' ct'):dK M b (o+len*sz) new=some M'∧v=f (len+n)∧ct'=ct:=by
 unfold BT at h
 split at h
 ·rename_i M'' hs;rw[b9]at h;injection h with h1 h2 h3
  subst h2;exact⟨hs,h1.symm,h3.symm⟩
 ·cases h
theorem tT{M0:Mem}{ct e by_ len fz:Nat}{str:Bool}{new:List V}{r:Option (List V×Option Nat)}{v:V}{M':Mem}{ct':Nat}(h:sW M0 ct e by_ len fz str new r= .k v M' ct'):∃old q,r=some (old,q)∧ju M0 ct e by_ len fz str (old++new)= .k v M' ct':=by
 unfold sW at h
 split at h
 ·exact⟨_,_,rfl,h⟩
 ·cases h
theorem Fp{sz n b o n' ty fz:Nat}{ex str:Bool}{d:List V}{cs:T}{vs:List V}{r:Option Nat}(hM:M.get b=some (.cells ty n' ex fz str d cs))(h:readB F M sz n b o=some (vs,r)):∀j v,vs[j]?=some v→cell n' d cs (o+j)=some v:=by
 unfold Ev.readB at h
 rw[bK]at h
 by_cases hn:n=0
 ·rw[af hn,cond_true]at h;simp only[Option.some.injEq,Prod.mk.injEq]at h;obtain⟨rfl,rfl⟩:=h;intro j v hj;simp at hj
 ·rw[ah hn,cond_false]at h;split at h
  ·rename_i l hl;simp only[Option.some.injEq,Prod.mk.injEq]at h;obtain⟨rfl,rfl⟩:=h;obtain⟨ty',m,ex',fz',str',d',cs',hb,hg⟩:=fU (f:=none) hl (by simp);rw[ay hM]at hb;injection hb with hb
   injection hb with h1 h2 h3 h4 h5 h6 h7
   subst h2 h6 h7;exact(j9 _ _ _ hg).2
  ·cases h
theorem nh{sz n b o len cap:Nat}(h:Cx P E F M c w t a){old:List V}{r:Option Nat}(hr:readB F M sz n b o=some (old,r)):(Builtin.firstCells sz n (.slice (some ⟨E.ρ b,E.β b+o,none⟩) len cap)).run P w.drew= .ok (aB E old).toArray w.drew:=by
 simp only[Builtin.firstCells]
 exact((h.world (w':=w.drew) rfl).readB hr).1
theorem ah0(h:Cx P E F M c w t a){ct:Nat}(hf:gP c ct){ats:Array TypeId}{rty ty e:TypeId}{i:TypeInfo}(hat:ats[0]?=some ty)(hu:P.underlying ty=some (.slice e))(hzs:lV P ats)(hi:P.info? e=some i)(hpos:i.size≠0)(hzo:zOk P e i.size=true)
 {x y:V} {n:Nat} {new:List V} (hs:gu F M i.size y=some (n,new)) (hbx:bd c x) (h1:bj new=true) (hln:new.length=n*i.size)
 {v:V} {M':Mem} {ct':Nat} (ha:app F M ct e i.size i.bytes x n new= .k v M' ct'):zN P F E M c ct w (Builtin.append_ ats rty #[conc E x,conc E y]) v M' ct':=by
 obtain⟨hlen,hfc,hbn⟩:=Z5 h hs
 obtain⟨_,hfcd,_⟩:=Z5 (h.world (w':=w.drew) rfl) hs
 unfold app at ha
 rw[bK]at ha
 by_cases hn0:n=0
 ·subst hn0;rw[af rfl,cond_true]at ha;have hnil:new=[]:=List.eq_nil_of_length_eq_zero (by omega);subst hnil;cases hlk:zd x with
  |false=>rw[hlk]at ha;cases ha
  |true=>
   rw[hlk,cond_true]at ha;injection ha with g1 g2 g3
   subst g1 g2 g3;have hsl:∃base sLen sCap,conc E x= .slice base sLen sCap∧sLen≤sCap:=by
    cases x<;>first
     |cases(show false=true from hlk)
     |(refine⟨_,_,_,rfl,?_⟩
       first
        |exact ak _
        |exact aE _
        |(have:Nat.ble _ _=true:=hlk
          rw[cE]at this;have:=aY this
          first
           |exact this
           |exact bF this (Nat.le_add_right _ _)))
   obtain⟨base,sLen,sCap,hcx,hle⟩:=hsl;refine⟨E,w,c,?_,.refl h.rel,hbx,.refl _ _⟩;rw[hcx];exact uq hat hu hzs hi hlen hfc hle
 ·rw[ah hn0,cond_false]at ha;have fin:∀{b o len n' cap:Nat} {M'':Mem},dK M b (o+len*i.size) new=some M''→len+n≤cap→c b→ ∃w',(Builtin.append_ ats rty #[.slice (some ⟨E.ρ b,E.β b+o,none⟩) len cap,conc E y]).run P w= .ok (.slice (some ⟨E.ρ b,E.β b+o,none⟩) (len+n) cap) w'∧mY P F E M c w E M'' c w':=by
   intro b o len n' cap M'' hst hcap hb;obtain⟨w',hrun,hS⟩:=h.store hst hbn;refine⟨w',iU hat hu hzs hi hlen hfc hcap ?_,hS⟩;rw[Addr.add_eq,Nat.add_assoc];exact hrun
  cases x with
  |l0=>
   exact oP h hf (.refl h.rel) hat hu hzs hi hzo (old:=[]) hlen (by simp[Builtin.firstCells,aB]) hfcd trivial hbn (by simp) hln (by omega) (by simpa using ha)
  |l b o len cap=>
   have ha':pu F M ct e i.size i.bytes b o len cap n new= .k v M' ct':=ha;unfold pu at ha';rw[cE]at ha';by_cases hcap:len+n≤cap
   ·rw[af (show Nat.add len n≤cap from hcap),cond_true]at ha';obtain⟨hst,rfl,rfl⟩:=vG ha';obtain⟨w',hrun,hS⟩:=fin (n':=0) hst hcap hbx;exact⟨E,w',c,hrun,hS,hbx,.refl _ _⟩
   ·rw[ah (show¬Nat.add len n≤cap from hcap),cond_false]at ha';obtain⟨old,q,hr,hgr⟩:=tT ha';have hrb:=h.readB hr;exact oP h hf (.refl h.rel) hat hu hzs hi hzo hlen (nh h hr) hfcd hrb.2.1 hbn hrb.2.2 hln (by omega) hgr
  |u b o len el kn=>
   have ha':pv F M ct e i.size i.bytes b o len el kn n new= .k v M' ct':=ha;unfold pv at ha';rw[cE]at ha';by_cases hcap:el+len+n≤kn
   ·rw[af (show Nat.add (Nat.add el len) n≤kn from hcap),cond_true]at ha';obtain⟨hst,rfl,rfl⟩:=vG ha';obtain⟨w',hrun,hS⟩:=fin (n':=0) (cap:=kn-el+E.κ b) hst (by omega) hbx;exact⟨E,w',c,hrun,hS,hbx,.refl _ _⟩
   ·rw[ah (show¬Nat.add (Nat.add el len) n≤kn from hcap),cond_false]at ha';split at ha'
    ·rename_i fz str hmw;obtain⟨n',d,cs,hM,hn',hfz,_⟩:=pI hmw;cases hw:Nat.beq o 0&&Nat.beq (Nat.sub kn el) len with
     |true=>
      rw[hw,cond_true,hM]at ha';rw[aC,bK,bK]at hw;obtain rfl:o=0:=aY hw.1;have hkl:kn-el=len:=aY hw.2;have ha2:nW (M.del b) ct e i.bytes (len+n) fz str new n' d cs= .k v M' ct':=ha';have hm:n'=len*i.size:=by
       have:n'=0+(kn-el)*i.size:=hn';rw[this,hkl,Nat.zero_add]
      have hcx:conc E (.u b 0 len el kn)= .slice (some ⟨E.ρ b,E.β b+0,none⟩) len (kn-el+E.κ b):=rfl;rw[hcx];by_cases hroom:len+n≤kn-el+E.κ b
      ·rw[hkl]at hroom⊢;obtain⟨E',w',c',hrun,hS,hb',hG,hcv⟩:=Ms h hf hi hM hm (by have:fz≤0+len*i.size:=hfz;omega) hbn h1 hln hroom ha2;refine⟨E',w',c',?_,hS,hb',hG⟩;rw[hcv];refine iU hat hu hzs hi hlen hfc hroom ?_;rw[Addr.add_eq];exact hrun
      ·exact EQ h hf hat hu hzs hi hzo hM hm hlen hfcd hbn hln (by omega) ha2
     |false=>
     rw[hw,cond_false]at ha';obtain⟨old,q,hr,hgr⟩:=tT ha';have hrb:=h.readB hr;by_cases hroom:len+n≤kn-el+E.κ b
     ·obtain⟨E',w',c',hrun,hS,hb',hG,hcv⟩:=Cj h hf hi hM (o:=o) (kn:=kn-el) (sLen:=len) hn' hfz (Fp hM hr) hrb.2.1 hbn h1 hrb.2.2 hln hroom hgr;refine⟨E',w',c',?_,hS,hb',hG⟩;rw[hcv];refine iU hat hu hzs hi hlen hfc hroom ?_;rw[Addr.add_eq];exact hrun
     ·exact oP h hf (h.rel.drop b) hat hu hzs hi hzo hlen (nh h hr) hfcd hrb.2.1 hbn hrb.2.2 hln (by omega) hgr
    ·cases ha'
  |ue b o0 o=>
   have ha':(match il M b e o o with
    |some (fz,str)=>ju (M.del b) ct e i.bytes n fz str new
    |none=> .f)= .k v M' ct':=ha
   split at ha'
   ·rename_i fz str hmw;obtain⟨n',d,cs,hM,hn',hfz,_⟩:=pI hmw;by_cases hroom:n≤E.κ b
    ·have hκ:E.κ b≠0:=by omega
     obtain⟨E',w',c',hrun,hS,hb',hG,hcv⟩:=Cj h hf hi hM (o:=o) (kn:=0) (sLen:=0) (old:=[]) (n:=n) (by simpa using hn') (by simpa using hfz) (fun j v hj=>by simp at hj) trivial hbn h1 (by simp) hln (by omega) (by simpa using ha');refine⟨E',w',c',?_,hS,hb',hG⟩;rw[hcv];simp only[conc,ab hκ];have:=iU (w:=w) (rty:=rty) (sLen:=0) (sCap:=E.κ b) (ad:=⟨E.ρ b,E.β b+o,none⟩) hat hu hzs hi hlen hfc (by omega) (w':=w') (by rw[Addr.add_eq];exact hrun)
     simpa using this
    ·have:=oP (rty:=rty) (base:=some (if E.κ b=0 then(if o<o0 then adD b else⟨E.ρ b,E.β b+o0,none⟩)else⟨E.ρ b,E.β b+o,none⟩)) (sLen:=0) (sCap:=E.κ b) (old:=[]) h hf (h.rel.drop b) hat hu hzs hi hzo hlen (by simp[Builtin.firstCells,aB,loadCells,loadCellsFrom]) hfcd trivial hbn (by simp) hln (by omega) (by simpa using ha');exact this
   ·cases ha'
  |_=>cases(show RC.f= .k v M' ct' from ha)
end
section
variable{P:Program}{E:dj}{F:RO}{M:Mem}{c:Nat→Prop}{w:World}{t:T}{a:Act}
theorem zN.op{o:Oper}{cl:Call}{b:Builtin}(hop:o.op= .call cl)(hb:cl.callee= .builtin b){l:List Operand}(hl:cl.args.toList=l){s:Sem Value}{v:V}{M':Mem}{ct ct':Nat}
 (he:∀fs,builtin b cl.argTypes o.type fs (l.map a.eval).toArray=(s>>=fun v=>pure (Next.value v))) (h:zN P F E M c ct w s v M' ct'):Oh P F E M c ct w a o v M' ct':=by
 obtain⟨E',w',c',hr,hS,hb',hG⟩:=h
 exact⟨E',w',.value (conc E' v),c',cX hop hb hl (by rw[he];exact bf hr),.inl rfl,hS,hb',hG⟩
theorem C5(h:Cx P E F M c w t a){ct:Nat}(hf:gP c ct){o:Oper}{cl:Call}(hop:o.op= .call cl)(hb:cl.callee= .builtin .append){y z:Operand}(hargs:cl.args.toList=[y,z]){ty e:TypeId}(hat:cl.argTypes[0]?=some ty)(hzs:lV P cl.argTypes)
 (hu:P.underlying ty=some (.slice e)) {sz by_:Nat} (hsz:ea P e=some sz) (hby:WR P e=some by_) (hpos:sz≠0) (hzo:zOk P e sz=true) {xx xy:X} (h1:bp y=some xx) (h2:bp z=some xy)
 {k:Kn} (hk:k.F=F) {v:V} {M':Mem} {ct':Nat} (he:iV (.app e sz by_ xx xy) k M ct t= .k v M' ct'):Oh P F E M c ct w a o v M' ct':=by
 have he':mm k.F M ct e sz by_ (xx.ev t) (gu k.F M sz (xy.ev t))= .k v M' ct':=he
 rw[hk]at he'
 obtain⟨i,hi,rfl⟩:=zD hsz
 have hby':i.bytes=by_:=by
  unfold WR at hby;rw[hi]at hby;simpa using hby
 subst hby'
 have e1:=h.ev h1
 have e2:=h.ev h2
 cases hs:gu F M i.size (xy.ev t)with
 |none=>rw[hs]at he';cases(show RC.f= .k v M' ct' from he')
 |some r=>
  obtain⟨n,new⟩:=r;rw[hs]at he';have he2:(bif bj new&&Nat.beq new.length (Nat.mul n i.size)then app F M ct e i.size i.bytes (xx.ev t) n new else .f)= .k v M' ct':=he';rw[bK]at he2;by_cases hc1:bj new=true
  ·by_cases hc2:new.length=n*i.size
   ·rw[hc1,af (show new.length=Nat.mul n i.size from hc2)]at he2;have he3:app F M ct e i.size i.bytes (xx.ev t) n new= .k v M' ct':=he2;have:=ah0 (rty:=o.type) h hf hat hu hzs hi hpos hzo hs e1.2 hc1 hc2 he3;refine zN.op hop hb hargs (s:=Builtin.append_ cl.argTypes o.type #[conc E (xx.ev t),conc E (xy.ev t)]) (fun fs=>?_) this;simp only[builtin,List.map_cons,List.map_nil,e1.1,e2.1]
   ·rw[hc1,ah (show¬new.length=Nat.mul n i.size from hc2)]at he2;cases he2
  ·rw[Bool.not_eq_true]at hc1;rw[hc1]at he2;cases he2
theorem Ey(h:Cx P E F M c w t a){sz n m:Nat}{y:V}{vs:List V}(hl:qx y=some m)(hn:n≤m)(hs:vW F M sz n y=some vs):
 (Builtin.lenOf (conc E y)).run P w= .ok m w∧(Builtin.firstCells sz n (conc E y)).run P w= .ok (aB E vs).toArray w∧i9 c vs:=by
 unfold vW at hs
 split at hs
 ·rename_i m' x;obtain rfl:m'=m:=ag hl;rw[bK]at hs;by_cases h1:sz=1
  ·rw[af h1,cond_true]at hs;obtain rfl:=ag hs;refine⟨by simp[conc,Builtin.lenOf,ec],?_,mg _ _⟩;simp only[conc,Builtin.firstCells,aO,jZ]
   congr 1
   apply Array.ext';simp only[ba,Array.toList_map,ByteArray.data_extract,Array.toList_extract,List.extract_eq_take_drop,Nat.sub_zero,List.drop_zero]
   congr 1
   have e:=vL m' x;rw[←Aa n m' _ hn];show List.take n (bl m' x)=List.take n (bl m' (x%256^m'));rw[e]
  ·rw[ah h1]at hs;cases hs
 ·rename_i y' hne;obtain⟨⟨vs',r⟩,hr,rfl⟩:=aX.1 hs;obtain⟨⟨ad,len,cap,hcv,hld⟩,hb,_⟩:=h.readL hr;rcases iM (E:=E) hl with⟨ad',cap',hcv'⟩|⟨x,hx⟩
  ·rw[hcv]at hcv';injection hcv' with e1 e2 e3
   subst e1 e2 e3;rw[hcv];refine⟨by simp[Builtin.lenOf],?_,hb⟩;cases ad with
   |none=>simp only at hld;subst hld;simp[Builtin.firstCells,aB]
   |some ad=>simp only[Builtin.firstCells];exact hld
  ·exact absurd hx (hne _ _)
theorem MA(w:World){y:V}{m:Nat}(hl:qx y=some m):(Builtin.lenOf (conc E y)).run P w= .ok m w:=by
 rcases iM (E:=E) hl with⟨ad,cap,h⟩|⟨x,rfl⟩
 ·rw[h];simp[Builtin.lenOf]
 ·simp[conc,Builtin.lenOf,ec]
theorem bH6(h:Cx P E F M c w t a){o:Oper}{cl:Call}(hop:o.op= .call cl)(hb:cl.callee= .builtin .copy){y z:Operand}(hargs:cl.args.toList=[y,z]){ty e:TypeId}(hat:cl.argTypes[0]?=some ty)
 (hu:P.underlying ty=some (.slice e)) {sz:Nat} (hsz:ea P e=some sz) {xx xy:X} (h1:bp y=some xx) (h2:bp z=some xy)
 {k:Kn} (hk:k.F=F) {v:V} {M':Mem} {ct ct':Nat} (he:iV (.cpy sz xx xy) k M ct t= .k v M' ct'):Oh P F E M c ct w a o v M' ct':=by
 have he':C6 sz xx xy k.F M ct t= .k v M' ct':=he
 rw[hk]at he'
 have e1:=h.ev h1
 have e2:=h.ev h2
 unfold C6 at he'
 split at he'
 ·cases he'
 ·rename_i x hne;unfold Xl at he';split at he'
  ·rename_i dn sn hd hs;rw[b9,cE]at he';have hmin:(bif decide (sn≤dn)then sn else dn)=Nat.min sn dn:=by
    by_cases hh:sn≤dn
    ·rw[af hh,cond_true];exact(Nat.min_eq_left hh).symm
    ·rw[ah hh,cond_false];exact(Nat.min_eq_right (by omega)).symm
   rw[hmin,bK]at he';rcases iM (E:=E) hd with⟨ad,cap,hcx⟩|⟨x,hx⟩
   case inr=>exact absurd hx (hne _ _)
   refine zN.op hop hb hargs (s:=Builtin.copy_ cl.argTypes o.type #[conc E (xx.ev t),conc E (xy.ev t)]) (fun fs=>by simp only[builtin,List.map_cons,List.map_nil,e1.1,e2.1]) ?_;have hlo:=MA (P:=P) (E:=E) w hs;by_cases h0:Nat.min sn dn=0
   ·rw[af h0,cond_true]at he';injection he' with g1 g2 g3
    subst g1 g2 g3;refine⟨E,w,c,?_,.refl h.rel,trivial,.refl _ _⟩;have hfc:(Builtin.firstCells sz 0 (conc E (xy.ev t))).run P w= .ok #[] w:=by
     rcases iM (E:=E) hs with⟨ad',cap',hcy⟩|⟨x,hx⟩
     ·rw[hcy];cases ad'<;>simp[Builtin.firstCells,loadCells,loadCellsFrom]
     ·rw[hx];simp[conc,Builtin.firstCells]
    rw[hcx];cases ad<;>simp[Builtin.copy_,hat,aR hu,hlo,h0,eA hsz,hfc,storeCells,conc,goInt]
   ·rw[ah h0,cond_false]at he';cases hsrc:vW F M sz (Nat.min sn dn) (xy.ev t)with
    |none=>rw[hsrc]at he';cases(show RC.f= .k v M' ct' from he')
    |some vs=>
     rw[hsrc]at he';obtain⟨_,hfc,hbv⟩:=Ey h hs (Nat.min_le_left _ _) hsrc;have fin:∀b off,conc E (xx.ev t)= .slice (some ⟨E.ρ b,E.β b+off,none⟩) dn cap→(match dK M b off vs with
      |some M=>RC.k (.i .i64 (.ofNat (Nat.min sn dn))) M ct
      |none=> .f)= .k v M' ct'→zN P F E M c ct w (Builtin.copy_ cl.argTypes o.type #[conc E (xx.ev t),conc E (xy.ev t)]) v M' ct':=by
      intro b off hcx' hg;split at hg
      ·rename_i M'' hst;injection hg with g1 g2 g3
       subst g1 g2 g3;obtain⟨w',hrun,hS⟩:=h.store hst hbv;refine⟨E,w',c,?_,hS,trivial,.refl _ _⟩;rw[hcx'];simp[Builtin.copy_,hat,aR hu,hlo,eA hsz,hfc,hrun,conc,goInt]
      ·cases hg
     cases hv:xx.ev t with
     |l b off len cp=>
      rw[hv]at he' hcx fin;have hcx':Value.slice (some ⟨E.ρ b,E.β b+off,none⟩) len cp= .slice ad dn cap:=hcx;injection hcx' with q1 q2 q3
      subst q1 q2 q3;exact fin b off rfl he'
     |u b off len el kn=>
      rw[hv]at he' hcx fin;have hcx':Value.slice (some ⟨E.ρ b,E.β b+off,none⟩) len (kn-el+E.κ b)= .slice ad dn cap:=hcx;injection hcx' with q1 q2 q3
      subst q1 q2 q3;exact fin b off rfl he'
     |_=>rw[hv]at he';cases(show RC.f= .k v M' ct' from he')
  ·cases he'
theorem F2{e:TypeId}(hc:P.cellsOf e=1)(count off n:Nat)(hn:off+n≤count):liesAt P P.depth e count off e n=true:=by
 have hd:P.depth=(2*(P.types.size+Made.depth)+1)+1:=rfl
 rw[hd]
 simp only[liesAt,Bool.or_eq_true]
 left
 rw[hd]
 simp[rowAt,hc,hn,sameLayout,Nat.mod_one]
theorem Al{b o n:Nat}{M':Mem}(h:oO M b o n=some M'):∃ty m ex fz d cs,M.get b=some (.cells ty m ex fz false d cs)∧M'=M.set b (.cells ty m ex (if fz≤o+n then o+n else fz) false d cs):=by
 unfold oO at h
 split at h
 ·rename_i ty m ex fz str d cs hM;cases str with
  |true=>cases h
  |false=>
   rw[cond_false,b9,cE]at h;obtain rfl:=ag h;refine⟨_,_,_,_,_,_,hM,?_⟩
   congr 2
   by_cases hh:fz≤o+n
   ·rw[af (show fz≤Nat.add o n from hh),ae hh];rfl
   ·rw[ah (show¬fz≤Nat.add o n from hh),ab hh];rfl
 ·cases h
theorem pE(r:Nat):∀(ns:List Nat) (off:Nat) (acc:ByteArray),(∀j (hj:j<ns.length),w.cell? ⟨r,off+j,none⟩=some (.int .u8 (ns[j]:Int)))→
 (loadBytes ⟨r,off,none⟩ acc ns.length).run P w= .ok ⟨acc.data++(ns.map fun c=>UInt8.ofNat c).toArray⟩ w
 |[],off,acc,_=>by simp[loadBytes]
 |x::l,off,acc,h=>by
  have h0:w.cell? ⟨r,off,none⟩=some (.int .u8 (x:Int)):=h 0 (by simp)
  have ih:=pE r l (off+1) (acc.push x.toUInt8) (fun j hj=>by
   have:=h (j+1) (by simpa using hj);rw[show off+1+j=off+(j+1) by omega]
   simpa using this)
  simp only[aP,loadBytes,aT,run_load,h0,Result.andThen,Int.toNat_natCast,Addr.add_eq];rw[ih]
  congr 1
  apply ByteArray.ext;simp[ByteArray.push]
theorem Zk{ats:Array TypeId}{rty pt:TypeId}(hat:ats[0]?=some pt)(p:Option Addr)(k:IntKind):(Builtin.unsafeString_ ats rty #[.pointer p,.int k 0]).run P w= .ok (.string .empty) w:=by
 have hmax:IntKind.i64.max=9223372036854775807:=rfl
 conv=>lhs;arg 2;whnf
 cases p<;>simp[asInt,asIntOf,hmax,hat]
theorem aA9{ats:Array TypeId}{rty pt e:TypeId}(hat:ats[0]?=some pt)(hu:P.underlying pt=some (.pointer e))(ad:Addr)(k:IntKind){n:Nat}(h0:n≠0)(hn:n≤1099511627776)(hv:(variablesAt ad e n).run P w= .ok true w){s:ByteArray}(hl:(loadBytes ad .empty n).run P w= .ok s w):
 (Builtin.unsafeString_ ats rty #[.pointer (some ad),.int k n]).run P w= .ok (.string s) (w.freeze ad n):=by
 have hmax:IntKind.i64.max=9223372036854775807:=rfl
 have h1:¬((n:Int)<0):=by omega
 have h2:¬((9223372036854775807:Int)<(n:Int)):=by omega
 have h3:¬((n:Int)=0):=by omega
 conv=>lhs;arg 2;whnf
 simp[asInt,asIntOf,hmax,hat,h1,h2,h3,h0,elemOf,aR hu,hv,hl,run_freeze]
theorem wb(h:Cx P E F M c w t a){o:Oper}{cl:Call}(hop:o.op= .call cl)(hb:cl.callee= .builtin .unsafeString){y z:Operand}(hargs:cl.args.toList=[y,z]){pt e:TypeId}(hat:cl.argTypes[0]?=some pt)
 (hu:P.underlying pt=some (.pointer e)) (hsz:ea P e=some 1) {xx xy:X} (h1:bp y=some xx) (h2:bp z=some xy)
 {k:Kn} (hk:k.F=F) {v:V} {M':Mem} {ct ct':Nat} (he:iV (.us e xx xy) k M ct t= .k v M' ct'):Oh P F E M c ct w a o v M' ct':=by
 have he':Xm e xx xy k.F M ct t= .k v M' ct':=he
 rw[hk]at he'
 have e1:=h.ev h1
 have e2:=h.ev h2
 have hmax:IntKind.i64.max=9223372036854775807:=rfl
 unfold Xm at he'
 split at he'
 ·rename_i n hn;obtain⟨ik,hy⟩:=lA hn;rw[hy]at e2;refine zN.op hop hb hargs (s:=Builtin.unsafeString_ cl.argTypes o.type #[conc E (xx.ev t),.int ik n]) (fun fs=>by simp only[builtin,List.map_cons,List.map_nil,e1.1,e2.1,conc]) ?_;have hz:(conc E (.s 0 0))= .string .empty:=by simp only[conc];rfl
  split at he'
  ·rename_i hv;rw[bK]at he';by_cases h0:n=0
   ·subst h0;rw[af rfl,cond_true]at he';injection he' with g1 g2 g3
    subst g1 g2 g3;refine⟨E,w,c,?_,.refl h.rel,trivial,.refl _ _⟩;rw[hv,hz];exact Zk hat none ik
   ·rw[ah h0]at he';cases he'
  ·rename_i b off hv;unfold Jl at he';rw[bK]at he';by_cases h0:n=0
   ·subst h0;rw[af rfl,cond_true]at he';injection he' with g1 g2 g3
    subst g1 g2 g3;refine⟨E,w,c,?_,.refl h.rel,trivial,.refl _ _⟩;rw[hv,hz];exact Zk hat _ ik
   ·rw[ah h0,cond_false,cE]at he';cases hty:Zi M b e with
    |false=>rw[hty]at he';cases he'
    |true=>
     by_cases hnb:n≤1099511627776
     ·rw[hty,af hnb]at he';simp only[Bool.and_self,cond_true]at he';split at he'
      ·rename_i vs hld;unfold Jm at he';split at he'
       ·rename_i n' s hbv;split at he'
        ·rename_i M'' hfz;rw[b9,b9]at he';injection he' with g1 g2 g3
         subst g1 g2 g3;obtain⟨ty,m,ex,fz,d,cs,hM,rfl⟩:=Al hfz;obtain⟨arr,fr,ho,hr⟩:=h.cells (ay hM);have hte:ty=e:=by
          unfold Zi at hty;rw[hM]at hty;simp only[bK]at hty;exact aY hty
         subst hte;have hl:=h.loadN hld;obtain⟨ns,rfl,rfl,hbb⟩:=kL _ _ _ hbv;have hnl:ns.length=n:=by simpa using hl.2.2
         have hcells:∀j (hj:j<ns.length),w.cell? ⟨E.ρ b,E.β b+off+j,none⟩=some (.int .u8 (ns[j]:Int)):=by
          intro j hjn;obtain⟨ty',m',ex',fz',str',d',cs',hb',hg⟩:=fU (f:=none) hld (by simp);rw[ay hM]at hb';injection hb' with hb'
          injection hb' with q1 q2 q3 q4 q5 q6 q7
          subst q2 q6 q7;have hcell:=(j9 _ _ _ hg).2 j (.i .u8 (.ofNat ns[j])) (by simp[hjn]);have:=hr.cell _ _ hcell;simp only[World.cell?,ho,Option.isSome_none,bg,if_false];rw[Nat.add_assoc,this];rfl
         have hsize:E.β b+off+n≤arr.size:=by
          have:=hcells (n-1) (by omega);simp only[World.cell?,ho,Option.isSome_none,bg,if_false]at this;have:=(Array.getElem?_eq_some_iff.1 this).1;omega
         have hlb:=pE (P:=P) (w:=w) (E.ρ b) ns (E.β b+off) .empty hcells
         have hba:(⟨ByteArray.empty.data++(ns.map fun c=>UInt8.ofNat c).toArray⟩:ByteArray)=ba ns.length s:=by
          unfold ba;rw[hbb];apply ByteArray.ext;simp
         rw[hba]at hlb;have hco:=ka hsz;have hva:(variablesAt ⟨E.ρ b,E.β b+off,none⟩ ty n).run P w= .ok true w:=by
          have hsh:w.shape? (E.ρ b)=some (ty,arr.size):=by simp[World.shape?,ho]
          simp[variablesAt,run_shape,hsh,hco,F2 hco arr.size (E.β b+off) n hsize]
         subst hnl;have hrun:=aA9 (w:=w) (rty:=o.type) hat hu ⟨E.ρ b,E.β b+off,none⟩ ik h0 hnb hva hlb
         have hfw:w.freeze ⟨E.ρ b,E.β b+off,none⟩ ns.length={w with heap:=w.heap.setIfInBounds (E.ρ b) (.cells arr ty (if fr.1==fr.2 then(E.β b+off,E.β b+off+ns.length)else(min fr.1 (E.β b+off),max fr.2 (E.β b+off+ns.length))))}:=by
          unfold World.freeze;rw[ab h0,zh _ ho]
         rw[hfw]at hrun;generalize hnf:(if fr.1==fr.2 then(E.β b+off,E.β b+off+ns.length)else(min fr.1 (E.β b+off),max fr.2 (E.β b+off+ns.length)))=nf at hrun;refine⟨E,{w with heap:=w.heap.setIfInBounds (E.ρ b) (.cells arr ty nf)},c,?_,h.rel.write b _ _ hM (.cells arr ty nf) ?_ {w with heap:=w.heap.setIfInBounds (E.ρ b) (.cells arr ty nf)} rfl rfl rfl rfl ?_,trivial,.refl _ _⟩
         ·rw[hv];exact hrun
         ·exact(h.rel.has _ _ (ay hM)).2.1
         ·subst hnf;have hhi:(if fr.1==fr.2 then(E.β b+off,E.β b+off+ns.length)else(min fr.1 (E.β b+off),max fr.2 (E.β b+off+ns.length))).2≤E.β b+(if fz≤off+ns.length then off+ns.length else fz):=by
           by_cases hfe:fr.1=fr.2
           ·rw[ae (by simpa using hfe)];simp only;split<;>omega
           ·rw[ab (by simpa using hfe)];simp only;rcases hr.plain rfl with hp|⟨hp,hp'⟩
            ·exact absurd hp hfe
            ·split<;>omega
          refine⟨arr,_,rfl,⟨hr.cell,hr.size,fun k hk hk' hf=>?_,fun _=> .inr ⟨?_,hhi⟩⟩⟩
          ·have:=hf.2;omega
          ·split<;>omega
        ·cases he'
       ·cases he'
      ·cases he'
     ·rw[ah hnb,Bool.and_false]at he';cases he'
  ·cases he'
 ·cases he'
end
section
variable{P:Program}{E:dj}{F:RO}{M:Mem}{c:Nat→Prop}{w:World}{t:T}{a:Act}
theorem th{r:Nat}{o:Obj}(h:w.heap[r]?=some o)(hn:∀x y z,o≠ .cells x y z):(getObj r).run P w= .ok o w:=by
 simp only[getObj,Sem.run,h]
theorem WD{n s i:Nat}(h:i<n):((ba n s).get! i).toNat=s/256^i%256:=by
 have hb:=Ei n s i h
 have:(ba n s).get! i=UInt8.ofNat (s/256^i%256):=by
  show(bl n s).toArray[i]! =_;simp[hb]
 rw[this]
 simp[UInt8.toNat_ofNat']
theorem aq3(h:Cx P E F M c w t a){o:Oper}{y:Operand}(hop:o.op= .next y true){x:X}(hx:bp y=some x){k:Kn}{v:V}{M':Mem}{ct ct':Nat}(he:iV (.nxs x) k M ct t= .k v M' ct'):Oh P F E M c ct w a o v M' ct':=by
 have he':Jj x k.F M ct t= .k v M' ct':=he
 have e:=h.ev hx
 unfold Jj at he'
 split at he'
 ·rename_i b hv;rw[hv]at e;unfold zk at he';split at he'
  ·rename_i n s pos hM;obtain⟨_,_,ob,hob,hβ,rfl⟩:=h.rel.has _ _ (ay hM);have hgo:=th (P:=P) hob (by intros;simp);have hpt:a.eval y= .pointer (some ⟨E.ρ b,0,none⟩):=by rw[e.1];simp[conc,hβ]
   rw[eT]at he';by_cases hp:pos<n
   ·rw[af hp,cond_true,b9,eT]at he';by_cases hch:s/256^pos%256<128
    ·rw[af (show Nat.mod (Nat.div s (jn pos)) 256<128 from hch),cond_true,b9,rZ]at he';injection he' with g1 g2 g3
     subst g1 g2 g3;have hdec:Utf8.decode (ba n s) pos=(s/256^pos%256,1):=by
      have:=WD (s:=s) hp;simp only[Utf8.decode,cT,this,ae hch]
     have hso:=xu (P:=P) (o':= .stringIter (ba n s) (pos+1)) hob (by intros;simp);refine⟨E,_,.value (.tuple #[.bool true,goInt pos,.int .i32 (s/256^pos%256:Nat)]),c,?_,.inl rfl,h.rel.write b _ (.siter n s (pos+1)) hM (.stringIter (ba n s) (pos+1)) trivial {w with heap:=w.heap.setIfInBounds (E.ρ b) (.stringIter (ba n s) (pos+1))} rfl rfl rfl rfl ⟨hβ,rfl⟩,⟨trivial,trivial,trivial,trivial⟩,.refl _ _⟩;simp only[execOp,hop];refine bf ?_;rw[hpt];simp only[Instr.next,aT,hgo,aZ,ec,hp,if_true,hdec,hso,aO,Sem.run_ite]
    ·rw[ah (show¬Nat.mod (Nat.div s (jn pos)) 256<128 from hch),cond_false]at he';unfold av1 at he';rw[b9,b9,rZ]at he';injection he' with g1 g2 g3
     subst g1 g2 g3;have hso:=xu (P:=P) (o':= .stringIter (ba n s) (pos+(Utf8.decode (ba n s) pos).2)) hob (by intros;simp);refine⟨E,_,.value (.tuple #[.bool true,goInt pos,.int .i32 ((Utf8.decode (ba n s) pos).1:Nat)]),c,?_,.inl rfl,h.rel.write b _ (.siter n s (pos+(Utf8.decode (ba n s) pos).2)) hM (.stringIter (ba n s) (pos+(Utf8.decode (ba n s) pos).2)) trivial {w with heap:=w.heap.setIfInBounds (E.ρ b) (.stringIter (ba n s) (pos+(Utf8.decode (ba n s) pos).2))} rfl rfl rfl rfl ⟨hβ,rfl⟩,⟨trivial,trivial,trivial,trivial⟩,.refl _ _⟩;simp only[execOp,hop];refine bf ?_;rw[hpt];simp only[Instr.next,aT,hgo,aZ,ec,hp,if_true,hso,aO,Sem.run_ite]
   ·rw[ah hp,cond_false]at he';injection he' with g1 g2 g3
    subst g1 g2 g3;refine⟨E,w,.value (.tuple #[.bool false]),c,?_,.inl rfl,.refl h.rel,⟨trivial,trivial⟩,.refl _ _⟩;simp only[execOp,hop];refine bf ?_;rw[hpt];simp only[Instr.next,aT,hgo,aZ,ec,hp,if_false,aO,Sem.run_ite]
  ·cases he'
 ·cases he'
end
section
variable{P:Program}{E:dj}{F:RO}{M:Mem}{c:Nat→Prop}{w:World}{t:T}{a:Act}
def EO.plain:EO→Bool
 | .call _ _| .cv _ _| .inv _ _ _=>false
 |_=>true
theorem at0{α:Type}{x:Array α}{y:α}{l:List α}(h:x.toList=y::l):x[0]?=some y:=by rw[eW h];rfl
theorem at1{α:Type}{x:Array α}{y z:α}{l:List α}(h:x.toList=y::z::l):x[1]?=some z:=by rw[eW h];rfl
theorem df4{α:Type}{x:Array α}{y:α}(h:x.toList=[y]):x[1]?=none:=by rw[eW h];rfl
theorem cB3(h:Cx P E F M c w t a){ct:Nat}(hf:gP c ct){o:Oper}{eo:EO}(hc:aF P o.op=some (.e eo))(hp:eo.plain=true){k:Kn}(hk:k.F=F){v:V}{M':Mem}{ct':Nat}(he:iV eo k M ct t= .k v M' ct'):Oh P F E M c ct w a o v M' ct':=by
 cases hop:o.op with
 |store ty y z=>exact aq4 h hop hc hk he
 |mapUpdate ty m y z=>exact tP h (.inl hop) hc hk he
 |insert ty m y z=>exact tP h (.inr hop) hc hk he
 |next y b=>
  rw[hop]at hc;cases b with
  |true=>
   obtain⟨x,hx,e⟩:=aX.1 hc;obtain rfl:EO.nxs x=eo:=by simpa using e
   exact aq3 h hop hx he
  |false=>
   obtain⟨x,hx,e⟩:=aX.1 hc;obtain rfl:EO.nxm x=eo:=by simpa using e
   cases(show RC.f=RC.k v M' ct' from he)
 |entry y=>
  rw[hop]at hc;obtain⟨x,hx,e⟩:=aX.1 hc;obtain rfl:EO.ent x=eo:=by simpa using e
  cases(show RC.f=RC.k v M' ct' from he)
 |range ty y=>
  rw[hop]at hc;simp only[aF]at hc;split at hc
  ·cases hc
  ·rename_i kt et x hu hx;obtain rfl:EO.rgm x=eo:=by simpa using hc
   cases(show RC.f=RC.k v M' ct' from he)
  ·cases hc
 |convert s d y=>
  rw[hop]at hc;simp only[aF]at hc;split at hc
  ·cases hc
  ·cases hc
  ·split at hc<;>cases hc
  ·split at hc<;>cases hc
  ·rename_i e0 el x h1 h2 hx;split at hc
   ·rename_i hcond;obtain rfl:EO.ms x=eo:=by simpa using hc
    cases(show RC.f=RC.k v M' ct' from he)
   ·cases hc
  ·split at hc<;>cases hc
  ·split at hc<;>cases hc
  ·cases hc
 |call cl=>
  rw[hop]at hc;simp only[aF]at hc;split at hc
  ·rename_i b' hcal;unfold eY at hc;split at hc
   ·split at hc<;>first|cases hc|(split at hc<;>cases hc)
   ·split at hc<;>cases hc
   ·rename_i y z ty t2 ts hargs htys;split at hc
    ·rename_i el x1 x2 hu h1 h2;split at hc
     ·rename_i sz by_ d hsz hby hd;split at hc
      ·rename_i ik;split at hc
       ·rename_i hz;split at hc
        ·rename_i hcond;obtain rfl:EO.apz el by_ x1 x2=eo:=by simpa using hc
         cases(show RC.f=RC.k v M' ct' from he)
        ·cases hc
       ·cases hc
      ·rename_i hnd;split at hc
       ·cases hc
       ·rename_i hcond;obtain rfl:EO.app el sz by_ x1 x2=eo:=by simpa using hc
        rw[Bool.not_eq_true,Bool.or_eq_false_iff]at hcond;have hpos:sz≠0:=by simpa using hcond.1
        have hzo:zOk P el sz=true:=by simpa using hcond.2
        exact C5 h hf hop hcal hargs (at0 htys) (.inl ⟨t2,d,at1 htys,hd,fun k e=>hnd k e⟩) hu hsz hby hpos hzo h1 h2 hk he
     ·cases hc
    ·cases hc
   ·rename_i y z ty hargs htys;split at hc
    ·rename_i el x1 x2 hu h1 h2;split at hc
     ·rename_i sz by_ hsz hby;split at hc
      ·cases hc
      ·rename_i hcond;obtain rfl:EO.app el sz by_ x1 x2=eo:=by simpa using hc
       rw[Bool.not_eq_true,Bool.or_eq_false_iff]at hcond;have hpos:sz≠0:=by simpa using hcond.1
       have hzo:zOk P el sz=true:=by simpa using hcond.2
       exact C5 h hf hop hcal hargs (at0 htys) (.inr (df4 htys)) hu hsz hby hpos hzo h1 h2 hk he
     ·cases hc
    ·cases hc
   ·rename_i y z ty ts hargs htys;split at hc
    ·rename_i el x1 x2 hu h1 h2;split at hc
     ·rename_i sz hsz;split at hc
      ·cases hc
      ·obtain rfl:EO.cpy sz x1 x2=eo:=by simpa using hc
       exact bH6 h hop hcal hargs (at0 htys) hu hsz h1 h2 hk he
     ·cases hc
    ·cases hc
   ·split at hc<;>cases hc
   ·split at hc<;>cases hc
   ·rename_i m y ty ts hargs htys;split at hc
    ·rename_i kt et xm xk hu h1 h2;obtain⟨sh,hks,e⟩:=aX.1 hc;obtain rfl:EO.del sh xm xk=eo:=by simpa using e
     cases(show RC.f=RC.k v M' ct' from he)
    ·cases hc
   ·rename_i y z ty ts hargs htys;split at hc
    ·rename_i el x1 x2 hu h1 h2;split at hc
     ·rename_i hcond;obtain rfl:EO.us el x1 x2=eo:=by simpa using hc
      rw[aC]at hcond;exact wb h hop hcal hargs (at0 htys) hu (by simpa using hcond.2) h1 h2 hk he
     ·cases hc
    ·cases hc
   ·obtain⟨z,_,e⟩:=bk.1 hc;cases e
   ·rename_i y ty ts hargs htys;split at hc
    ·rename_i el x1 hu h1;obtain⟨z,hz,e⟩:=aX.1 hc;obtain rfl:EO.clr (bQ z) x1=eo:=by simpa using e
     cases(show RC.f=RC.k v M' ct' from he)
    ·cases hc
   ·cases hc
  ·rename_i f hcal;split at hc
   ·rename_i fn hf0;split at hc
    ·unfold gJ at hc;split at hc
     ·cases hc
     ·split at hc
      ·split at hc
       ·split at hc<;>cases hc
       ·split at hc
        ·split at hc<;>cases hc
        ·split at hc
         ·split at hc<;>cases hc
         ·split at hc
          ·split at hc<;>cases hc
          ·cases hc
      ·split at hc
       ·obtain⟨z,_,e⟩:=bk.1 hc;cases e
       ·split at hc
        ·split at hc
         ·split at hc
          ·split at hc<;>cases hc
          ·cases hc
         ·cases hc
        ·split at hc
         ·rename_i hnm;obtain⟨x,hx,e⟩:=aX.1 hc;obtain rfl:EO.mcl x=eo:=by simpa using e
          cases(show RC.f=RC.k v M' ct' from he)
         ·cases hc
      ·cases hc
    ·obtain⟨z,_,e⟩:=aX.1 hc;obtain rfl:EO.call f z=eo:=by simpa using e
     cases hp
   ·cases hc
  ·split at hc
   ·rename_i x xs h1 h2;obtain rfl:EO.cv x xs=eo:=by simpa using hc
    cases hp
   ·cases hc
  ·split at hc
   ·rename_i x xs h1 h2;obtain rfl:EO.inv _ x xs=eo:=by simpa using hc
    cases hp
   ·cases hc
 |alloc ty=>rw[hop]at hc;obtain⟨z,_,e⟩:=aX.1 hc;cases e
 |box ty y=>rw[hop]at hc;simp only[aF]at hc;split at hc<;>cases hc
 |buildSlice ty n ps=>
  rw[hop]at hc;simp only[aF]at hc;split at hc
  ·split at hc
   ·split at hc
    ·cases hc
    ·obtain⟨z,_,e⟩:=aX.1 hc;cases e
   ·cases hc
  ·cases hc
 |makeMap ty r=>
  cases r with
  |none=>rw[hop]at hc;cases hc
  |some z=>rw[hop]at hc;cases hc
 |makeSlice ty l k'=>
  rw[hop]at hc;simp only[aF]at hc;split at hc
  ·split at hc
   ·split at hc<;>cases hc
   ·cases hc
  ·cases hc
 |move y=>rw[hop]at hc;obtain⟨z,_,e⟩:=bk.1 hc;cases e
 |assign y=>rw[hop]at hc;obtain⟨z,_,e⟩:=bk.1 hc;cases e
 |pick p y z=>rw[hop]at hc;simp only[aF]at hc;split at hc<;>cases hc
 |build ty ps=>
  rw[hop]at hc;simp only[aF]at hc;split at hc
  ·split at hc
   ·obtain⟨z,_,e⟩:=bk.1 hc;cases e
   ·cases hc
  ·split at hc
   ·obtain⟨z,_,e⟩:=bk.1 hc;cases e
   ·cases hc
  ·cases hc
 |load ty y=>rw[hop]at hc;simp only[aF]at hc;split at hc<;>cases hc
 |nilCheck y=>rw[hop]at hc;obtain⟨z,_,e⟩:=bk.1 hc;cases e
 |binOp op ty y z ty'=>
  rw[hop]at hc;simp only[aF]at hc;split at hc
  ·cases hc
  ·cases hc
  ·split at hc
   ·obtain⟨z,_,e⟩:=bk.1 hc;cases e
   ·obtain⟨z,_,e⟩:=bk.1 hc;cases e
   ·cases hc
  ·cases hc
 |unOp op ty y=>rw[hop]at hc;obtain⟨z,_,e⟩:=bk.1 hc;cases e
 |makeInterface ty y=>rw[hop]at hc;simp only[aF]at hc;split at hc<;>cases hc
 |makeFunc fn l1 l2=>
  cases fn with
  |func f=>rw[hop]at hc;simp only[aF]at hc;split at hc<;>cases hc
  |_=>rw[hop]at hc;cases hc
 |slice ty y lo hi mx=>
  rw[hop]at hc;simp only[aF]at hc;split at hc
  ·split at hc
   ·split at hc<;>cases hc
   ·obtain⟨z,_,e⟩:=bk.1 hc;split at e<;>cases e
   ·obtain⟨z,_,e⟩:=bk.1 hc;split at e<;>cases e
   ·split at hc
    ·obtain⟨z,_,e⟩:=bk.1 hc;split at e<;>cases e
    ·cases hc
   ·cases hc
  ·cases hc
 |fieldAddr ty y f=>
  rw[hop]at hc;simp only[aF]at hc;split at hc
  ·split at hc
   ·split at hc<;>cases hc
   ·cases hc
  ·cases hc
 |field ty y f=>
  rw[hop]at hc;simp only[aF]at hc;split at hc
  ·split at hc
   ·split at hc<;>cases hc
   ·cases hc
  ·cases hc
 |indexAddr ty y i=>
  rw[hop]at hc;simp only[aF]at hc;split at hc
  ·obtain⟨z,_,e⟩:=bk.1 hc;cases e
  ·obtain⟨z,_,e⟩:=bk.1 hc;cases e
  ·cases hc
 |index ty y i=>
  rw[hop]at hc;simp only[aF]at hc;split at hc
  ·split at hc<;>cases hc
  ·cases hc
  ·cases hc
 |lookup ty y i ok=>
  rw[hop]at hc;simp only[aF]at hc;split at hc
  ·split at hc<;>cases hc
  ·cases hc
 |typeAssert y ty ty' ok=>rw[hop]at hc;simp only[aF]at hc;split at hc<;>cases hc
 |extract y i=>rw[hop]at hc;obtain⟨z,_,e⟩:=bk.1 hc;cases e
 |sliceToArrayPointer d y=>rw[hop]at hc;simp only[aF]at hc;split at hc<;>cases hc
 |_=>rw[hop]at hc;cases hc
end
def dl(E:dj)(rd:Option Nat):Fence:={fn:=fun _=>True,depth:=none,alive:=false,round:=rd.map E.ρ}
structure SR(P:Program)(Bd:List Deferred)(F:RO)(rd:Option Nat)(nt:Nat)(E:dj)(c:Nat→Prop)(w:World)(a:Act)(t:T)(d:List Nat)(M:Mem)(ct:Nat):Prop where
 cx:Cx P E F M c w t a
 fr:gP c ct
 df:a.defers=(d.map fun b=>{target:= .collected (E.ρ b),args:=#[]})++Bd
 dc:∀b∈d,c b
 sz:nt≤a.tmps.size
 rd:∀l,rd=some l→c l
def Ol(P:Program)(Bd:List Deferred)(F:RO)(rd:Option Nat)(nt:Nat)(E:dj)(c:Nat→Prop)(w:World)(M:Mem)(ct:Nat)(t':T)(d':List Nat)(M':Mem)(ct':Nat)(a':Act)(w':World):Prop:=
 ∃E' c',mY P F E M c w E' M' c' w'∧jA c ct c' ct'∧SR P Bd F rd nt E' c' w' a' t' d' M' ct'
section
variable{P:Program}{Bd:List Deferred}{E E':dj}{F:RO}{M M':Mem}{c c':Nat→Prop}{ct ct' nt:Nat}{w w':World}{t:T}{d:List Nat}{a:Act}{rd:Option Nat}
theorem Nj(t:T)(v:V):setT t none v=t:=rfl
theorem lS(t:T)(p:aM)(v:V):setT t (some p) v=t.setP p v:=rfl
theorem uU{p:aM}{v:V}(h:t.getP p=some v):cS t p=v:=by unfold cS;rw[h]
theorem yU{p:aM}(h:t.getP p=none):cS t p=undef:=by unfold cS;rw[h]
theorem Mq(t:T)(k j:Nat)(v:V):cS (t.setP (bJ k) v) (bJ j)=if j=k then v else cS t (bJ j):=by
 have:=uv t k j v
 by_cases h:j=k
 ·rw[ae h]at this⊢;exact uU this
 ·rw[ab h]at this⊢;unfold cS;rw[this]
theorem EN(t:T)(p q:aM)(v:V):cS (t.setP p v) q=v∨cS (t.setP p v) q=cS t q:=by
 by_cases h:q=p
 ·subst h;exact .inl (uU (Tr.getP_setP_same q v t))
 ·right;unfold cS;rw[Tr.getP_setP_ne p v q t h]
theorem A6{dst:Option aM}{v:V}(h:WE c t)(hv:bd c v):WE c (setT t dst v):=by
 cases dst with
 |none=>exact h
 |some p=>
  intro q;rw[lS];rcases EN t p q v with e|e
  ·rw[e];exact hv
  ·rw[e];exact h q
theorem vu{dst:Option Nat}{v:V}{val:Value}(h:sD E t a.tmps)(hd:∀k,dst=some k→k<a.tmps.size)(hv:val=conc E v):sD E (setT t (dst.map bJ) v) (a.put dst val).tmps:=by
 cases dst with
 |none=>exact h
 |some k=>
  intro n;have hk:=hd k rfl;rw[Option.map_some,lS,Mq];show(a.tmps.setIfInBounds k val).getD n Go.undef=_;by_cases e:n=k
  ·subst e;rw[ae rfl,hv];simp[Array.getD_eq_getD_getElem?,hk]
  ·rw[ab e,←h n];simp[Array.getD_eq_getD_getElem?,Array.getElem?_setIfInBounds_ne (Ne.symm e)]
theorem Act.put_defers(a:Act)(dst:Option Tmp)(v:Value):(a.put dst v).defers=a.defers:=by cases dst<;>rfl
theorem Act.put_size(a:Act)(dst:Option Tmp)(v:Value):(a.put dst v).tmps.size=a.tmps.size:=by cases dst<;>simp[Act.put]
theorem SR.put(h:SR P Bd F rd nt E c w a t d M ct){dst:Option Nat}(hd:tO nt dst=true){v:V}{val:Value}(hv:val=conc E v)(hb:bd c v):SR P Bd F rd nt E c w (a.put dst val) (setT t (dst.map bJ) v) d M ct:=by
 refine⟨⟨h.cx.rel,h.cx.glob,h.cx.big,vu h.cx.tr (fun k hk=>?_) hv,A6 h.cx.bt hb⟩,h.fr,by rw[Act.put_defers];exact h.df,h.dc,by rw[Act.put_size];exact h.sz,h.rd⟩
 subst hk
 have:k<nt:=by simpa [tO]using hd
 exact Nat.lt_of_lt_of_le this h.sz
theorem SR.stp(h:SR P Bd F rd nt E c w a t d M ct)(hS:mY P F E M c w E' M' c' w')(hG:jA c ct c' ct'):SR P Bd F rd nt E' c' w' a t d M' ct':=by
 refine⟨⟨hS.rel,fun g hg=>?_,fun g hg=>hS.le g (h.cx.big g hg),h.cx.tr.ext hS.ext h.cx.bt,fun p=>dZ hS.le _ (h.cx.bt p)⟩,h.fr.grow hG,?_,fun b hb=>hS.le b (h.dc b hb),h.sz,fun l hl=>hS.le l (h.rd l hl)⟩
 ·rw[hS.ext.ρ g (h.cx.big g hg),hS.ext.β g (h.cx.big g hg)];exact h.cx.glob g hg
 ·rw[h.df]
  congr 1
  apply List.map_congr_left;intro b hb;rw[hS.ext.ρ b (h.dc b hb)]
theorem SR.res(h:SR P Bd F rd nt E c w a t d M ct):Ol P Bd F rd nt E c w M ct t d M ct a w:=⟨E,c,.refl h.cx.rel,.refl _ _,h⟩
theorem gV(h:qP c E E')(hr:∀l,rd=some l→c l):dl E' rd=dl E rd:=by
 cases rd with
 |none=>rfl
 |some l=>unfold dl;simp only[Option.map_some];rw[h.ρ l (hr l rfl)]
theorem Ck(h:sD E t a.tmps){ops:Array Oper}{o:Oper}{g:Option (aM×Bool)} (hg:(match o.guard with
 |none=>some none
 |some (j,want)=>match (ops[j]?).bind (·.dst)with
  |some d=>some (some (bJ d,want))
  |none=>none)=some g):Region.wanted o (yielded ops a.tmps)=wanted t g:=by
 unfold Region.wanted
 cases ho:o.guard with
 |none=>rw[ho]at hg;obtain rfl:=ag hg;rfl
 |some jw=>
  obtain⟨j,want⟩:=jw;rw[ho]at hg;simp only at hg;cases hd:(ops[j]?).bind (·.dst)with
  |none=>rw[hd]at hg;cases hg
  |some dn=>
   rw[hd]at hg;obtain rfl:=ag hg;simp only[yielded,hd,Option.bind_some];show _=iw want (cS t (bJ dn));have hn:=h dn;rw[Array.getD_eq_getD_getElem?]at hn;cases hv:a.tmps[dn]? with
   |none=>
    rw[hv]at hn;have hn':conc E (cS t (bJ dn))= .tuple #[]:=hn.symm;cases hx:cS t (bJ dn)<;>rw[hx]at hn'<;>first|rfl|(simp[conc]at hn')
   |some val=>
    rw[hv]at hn;have hn':val=conc E (cS t (bJ dn)):=hn;cases hx:cS t (bJ dn)with
    |b x=>
     rw[hx]at hn';rw[hn'];show(some x==some want)=Bool.rec (motive:=fun _=>Bool) (t6 want) want x;cases x<;>cases want<;>rfl
    |_=>rw[hx]at hn';rw[hn'];rfl
def nI(P:Program)(k:Kn):Prop:=∀(F:RO) (f:Nat) (args:List V) (M:Mem) (ct:Nat) (v:V) (M':Mem) (ct':Nat),n9 (sY k F) f args M ct= .k v M' ct'→
 ∀(E:dj) (c:Nat→Prop) (w:World),ku P E F M c w→(∀g,g<1000→E.ρ g=g∧E.β g=0)→(∀g,g<1000→c g)→gP c ct→i9 c args→
  ∃fn,P.funcs[f]?=some fn∧fn.body.isNone=false∧(fn.name== "runtime.NumGoroutine")=false∧
  Calls P f (aB E args).toArray w fun e w'=>∃E' c',e= .returned (conc E' v)∧mY P F E M c w E' M' c' w'∧bd c' v∧jA c ct c' ct'
def kE(P:Program)(k:Kn):Prop:=∀(F:RO) (l:Nat) (args:List V) (M:Mem) (ct:Nat) (v:V) (M':Mem) (ct':Nat),rk (sY k F) l args M ct (dR (M.get l))= .k v M' ct'→
 ∀(E:dj) (c:Nat→Prop) (w:World) (rd:Option Nat),ku P E F M c w→(∀g,g<1000→E.ρ g=g∧E.β g=0)→(∀g,g<1000→c g)→gP c ct→i9 c args→
  ∃fn tmps asg body,(Instr.yield (E.ρ l) (aB E args).toArray).run P w= .ok (.round (E.ρ l) fn tmps asg body) w∧
  RoundIn (dl E rd) 0 P (E.ρ l) fn tmps asg body w fun e w'=>∃E' c',e= .returned (conc E' v)∧mY P F E M c w E' M' c' w'∧bd c' v∧jA c ct c' ct'
theorem tL{n:Nat}{f:FuncId}{args:Array Value}{R:Ending→World→Prop}(h:Calls P f args w R):CallsIn (dl E rd) n P f args w R:=callsIn_wide.2 h
theorem fJ{o:Op}{op:OK}(h:aF P o=some op):∀cl,o≠ .defer cl:=by
 intro cl e;subst e;cases h
theorem yn{b:Builtin}{as0:List Operand}{ats:List TypeId}{x:EO}(hc:eY P b as0 ats=some (.e x)):x.plain=true:=by
 unfold eY at hc
 split at hc
 ·split at hc<;>first|cases hc|(split at hc<;>cases hc)
 ·split at hc<;>cases hc
 ·split at hc
  ·split at hc
   ·split at hc
    ·split at hc
     ·split at hc
      ·obtain rfl:=OK.e.inj (ag hc);rfl
      ·cases hc
     ·cases hc
    ·split at hc
     ·cases hc
     ·obtain rfl:=OK.e.inj (ag hc);rfl
   ·cases hc
  ·cases hc
 ·split at hc
  ·split at hc
   ·split at hc
    ·cases hc
    ·obtain rfl:=OK.e.inj (ag hc);rfl
   ·cases hc
  ·cases hc
 ·split at hc
  ·split at hc
   ·split at hc
    ·cases hc
    ·obtain rfl:=OK.e.inj (ag hc);rfl
   ·cases hc
  ·cases hc
 ·split at hc<;>cases hc
 ·split at hc<;>cases hc
 ·split at hc
  ·obtain⟨z,_,e⟩:=aX.1 hc;obtain rfl:=OK.e.inj e;rfl
  ·cases hc
 ·split at hc
  ·split at hc
   ·obtain rfl:=OK.e.inj (ag hc);rfl
   ·cases hc
  ·cases hc
 ·obtain⟨z,_,e⟩:=bk.1 hc;cases e
 ·split at hc
  ·obtain⟨z,_,e⟩:=aX.1 hc;obtain rfl:=OK.e.inj e;rfl
  ·cases hc
 ·cases hc
theorem yo{o:Op}(hn:∀cl,o≠ .call cl){x:EO}(hc:aF P o=some (.e x)):x.plain=true:=by
 cases hx:x.plain with
 |true=>rfl
 |false=>
  exfalso;unfold aF at hc;split at hc
  all_goals first
   |exact absurd rfl (hn _)
   |(cases hc;done)
   |(obtain⟨z,_,e⟩:=bk.1 hc;cases e;done)
   |(obtain⟨z,_,e⟩:=aX.1 hc;cases e;done)
   |(obtain⟨z,_,e⟩:=aX.1 hc;obtain rfl:=OK.e.inj e;cases hx;done)
   |skip
  all_goals (repeat' (first|(cases hc;done)|(obtain⟨z,_,e⟩:=bk.1 hc;cases e;done)|(obtain⟨z,_,e⟩:=bk.1 hc;split at e<;>cases e;done)|(obtain⟨z,_,e⟩:=aX.1 hc;cases e;done)|(obtain⟨z,_,e⟩:=aX.1 hc;obtain rfl:=OK.e.inj e;cases hx;done)|(obtain rfl:=OK.e.inj (ag hc);cases hx;done)|split at hc))
def Li(P:Program)(F:RO)(rd:Option Nat)(E:dj)(M:Mem)(c:Nat→Prop)(ct:Nat)(w:World)(a:Act)(o:Oper)(v:V)(M':Mem)(ct':Nat):Prop:=
 ∀(next:Act→World→Prop) (Q:Exit→Act→World→Prop),(∀E' c' w',mY P F E M c w E' M' c' w'→jA c ct c' ct'→bd c' v→next (a.put o.dst (conc E' v)) w')→o.wpIn (dl E rd) 0 P a w next Q
theorem Oh.op{o:Oper}(hd:∀cl,o.op≠ .defer cl){v:V}(h:Oh P F E M c ct w a o v M' ct'):Li P F rd E M c ct w a o v M' ct':=by
 intro next Q hn
 obtain⟨E',w',nx,c',hr,hnv,hS,hb,hG⟩:=h
 refine⟨fun _ _=>trivial,?_⟩
 rw[Oper.semAt_eq _ _ _ hd,hr]
 rcases hnv with rfl|⟨rfl,hv⟩
 ·exact hn E' c' w' hS hG hb
 ·have:=hn E' c' w' hS hG hb;rw[hv]at this;exact this
theorem ax3(h:Cx P E F M c w t a){o:Oper}{q:QO}(hc:aF P o.op=some (.q q)){x:V}(hx:(dh q F M t).val=some x):Li P F rd E M c ct w a o x M ct:=by
 intro next Q hn
 obtain⟨hr,hb⟩:=cL3 h hc hx
 refine⟨fun _ _=>trivial,?_⟩
 rw[Oper.semAt_eq _ _ _ (fJ hc),hr]
 exact hn E c w (.refl h.rel) (.refl _ _) hb
theorem df1(h:Cx P E F M c w t a)(hf:gP c ct){o:Oper}{ao:AO}(hc:aF P o.op=some (.a ao)){v:V}{blk:bL}(ha:lz ao ct t=some (v,blk)):Li P F rd E M c ct w a o v (M.set ct blk) (ct+1):=by
 intro next Q hn
 obtain⟨E',w',hr,hS,_,hb⟩:=aH2 h hc (hf ct (ak _)) (c':=fun b=>c b∨b=ct) (.inr rfl) (fun _ h=> .inl h) ha
 refine⟨fun _ _=>trivial,?_⟩
 rw[Oper.semAt_eq _ _ _ (fJ hc),hr]
 exact hn E' _ w' hS (ja c ct) hb
theorem XS(k:Kn)(F:RO):(sY k F).F=F:=by cases k;rfl
theorem cB4{k:Kn}(hcall:nI P k)(hy:kE P k)(h:Cx P E F M c w t a)(hf:gP c ct){o:Oper}{eo:EO}(hc:aF P o.op=some (.e eo)){v:V}(he:iV eo (sY k F) M ct t= .k v M' ct'):Li P F rd E M c ct w a o v M' ct':=by
 cases hp:eo.plain with
 |true=>exact Oh.op (fJ hc) (cB3 h hf hc hp (XS k F) he)
 |false=>
  have hnd:=fJ hc
  have fin:∀(f:Nat) (args:List V),(execOp a.eval o).run P w=(callFunc f (aB E args).toArray).run P w→i9 c args→n9 (sY k F) f args M ct= .k v M' ct'→Li P F rd E M c ct w a o v M' ct':=by
   intro f args hrun hba hcf next Q hn
   obtain⟨fn,hfn,hbo,hnm,hC⟩:=hcall F f args M ct v M' ct' hcf E c w h.rel h.glob h.big hf hba;refine⟨fun _ _=>trivial,?_⟩;rw[Oper.semAt_eq _ _ _ hnd,hrun];have hcfn:(callFunc f (aB E args).toArray).run P w= .ok (.enter f (aB E args).toArray) w:=by
    have h1:¬fn.name= "runtime.NumGoroutine" :=by simpa using hnm
    have h2:¬fn.body=none:=fun e=>by rw[e]at hbo;cases hbo
    simp[callFunc,hfn,h1,h2]
   rw[hcfn,Oper.uponIn_enter];refine⟨fun hd=>by simp[dl]at hd,tL (hC.mono ?_)⟩;rintro e w' ⟨E',c',rfl,hS,hb,hG⟩;exact hn E' c' w' hS hG hb
  cases hop:o.op with
  |call cl=>
   rw[hop]at hc;simp only[aF]at hc;split at hc
   ·
    rename_i b' hcal;exfalso;have hq:∀x,eY P b' cl.args.toList cl.argTypes.toList=some (.e x)→x.plain=true:=fun x hx=>yn hx;rw[hq eo hc]at hp;cases hp
   ·rename_i f hcal;split at hc
    ·rename_i fn hf0;split at hc
     ·exfalso;unfold gJ at hc;split at hc
      ·cases hc
      ·split at hc
       ·split at hc
        ·split at hc<;>cases hc
        ·split at hc
         ·split at hc<;>cases hc
         ·split at hc
          ·split at hc<;>cases hc
          ·split at hc
           ·split at hc<;>cases hc
           ·cases hc
       ·split at hc
        ·obtain⟨z,_,e⟩:=bk.1 hc;cases e
        ·split at hc
         ·split at hc
          ·split at hc
           ·split at hc<;>cases hc
           ·cases hc
          ·cases hc
         ·split at hc
          ·obtain⟨z,_,e⟩:=aX.1 hc;obtain rfl:EO.mcl z=eo:=by simpa using e
           cases hp
          ·cases hc
       ·cases hc
     ·obtain⟨xs,hxs,e⟩:=aX.1 hc;obtain rfl:EO.call f xs=eo:=by simpa using e
      have ev:=h.evs hxs;have hm:cl.args.map a.eval=(aB E (evs xs t)).toArray:=by
       rw[←ev.1];apply Array.ext';simp
      refine fin f (evs xs t) ?_ ev.2 he;simp only[execOp,hop,resolve,hcal,hm,Act.eval,Deferred.ofValue,aT,aO,aZ,invoke,Array.empty_append,Array.append_empty]
    ·cases hc
   ·rename_i y hny hcal;split at hc
    ·rename_i x xs hx hxs;obtain rfl:EO.cv x xs=eo:=by simpa using hc
     have ev:=h.evs hxs;have e1:=h.ev hx;have hm:cl.args.map a.eval=(aB E (evs xs t)).toArray:=by
      rw[←ev.1];apply Array.ext';simp
     have he':nb (sY k F) (x.ev t) (evs xs t) M ct= .k v M' ct':=he;cases hv:x.ev t with
     |f f first caps=>
      rw[hv]at he' e1;have he2:n9 (sY k F) f (first++(evs xs t++caps)) M ct= .k v M' ct':=he';refine fin f _ ?_ (iH e1.2.1 (iH ev.2 e1.2.2)) he2;simp only[execOp,hop,resolve,hcal,hm,e1.1,conc,Deferred.ofValue,aT,aO,aZ,invoke]
      congr 2
      rw[ie,ie];simp
     |y l=>
      rw[hv]at he' e1;have he2:rk (sY k F) l (evs xs t) M ct (dR (M.get l))= .k v M' ct':=he';intro next Q hn
      obtain⟨fn,tmps,asg,body,hyr,hR⟩:=hy F l (evs xs t) M ct v M' ct' he2 E c w rd h.rel h.glob h.big hf ev.2;refine⟨fun _ _=>trivial,?_⟩;rw[Oper.semAt_eq _ _ _ hnd];have hrun:(execOp a.eval o).run P w= .ok (.round (E.ρ l) fn tmps asg body) w:=by
       simp only[execOp,hop,resolve,hcal,hm,e1.1,conc,Deferred.ofValue,aT,aO,aZ,invoke,Array.empty_append,hyr]
      rw[hrun,Oper.uponIn_round];refine⟨fun hd=>by simp[dl]at hd,hR.mono ?_⟩;rintro e w' ⟨E',c',rfl,hS,hb,hG⟩;exact hn E' c' w' hS hG hb
     |_=>rw[hv]at he';cases(show RC.f= .k v M' ct' from he')
    ·cases hc
   ·rename_i y name hcal;split at hc
    ·rename_i x xs hx hxs;obtain rfl:EO.inv (XJ P name) x xs=eo:=by simpa using hc
     cases(show RC.f=RC.k v M' ct' from he)
    ·cases hc
  |_=>
   exfalso;have:=yo (by rw[hop];intro cl;simp) hc;rw[this]at hp;cases hp
end
section
variable{P:Program}{Bd:List Deferred}{E E':dj}{F:RO}{M M':Mem}{c c':Nat→Prop}{ct ct' nt:Nat}{w w':World}{t t':T}{d d':List Nat}{a:Act}{rd:Option Nat}
theorem Ol.trans{E₁:dj}{c₁:Nat→Prop}{w₁:World}{M₁:Mem}{ct₁:Nat}(hS:mY P F E M c w E₁ M₁ c₁ w₁)(hG:jA c ct c₁ ct₁){a':Act}(h:Ol P Bd F rd nt E₁ c₁ w₁ M₁ ct₁ t' d' M' ct' a' w'):Ol P Bd F rd nt E c w M ct t' d' M' ct' a' w':=by
 obtain⟨E',c',hS',hG',hR⟩:=h
 exact⟨E',c',hS.trans hS',hG.trans hG',hR⟩
theorem gG(dst:Option aM)(d:List Nat)(M:Mem)(ct:Nat)(t:T)(v:V):wW dst d M ct t v=some (.mk (setT t dst v) d M ct):=by
 unfold wW;rw[Tr.force_eq]
theorem YM(dst:Option aM)(op:OK)(g:Option (aM×Bool))(k:Kn)(t:T)(d:List Nat)(M:Mem)(ct:Nat):
 eC (.mk dst op g) k (.mk t d M ct)=if wanted t g then sop op k dst t d M ct else some (.mk (setT t dst undef) d M ct):=by
 cases g with
 |none=>rfl
 |some g=>
  show(Bool.rec (motive:=fun _=>Option St) (wW dst d M ct t undef) (sop op k dst t d M ct) (wanted t (some g)))=_;rw[bb,gG]
theorem CV(o:CO)(r:List CO)(k:Kn)(s:St):dJ (o::r) k s=(eC o k s).bind fun s=>dJ r k s:=by
 show Option.rec (motive:=fun _=>Option St) none (fun s=>dJ r k s) (eC o k s)=_
 cases eC o k s<;>rfl
theorem bO7{k:Kn}(hcall:nI P k)(hy:kE P k)(h:SR P Bd F rd nt E c w a t d M ct){o:Oper}(hd:tO nt o.dst=true){op:OK}(hc:aF P o.op=some op){s':St}(hs:sop op (sY k F) (o.dst.map bJ) t d M ct=some s'):
 ∃v M' ct',s'= .mk (setT t (o.dst.map bJ) v) d M' ct'∧Li P F rd E M c ct w a o v M' ct':=by
 cases op with
 |q q=>
  have hs':ay8 (o.dst.map bJ) t d M ct (dh q (sY k F).F M t)=some s':=hs;rw[XS]at hs';cases hq:dh q F M t with
  |f=>rw[hq]at hs';cases(show(none:Option St)=some s' from hs')
  |v x=>
   rw[hq]at hs';have hs2:wW (o.dst.map bJ) d M ct t x=some s':=hs';rw[gG]at hs2;exact⟨x,M,ct,(ag hs2).symm,ax3 h.cx hc (by rw[hq];rfl)⟩
  |r x b=>
   rw[hq]at hs';have hs2:wW (o.dst.map bJ) d M ct t x=some s':=hs';rw[gG]at hs2;exact⟨x,M,ct,(ag hs2).symm,ax3 h.cx hc (by rw[hq];rfl)⟩
 |a ao=>
  have hs':ay7 (o.dst.map bJ) t d M ct (lz ao ct t)=some s':=hs;cases ha:lz ao ct t with
  |none=>rw[ha]at hs';cases(show(none:Option St)=some s' from hs')
  |some p=>
   obtain⟨v,blk⟩:=p;rw[ha]at hs';have hs2:YJ (o.dst.map bJ) t d M ct v blk=some s':=hs';unfold YJ at hs2;rw[Tr.force_eq,b9,gG]at hs2;exact⟨v,M.set ct blk,ct+1,(ag hs2).symm,df1 h.cx h.fr hc ha⟩
 |e eo=>
  have hs':yt (o.dst.map bJ) t d (iV eo (sY k F) M ct t)=some s':=hs;cases he:iV eo (sY k F) M ct t with
  |f=>rw[he]at hs';cases(show(none:Option St)=some s' from hs')
  |k v M' ct'=>
   rw[he]at hs';have hs2:wW (o.dst.map bJ) d M' ct' t v=some s':=hs';rw[gG]at hs2;exact⟨v,M',ct',(ag hs2).symm,cB4 hcall hy h.cx h.fr hc he⟩
theorem vU{ops:Array Oper}{o:Oper}{co:CO}(h:yK P nt ops o=some co):tO nt o.dst=true∧ ∃g op,co= .mk (o.dst.map bJ) op g∧
 (match o.guard with
 |none=>some none
 |some (j,want)=>match (ops[j]?).bind (·.dst)with
  |some d=>some (some (bJ d,want))
  |none=>none)=some g∧(aF P o.op=some op∨op= .q .bad):=by
 unfold yK at h
 split at h
 ·cases h
 ·rename_i hd;have hd':tO nt o.dst=true:=by simpa using hd
  split at h
  ·cases h
  ·rename_i g hg;split at h
   ·rename_i op hop;obtain rfl:=ag h;exact⟨hd',g,op,rfl,hg,.inl hop⟩
   ·obtain rfl:=ag h;exact⟨hd',g,_,rfl,hg,.inr rfl⟩
theorem Fw{k:Kn}(hcall:nI P k)(hy:kE P k){ops:Array Oper}{Q:Exit→Act→World→Prop}:∀(l:List Oper) (cos:List CO) (i:Nat) (E:dj) (c:Nat→Prop) (w:World) (a:Act) (t:T) (M:Mem) (ct:Nat),ops.toList.drop i=l→nO P nt ops l=some cos→
 dJ cos (sY k F) (.mk t d M ct)=some (.mk t' d' M' ct')→SR P Bd F rd nt E c w a t d M ct→(∀a' w',Ol P Bd F rd nt E c w M ct t' d' M' ct' a' w'→Q .normal a' w')→wpOpsIn (dl E rd) 0 P ops Q (List.range' i l.length) a w
 |[],cos,i,E,c,w,a,t,M,ct,hl,hc,hs,h,hQ=>by
  obtain rfl:=ag hc;have hs':some (St.mk t d M ct)=some (.mk t' d' M' ct'):=hs;injection hs' with hs'
  injection hs' with e1 e2 e3 e4
  subst e1 e2 e3 e4;exact hQ a w h.res
 |o::l,cos,i,E,c,w,a,t,M,ct,hl,hc,hs,h,hQ=>by
  rw[nO]at hc;split at hc
  ·rename_i co cr h1 h2;obtain rfl:=ag hc;have hi:ops[i]?=some o:=by
    have:(ops.toList.drop i)[0]?=some o:=by rw[hl];rfl
    simpa using this
   have hl':ops.toList.drop (i+1)=l:=by
    rw[←List.drop_drop,hl];rfl
   obtain⟨hd,g,op,rfl,hg,hop⟩:=vU h1;rw[CV,YM]at hs;rw[aP,List.range'_succ];simp only[wpOpsIn,hi];rw[Ck h.cx.tr hg];by_cases hw:wanted t g=true
   ·rw[ae hw]at hs;rw[ae hw];obtain⟨s1,hs1,hs2⟩:=bk.1 hs;rcases hop with hop|rfl
    ·obtain⟨v,M1,ct1,rfl,hO⟩:=bO7 hcall hy h hd hop hs1;refine hO _ _ fun E1 c1 w1 hS hG hb=>?_;have h1:=(h.stp hS hG).put hd rfl hb;rw[←gV hS.ext h.rd];exact Fw hcall hy l cr (i+1) E1 c1 w1 _ _ M1 ct1 hl' h2 hs2 h1 fun a' w' hr=>hQ a' w' (hr.trans hS hG)
    ·cases(show(none:Option St)=some s1 from hs1)
   ·rw[ab hw]at hs;rw[ab hw];refine⟨fun _ _=>trivial,?_⟩;have h1:=h.put hd (v:=undef) (val:=Go.undef) rfl trivial;exact Fw hcall hy l cr (i+1) E c w _ _ M ct hl' h2 hs h1 hQ
  ·cases hc
end
def rB:Ex→Exit
 | .nrm=> .normal
 | .ret=> .ret
 | .ext id=> .exit id
 | .gto l=> .goto l
def BF(P:Program)(ex:y5):Prop:=∀(rd:Option Nat) (fn:Nat) (F:RO) (cc:CC) (t:T) (d:List Nat) (M:Mem) (ct:Nat) (e:Ex) (t':T) (d':List Nat) (M':Mem) (ct':Nat),
 ex rd fn F cc (.mk t d M ct)= .k e (.mk t' d' M' ct')→ ∀(nt:Nat) (code:Code),Sim P nt code cc→ ∀{Bd:List Deferred} (E:dj) (c:Nat→Prop) (w:World) (a:Act),SR P Bd F rd nt E c w a t d M ct→
  ∀Q:Exit→Act→World→Prop,(∀a' w',Ol P Bd F rd nt E c w M ct t' d' M' ct' a' w'→Q (rB e) a' w')→code.wpIn (dl E rd) 0 P Q a w
def cg6(P:Program)(ex:y5)(m:Nat):Prop:=∀(rd:Option Nat) (fn:Nat) (F:RO) (b:CC) (t:T) (d:List Nat) (M:Mem) (ct:Nat) (e:Ex) (t':T) (d':List Nat) (M':Mem) (ct':Nat),
 ex rd fn F (.loop b) (.mk t d M ct)= .k e (.mk t' d' M' ct')→ ∀(nt:Nat) (code:Code),Sim P nt code b→ ∀{Bd:List Deferred} (E:dj) (c:Nat→Prop) (w:World) (a:Act),SR P Bd F rd nt E c w a t d M ct→
  ∀Q:Exit→Act→World→Prop,(∀a' w',Ol P Bd F rd nt E c w M ct t' d' M' ct' a' w'→Q (rB e) a' w')→Code.roundsIn (dl E rd) 0 P code Q m a w
def aH1(P:Program)(nt:Nat)(body:Code)(tbl:CC):Prop:=∀l cl,kO l tbl=some cl→ ∃rest,findLabel body l=some rest∧Sim P nt rest cl
def bY(P:Program)(f:Nat)(g:RO→List V→Mem→Nat→RC):Prop:=∀(F:RO) (args:List V) (M:Mem) (ct:Nat) (v:V) (M':Mem) (ct':Nat),g F args M ct= .k v M' ct'→
 ∀(E:dj) (c:Nat→Prop) (w:World),ku P E F M c w→(∀g,g<1000→E.ρ g=g∧E.β g=0)→(∀g,g<1000→c g)→gP c ct→i9 c args→
  ∃fn,P.funcs[f]?=some fn∧fn.body.isNone=false∧(fn.name== "runtime.NumGoroutine")=false∧
  Calls P f (aB E args).toArray w fun e w'=>∃E' c',e= .returned (conc E' v)∧mY P F E M c w E' M' c' w'∧bd c' v∧jA c ct c' ct'
def cg4(P:Program)(f:Nat)(cf:CF):Prop:=
 match cf with
 | .mk n res body=>∃fn,P.funcs[f]?=some fn∧ap5 P fn=some (.mk n res body)
 | .orc g=>bY P f g
def fo(P:Program)(Φ:Nat→Option CF):Prop:=∀f cf,Φ f=some cf→cg4 P f cf
section
variable{P:Program}{Bd:List Deferred}{E E':dj}{F:RO}{M M':Mem}{c c':Nat→Prop}{ct ct' nt:Nat}{w w':World}{t t':T}{d d':List Nat}{a:Act}{rd:Option Nat}
theorem CY{n:Nat}:∀k,(Nr n).get k=none:=by
 induction n with
 |zero=>intro k;rfl
 |succ n ih=>
  intro k;show(Tr.n (Nr n) none (Nr n)).get k=none;rw[Tr.get_n];split
  ·rfl
  ·split
   ·exact ih _
   ·exact ih _
theorem Lz(E:dj)(args:List V)(m n:Nat):sD E (aU m args) ((aB E args).toArray++Array.replicate n Go.undef):=by
 intro k
 have hg:(aU m args).getP (bJ k)=args[k]?:=by
  rw[ew];show(bz args 0 (Nr m)).get k=_;rw[dH];by_cases h:k<args.length
  ·rw[ae (by omega)];rfl
  ·rw[ab (by omega),List.getElem?_eq_none (by omega)];exact CY k
 rw[Array.getD_eq_getD_getElem?]
 by_cases h:k<args.length
 ·have hv:args[k]?=some args[k]:=List.getElem?_eq_getElem h;rw[uU (hg.trans hv)];rw[Array.getElem?_append_left (by simpa [bC]using h)];simp[bC,h]
 ·have hv:args[k]?=none:=List.getElem?_eq_none (by omega);rw[yU (hg.trans hv)];rw[Array.getElem?_append_right (by simp[bC];omega)];by_cases h2:k-(aB E args).toArray.size<n
  ·rw[Array.getElem?_replicate,ae h2];rfl
  ·rw[Array.getElem?_replicate,ab h2];rfl
theorem Ys{p q:aM}(h:∀t:Tr Unit,t.getP p=t.getP q):p=q:=by
 by_cases e:q=p
 ·exact e.symm
 ·have:=h (Tr.e.setP p ());rw[Tr.getP_setP_same,Tr.getP_setP_ne p () q _ e,Tr.getP_e]at this;cases this
theorem zn(k:Nat):bJ (2*k+1)= .l (bJ k):=Ys fun t=>by
 rw[ew]
 cases t with
 |e=>rw[Tr.getP_e];rfl
 |n l v r=>rw[Tr.getP_l,ew,Tr.get_n,ab (by omega),ab (by omega),show(2*k+1)/2=k by omega]
theorem wU(k:Nat):bJ (2*k+2)= .r (bJ k):=Ys fun t=>by
 rw[ew]
 cases t with
 |e=>rw[Tr.getP_e];rfl
 |n l v r=>rw[Tr.getP_r,ew,Tr.get_n,ab (by omega),ae (by omega),show(2*k+2)/2-1=k by omega]
theorem mF:∀p:aM,∃k,bJ k=p
 | .h=>⟨0,rfl⟩
 | .l p=>let⟨k,hk⟩:=mF p;⟨2*k+1,by rw[zn,hk]⟩
 | .r p=>let⟨k,hk⟩:=mF p;⟨2*k+2,by rw[wU,hk]⟩
theorem P1{m:Nat}{args:List V}(h:i9 c args):WE c (aU m args):=by
 intro p
 have key:∀(vs:List V) (k:Nat) (t:T),i9 c vs→WE c t→WE c (bz vs k t):=by
  intro vs
  induction vs with
  |nil=>intro k t _ ht;exact ht
  |cons v vs ih=>
   intro k t hv ht;rw[d9];refine ih (k+1) _ hv.2 ?_;intro q;obtain⟨j,rfl⟩:=mF q;have hg:(t.set k v).getP (bJ j)=if j=k then some v else t.getP (bJ j):=by
    rw[ew,ew,Tr.get_set]
   by_cases e:j=k
   ·rw[ae e]at hg;rw[uU hg];exact hv.1
   ·rw[ab e]at hg;have:=ht (bJ j);unfold cS at this⊢;rw[hg];exact this
 refine key args 0 (Nr m) h ?_ p
 intro q
 obtain⟨j,rfl⟩:=mF q
 rw[yU (by rw[ew];exact CY j)];trivial
end
section
variable{P:Program}{E E':dj}{F:RO}{M M':Mem}{c c':Nat→Prop}{ct ct' nt:Nat}{w w':World}{t t':T}{d d':List Nat}{a:Act}{rd:Option Nat}
theorem Na(r:RV)(l:List RV):fj F M t (r::l)=(zw F M t r).bind fun v=>(fj F M t l).map (v:: ·):=by
 show Option.rec (motive:=fun _=>Option (List V)) none (fun v=>uJ v (fj F M t l)) (zw F M t r)=_
 cases zw F M t r with
 |none=>rfl
 |some v=>
  show uJ v (fj F M t l)=(fj F M t l).map (v:: ·);unfold uJ;cases fj F M t l<;>rfl
def YC(tmps:Array Value):ResultVar→Sem Value
 | .tmp n=>pure (tmps.getD n Go.undef)
 | .cell ad ty=>do loadVar ty (←asAddr (tmps.getD ad Go.undef))
theorem YD(h:Cx P E F M c w t a){x:ResultVar}{r:RV}(hc:bl7 P x=some r){v:V}(hv:zw F M t r=some v):
 (YC a.tmps x).run P w= .ok (conc E v) w∧bd c v:=by
 unfold YC
 cases x with
 |tmp n=>
  obtain rfl:=ag hc;obtain rfl:cS t (bJ n)=v:=ag hv;exact⟨by simp[h.tr n],h.bt _⟩
 |cell ad ty=>
  have hn:=h.tr ad;have hc':(match uD P ty,ea P ty with
   |some true,some n=>some (RV.cn (bJ ad) n)
   |some false,some _=>some (RV.c1 (bJ ad))
   |_,_=>none)=some r:=hc
  replace hc:=hc';clear hc'
  ·split at hc
   ·rename_i n h1 h2;obtain rfl:=ag hc;have hv':(t8 (cS t (bJ ad)) none fun b o=>Option.rec (motive:=fun _=>Option V) none (fun l=>some (.g l)) (loadN F M b o n))=some v:=hv;cases hg:cS t (bJ ad)with
    |p b o=>
     rw[hg]at hv' hn;have hv2:Option.rec (motive:=fun _=>Option V) none (fun l=>some (.g l)) (loadN F M b o n)=some v:=hv';cases hl:loadN F M b o n with
     |none=>rw[hl]at hv2;cases hv2
     |some l=>
      rw[hl]at hv2;obtain rfl:V.g l=v:=ag hv2;have hL:=h.loadN hl;refine⟨?_,hL.2.1⟩;simp only[hn,conc,asAddr,loadVar,aT,aO,aZ,lH h1,Sem.run_ite,if_true,eA h2,hL.1]
    |_=>rw[hg]at hv';cases(show(none:Option V)=some v from hv')
   ·rename_i n h1 h2;obtain rfl:=ag hc;have hv':(t8 (cS t (bJ ad)) none fun b o=>load1 F M b o)=some v:=hv;cases hg:cS t (bJ ad)with
    |p b o=>
     rw[hg]at hv' hn;have hL:=h.load1 (show Ev.load1 F M b o=some v from hv');refine⟨?_,hL.2⟩;simp only[hn,conc,asAddr,loadVar,aT,aO,aZ,lH h1,Sem.run_ite,bg,if_false,run_load,hL.1]
    |_=>rw[hg]at hv';cases(show(none:Option V)=some v from hv')
   ·cases hc
theorem Kk(h:Cx P E F M c w t a):∀{xs:List ResultVar} {rs:List RV} {vs:List V},sN P xs=some rs→fj F M t rs=some vs→
 (xs.mapM (YC a.tmps)).run P w= .ok (aB E vs) w∧i9 c vs
 |[],rs,vs,hc,hv=>by
  obtain rfl:=ag hc;obtain rfl:[]=vs:=ag hv;exact⟨rfl,trivial⟩
 |x::xs,rs,vs,hc,hv=>by
  rw[sN]at hc;split at hc
  ·rename_i r rr h1 h2;obtain rfl:=ag hc;rw[Na]at hv;obtain⟨v,hv1,hv2⟩:=bk.1 hv;obtain⟨vs',hv3,rfl⟩:=aX.1 hv2;have e1:=YD h h1 hv1;have e2:=Kk h h2 hv3;refine⟨?_,e1.2,e2.2⟩;simp only[List.mapM_cons,aT,e1.1,e2.1,aZ,aO,aB]
  ·cases hc
theorem Fq(h:Cx P E F M c w t a){fn:Func}{rs:List RV}{vs:List V}(hc:sN P fn.results.toList=some rs)(hv:fj F M t rs=some vs):
 (results fn a.tmps).run P w= .ok (conc E (uF vs)) w∧bd c (uF vs):=by
 have e:=Kk h hc hv
 have hm:(fn.results.mapM (YC a.tmps)).run P w= .ok (aB E vs).toArray w:=by
  rw[←Array.toArray_toList (xs:=fn.results),List.mapM_toArray];simp[e.1]
 show(bind (fn.results.mapM (YC a.tmps)) _).run P w=_∧_
 rw[aT,hm]
 match vs,e.2 with
 |[],_=>exact⟨rfl,trivial⟩
 |[v],hb=>exact⟨rfl,hb.1⟩
 |v::v'::l,hb=>
  refine⟨?_,hb⟩;show Result.ok _ w=_
  congr 1
end
section
variable{P:Program}{Bd:List Deferred}{E E':dj}{F:RO}{M M':Mem}{c c':Nat→Prop}{ct ct' nt:Nat}{w w':World}{t t':T}{d d':List Nat}{a:Act}{rd:Option Nat}
theorem yx(b:Nat)(ds:List Nat)(M:Mem):cV (b::ds) M=match M.get b with
 |some (.defs false)=>cV ds (M.set b (.defs true))
 |_=>none:=by
 show Option.rec (motive:=fun _=>Option Mem) none (fun blk=>xJ (cV ds) M b blk) (M.get b)=_
 cases M.get b with
 |none=>rfl
 |some blk=>
  cases blk with
  |defs x=>
   cases x with
   |true=>rfl
   |false=>exact Tr.force_eq _ _
  |_=>rfl
theorem wA{fn:Func}{R:Ending→World→Prop}{t:T}{tmps:Array Value}{M₂:Mem}:∀(ds:List Nat) (M:Mem) (w:World),cV ds M=some M₂→ku P E F M c w→
 (∀w',mY P F E M c w E M₂ c w'→LeavesInM Fence.wide 0 P fn tmps R Bd .returning w')→
 LeavesInM Fence.wide 0 P fn tmps R ((ds.map fun b=>{target:= .collected (E.ρ b),args:=#[]})++Bd) .returning w
 |[],M,w,hm,h,hR=>by
  obtain rfl:M=M₂:=ag hm;exact hR w (.refl h)
 |b::ds,M,w,hm,h,hR=>by
  rw[yx]at hm;split at hm
  ·rename_i hM;obtain⟨_,_,o,ho,hrel⟩:=h.has _ _ (ay hM);have hrel':o= .deferred (some []):=hrel;subst hrel';have hS:=h.write b _ (.defs true) hM (.deferred none) trivial (w.putObj (E.ρ b) (.deferred none)) rfl rfl rfl rfl rfl;refine⟨by simp,.inl ⟨E.ρ b,w.putObj (E.ρ b) (.deferred none),rfl,run_takeDeferred ho,?_⟩⟩;exact wA (t:=t) ds _ _ hm hS.rel fun w' hS'=>hR w' (hS.trans hS')
  ·cases hm
theorem Mx{fn:Func}{R:Ending→World→Prop}{t:T}{tmps:Array Value}{M₂:Mem}(ds:List Nat)(M:Mem)(w:World)(hm:cV ds M=some M₂)(h:ku P E F M c w)
 (hR:∀w',mY P F E M c w E M₂ c w'→ ∃v,(results fn tmps).run P w'= .ok v w'∧R (.returned v) w'):
 LeavesInM Fence.wide 0 P fn tmps R ((ds.map fun b=>{target:= .collected (E.ρ b),args:=#[]})++[]) .returning w:=
 wA (t:=t) (Bd:=[]) ds M w hm h fun w' hS=>hR w' hS
theorem Eo{ex:y5}{f:Nat}{args:List V}{o:Option CF}{v:V}(h:eX ex F f args M ct o= .k v M' ct'):(∃n res body e t1 d1 M1 vs,o=some (.mk n res body)∧ex none f F body (.mk (aU n args) [] M ct)= .k e (.mk t1 d1 M1 ct')∧(e= .nrm∨e= .ret)∧cV d1 M1=some M'∧fj F M' t1 res=some vs∧v=uF vs)∨ ∃g,o=some (.orc g)∧g F args M ct= .k v M' ct':=by
 cases o with
 |none=>cases(show RC.f= .k v M' ct' from h)
 |some cf=>
  cases cf with
  |orc g=>exact .inr ⟨g,rfl,h⟩
  |mk n res body=>
  left;have h':nT res F (ex none f F body (.mk (aU n args) [] M ct))= .k v M' ct':=h;cases hx:ex none f F body (.mk (aU n args) [] M ct)with
  |f=>rw[hx]at h';cases(show RC.f= .k v M' ct' from h')
  |k e s=>
   obtain⟨t1,d1,M1,c1⟩:=s;rw[hx]at h';have h2:Bool.rec (motive:=fun _=>RC) .f (Aj res F t1 c1 (cV d1 M1)) (JI e)= .k v M' ct':=h';rw[bb]at h2;split at h2
   ·rename_i he;cases hm:cV d1 M1 with
    |none=>rw[hm]at h2;cases(show RC.f= .k v M' ct' from h2)
    |some M2=>
     rw[hm]at h2;have h3:Ak c1 M2 (fj F M2 t1 res)= .k v M' ct':=h2;cases hr:fj F M2 t1 res with
     |none=>rw[hr]at h3;cases(show RC.f= .k v M' ct' from h3)
     |some vs=>
      rw[hr]at h3;have h4:RC.k (uF vs) M2 c1= .k v M' ct':=h3;injection h4 with e1 e2 e3
      subst e1 e2 e3;refine⟨n,res,body,e,t1,d1,M1,vs,rfl,hx,?_,hm,hr,rfl⟩;cases e with
      |nrm=>exact .inl rfl
      |ret=>exact .inr rfl
      |ext id=>cases(show false=true from he)
      |gto l=>cases(show false=true from he)
   ·cases h2
theorem LT{fn:Func}{n:Nat}{res:List RV}{body:CC}(h:ap5 P fn=some (.mk n res body)):(fn.name== "runtime.NumGoroutine")=false∧ ∃b,fn.body=some b∧Sim P fn.ntmps b body∧sN P fn.results.toList=some res:=by
 unfold ap5 at h
 split at h
 ·cases h
 ·rename_i hn;refine⟨by simpa using hn,?_⟩;split at h
  ·cases h
  ·rename_i b hb;split at h
   ·rename_i body' res' h1 h2;injection h with h
    injection h with e0 e1 e2
    subst e0 e1 e2;exact⟨b,hb,⟨_,h1⟩,h2⟩
   ·cases h
theorem iL{Φ:Nat→Option CF}{ex:y5}(hΦ:fo P Φ)(hex:BF P ex)(rd:Option Nat)(fn:Nat)(F₀:RO):nI P (.mk Φ ex rd fn F₀):=by
 intro F f args M ct v M' ct' h E c w hrel hglob hbig hfr hargs
 have h':eX ex F f args M ct (Φ f)= .k v M' ct':=h
 rcases Eo h' with⟨n,res,body,e,t1,d1,M1,vs,ho,hx,he,hm,hr,rfl⟩|⟨g,ho,hg⟩
 case inr=>
  have hok:bY P f g:=hΦ f _ ho;exact hok F args M ct v M' ct' hg E c w hrel hglob hbig hfr hargs
 obtain⟨fn',hfn,hcomp⟩:∃fn,P.funcs[f]?=some fn∧ap5 P fn=some (.mk n res body):=hΦ f _ ho
 obtain⟨hnm,b,hb,hsim,hres⟩:=LT hcomp
 refine⟨fn',hfn,by rw[hb];rfl,hnm,?_⟩
 refine(callsIn_wide (n:=0)).1 (callsIn_of_wp_marks hfn hb trivial ?_)
 have hSR:SR P [] F none fn'.ntmps E c w {tmps:=(aB E args).toArray++Array.replicate (fn'.ntmps-(aB E args).toArray.size) Go.undef,defers:=[]} (aU n args) [] M ct:=
  ⟨⟨hrel,hglob,hbig,Lz E args _ _,P1 hargs⟩,hfr,rfl,fun b hb=>by simp at hb,by simp;omega,fun l hl=>by cases hl⟩
 refine hex none f F body _ [] M ct e t1 d1 M1 ct' hx fn'.ntmps b hsim E c w _ hSR _ ?_
 rintro a' w' ⟨E',c',hS,hG,hR⟩
 have key:LeavesInM Fence.wide 0 P fn' a'.tmps (fun e w'=>∃E' c',e= .returned (conc E' (uF vs))∧mY P F E M c w E' M' c' w'∧bd c' (uF vs)∧jA c ct c' ct') a'.defers .returning w':=by
  rw[hR.df];refine Mx (t:=t1) d1 M1 w' hm hR.cx.rel fun w2 hS2=>?_;have hcx:Cx P E' F M' c' w2 t1 a':=⟨hS2.rel,hR.cx.glob,hR.cx.big,hR.cx.tr,hR.cx.bt⟩
  have hres':=Fq hcx hres hr;exact⟨_,hres'.1,E',c',rfl,hS.trans hS2,hres'.2,hG⟩
 rcases he with rfl|rfl
 ·exact key
 ·exact key
end
section
variable{P:Program}{E E':dj}{F:RO}{M M':Mem}{c c':Nat→Prop}{ct ct' nt:Nat}{w w':World}{t t':T}{d d':List Nat}{a:Act}{rd:Option Nat}
theorem fP{o:Option bL}{s:LS}{pe:pW}{fn:Nat}{tm:T}{ps:List aM}{asg body:CC}{dn:Nat}(h:dR o= .k s pe fn tm ps asg body dn):o=some (.loop s pe fn tm ps asg body dn):=by
 unfold dR at h
 split at h
 ·injection h with e1 e2 e3 e4 e5 e6 e7 e8
  subst e1 e2 e3 e4 e5 e6 e7 e8;rfl
 ·cases h
theorem s9{E:dj}:∀(ps:List Nat) (vs:List V) (t t':T) (tmps:Array Value),di (ps.map bJ) vs t=some t'→sD E t tmps→(∀p∈ps,p<tmps.size)→
 ps.length=vs.length∧sD E t' ((ps.zip (aB E vs)).foldl (fun tm (p:Nat×Value)=>tm.setIfInBounds p.1 p.2) tmps)
 |[],[],t,t',tmps,h,ht,_=>by
  obtain rfl:t=t':=ag h;exact⟨rfl,ht⟩
 |p::ps,v::vs,t,t',tmps,h,ht,hp=>by
  have h':di (ps.map bJ) vs (t.setP (bJ p) v)=some t':=by
   have:(t.setP (bJ p) v).force (fun t=>di (ps.map bJ) vs t)=some t':=h
   rwa [Tr.force_eq]at this
  have h1:sD E (t.setP (bJ p) v) (tmps.setIfInBounds p (conc E v)):=
   vu (a:=⟨tmps,[]⟩) (dst:=some p) ht (fun k hk=>by cases hk;exact hp p (by simp)) rfl
  have ih:=s9 ps vs _ t' _ h' h1 (fun q hq=>by simpa using hp q (by simp[hq]));exact⟨by simp[ih.1],by simpa [aB]using ih.2⟩
 |[],_::_,t,t',tmps,h,_,_=>by cases h
 |_::_,[],t,t',tmps,h,_,_=>by cases h
theorem s7:∀(ps:List aM) (vs:List V) (t t':T),di ps vs t=some t'→i9 c vs→WE c t→WE c t'
 |[],[],t,t',h,_,ht=>by obtain rfl:t=t':=ag h;exact ht
 |p::ps,v::vs,t,t',h,hv,ht=>by
  have h':di ps vs (t.setP p v)=some t':=by
   have:(t.setP p v).force (fun t=>di ps vs t)=some t':=h
   rwa [Tr.force_eq]at this
  exact s7 ps vs _ t' h' hv.2 (A6 (dst:=some p) ht hv.1)
 |[],_::_,t,t',h,_,_=>by cases h
 |_::_,[],t,t',h,_,_=>by cases h
theorem EM(ps:List (Nat×Value)):∀tmps:Array Value,(ps.foldl (fun tm (p:Nat×Value)=>tm.setIfInBounds p.1 p.2) tmps).size=tmps.size:=by
 induction ps with
 |nil=>intro tmps;rfl
 |cons p ps ih=>intro tmps;rw[List.foldl_cons,ih];simp
end
section
variable{P:Program}{E E':dj}{F:RO}{M M':Mem}{c c':Nat→Prop}{ct ct' nt:Nat}{w w':World}{t t':T}{d d':List Nat}{a:Act}{rd:Option Nat}
theorem Er{Φ:Nat→Option CF}{ex:y5}{rd₀:Option Nat}{fn₀:Nat}{l:Nat}{args:List V}{o:Option bL}{v:V}(h:rk (.mk Φ ex rd₀ fn₀ F) l args M ct (dR o)= .k v M' ct'):
 ∃pe fn tm ps asg body dn tp t1 M1 ct1 pe1 fn1 tm1 ps1 a1 b1 dn1 e t2 M3 s3 pe3 fn3 tm3 ps3 a3 b3 dn3 s4 pe4 r,o=some (.loop .ready pe fn tm ps asg body dn)∧di ps args tm=some tp∧
  ex (some l) fn F asg (.mk tp [] M ct)= .k .nrm (.mk t1 [] M1 ct1)∧M1.get l=some (.loop .ready pe1 fn1 tm1 ps1 a1 b1 dn1)∧
  ex (some l) fn F body (.mk t1 [] (M1.set l (.loop .busy pe1 fn1 tm1 ps1 a1 b1 dn1)) ct1)= .k e (.mk t2 [] M3 ct')∧M3.get l=some (.loop s3 pe3 fn3 tm3 ps3 a3 b3 dn3)∧
  ((e= .nrm∧s4= .ready∧pe4= .none∧r=true)∨(e= .ret∧s4= .done∧pe4= .ret∧r=false)∨(∃id,e= .ext id∧s4= .done∧pe4= .ext id∧r=false))∧
  v= .b r∧M'=M3.set l (.loop s4 pe4 fn3 tm3 ps3 a3 b3 dn3):=by
 cases hl:dR o with
 |f=>rw[hl]at h;cases h
 |k s pe fn tm ps asg body dn=>
  rw[hl]at h;cases s with
  |ready=>
   have ho:=fP hl;cases hp:di ps args tm with
   |none=>
    have h1:Df (.mk Φ ex rd₀ fn₀ F) l fn asg body M ct (di ps args tm)= .k v M' ct':=h;rw[hp]at h1;cases h1
   |some tp=>
    have h1:Df (.mk Φ ex rd₀ fn₀ F) l fn asg body M ct (di ps args tm)= .k v M' ct':=h;rw[hp]at h1;have h2:nv (.mk Φ ex rd₀ fn₀ F) l fn body (ex (some l) fn F asg (.mk tp [] M ct))= .k v M' ct':=h1;unfold nv at h2;split at h2
    ·rename_i t1 M1 ct1 hx1;unfold qN at h2;split at h2
     ·rename_i pe1 fn1 tm1 ps1 a1 b1 dn1 hl1;rw[Tr.force_eq]at h2;have h3:lg l (ex (some l) fn F body (.mk t1 [] (M1.set l (.loop .busy pe1 fn1 tm1 ps1 a1 b1 dn1)) ct1))= .k v M' ct':=h2;unfold lg at h3;split at h3
      ·cases h3
      ·rename_i e t2 d2 M3 ct2 hx2;split at h3
       ·have key:∀(s4:LS) (pe4:pW) (r:Bool),uf M3 l ct2 s4 pe4 r (dR (M3.get l))= .k v M' ct'→ ∃s3 pe3 fn3 tm3 ps3 a3 b3 dn3,M3.get l=some (.loop s3 pe3 fn3 tm3 ps3 a3 b3 dn3)∧v= .b r∧M'=M3.set l (.loop s4 pe4 fn3 tm3 ps3 a3 b3 dn3)∧ct'=ct2:=by
         intro s4 pe4 r hy;unfold uf at hy;split at hy
         ·rename_i s3 pe3 fn3 tm3 ps3 a3 b3 dn3 hl3;rw[rZ]at hy;injection hy with g1 g2 g3
          exact⟨_,_,_,_,_,_,_,_,fP hl3,g1.symm,g2.symm,g3.symm⟩
         ·cases hy
        split at h3
        ·obtain⟨s3,pe3,fn3,tm3,ps3,a3,b3,dn3,hM3,hv,hM',hct⟩:=key _ _ _ h3;subst hct;exact⟨pe,fn,tm,ps,asg,body,dn,tp,t1,M1,ct1,pe1,fn1,tm1,ps1,a1,b1,dn1,_,t2,M3,s3,pe3,fn3,tm3,ps3,a3,b3,dn3,.ready,.none,true,ho,hp,hx1,fP hl1,hx2,hM3,.inl ⟨rfl,rfl,rfl,rfl⟩,hv,hM'⟩
        ·obtain⟨s3,pe3,fn3,tm3,ps3,a3,b3,dn3,hM3,hv,hM',hct⟩:=key _ _ _ h3;subst hct;exact⟨pe,fn,tm,ps,asg,body,dn,tp,t1,M1,ct1,pe1,fn1,tm1,ps1,a1,b1,dn1,_,t2,M3,s3,pe3,fn3,tm3,ps3,a3,b3,dn3,.done,.ret,false,ho,hp,hx1,fP hl1,hx2,hM3,.inr (.inl ⟨rfl,rfl,rfl,rfl⟩),hv,hM'⟩
        ·rename_i id;obtain⟨s3,pe3,fn3,tm3,ps3,a3,b3,dn3,hM3,hv,hM',hct⟩:=key _ _ _ h3;subst hct;exact⟨pe,fn,tm,ps,asg,body,dn,tp,t1,M1,ct1,pe1,fn1,tm1,ps1,a1,b1,dn1,_,t2,M3,s3,pe3,fn3,tm3,ps3,a3,b3,dn3,.done,.ext id,false,ho,hp,hx1,fP hl1,hx2,hM3,.inr (.inr ⟨id,rfl,rfl,rfl,rfl⟩),hv,hM'⟩
        ·cases h3
       ·cases h3
     ·cases h2
    ·cases h2
  |_=>cases h
end
section
variable{P:Program}{Bd:List Deferred}{E E':dj}{F:RO}{M M':Mem}{c c':Nat→Prop}{ct ct' nt:Nat}{w w':World}{t t':T}{d d':List Nat}{a:Act}{rd:Option Nat}
theorem xW{Φ:Nat→Option CF}{ex:y5}(hex:BF P ex)(rd₀:Option Nat)(fn₀:Nat)(F₀:RO):kE P (.mk Φ ex rd₀ fn₀ F₀):=by
 intro F l args M ct v M' ct' h E c w rd hrel hglob hbig hfr hargs
 obtain⟨pe,fn,tm,ps,asg,body,dn,tp,t1,M1,ct1,pe1,fn1,tm1,ps1,a1,b1,dn1,e,t2,M3,s3,pe3,fn3,tm3,ps3,a3,b3,dn3,s4,pe4,r,ho,hp,hx1,hM1,hx2,hM3,hcase,rfl,rfl⟩:=Er (rd₀:=rd₀) (fn₀:=fn₀) h
 obtain⟨hcl,hbd,ob,hob,fn',tmps,params,ca,cb,rfl,htr,hps,nt,hnt,hpar,hsa,hsb⟩:=hrel.has _ _ (ay ho)
 subst hps
 obtain⟨hlen,htr'⟩:=s9 params.toList args tm tp tmps hp htr (fun p hp'=>Nat.lt_of_lt_of_le (hpar p hp') hnt)
 have hy:=run_yield (P:=P) (args:=(aB E args).toArray) hob (by simp[bC];rw[←hlen];simp)
 have hfold:(params.zip (aB E args).toArray).foldl (fun tmps (t,a)=>tmps.setIfInBounds t a) tmps=(params.toList.zip (aB E args)).foldl (fun tm (p:Nat×Value)=>tm.setIfInBounds p.1 p.2) tmps:=by
  rw[←Array.foldl_toList];simp
 simp only[hfold]at hy
 refine⟨fn',_,ca,cb,hy,roundIn_of_wpIn trivial ?_⟩
 have hSR:SR P [] F (some l) nt E c w {tmps:=(params.toList.zip (aB E args)).foldl (fun tm (p:Nat×Value)=>tm.setIfInBounds p.1 p.2) tmps,defers:=[]} tp [] M ct:=
  ⟨⟨hrel,hglob,hbig,htr',s7 _ _ _ _ hp hargs hbd.1⟩,hfr,rfl,fun b hb=>by simp at hb,by rw[EM];exact hnt,fun l' hl'=>by cases hl';exact hcl⟩
 refine hex (some l) fn F asg tp [] M ct .nrm t1 [] M1 ct1 hx1 nt ca hsa E c w _ hSR _ ?_
 rintro a1' w1 ⟨E1,c1,hS1,hG1,hR1⟩
 obtain⟨hcl1,hbd1,ob1,hob1,fn1',tmps1,params1,ca1,cb1,rfl,htr1,hps1,hnt1⟩:=hR1.cx.rel.has _ _ (ay hM1)
 have hρ1:E1.ρ l=E.ρ l:=hS1.ext.ρ l hcl
 have hbr:=run_beginRound (P:=P) (l:=E.ρ l) (by rw[←hρ1];exact hob1) rfl
 refine⟨_,hbr,?_⟩
 have hS2:=hR1.cx.rel.write l _ (.loop .busy pe1 fn1 tm1 ps1 a1 b1 dn1) hM1 (.loop {state:= .busy,pending:=Fe pe1,fn:=fn1',tmps:=tmps1,params:=params1,assign:=ca1,body:=cb1,defers:=E1.ρ dn1}) hbd1
  (w1.putObj (E.ρ l) (.loop {state:= .busy,pending:=Fe pe1,fn:=fn1',tmps:=tmps1,params:=params1,assign:=ca1,body:=cb1,defers:=E1.ρ dn1})) (by rw[hρ1];rfl) rfl rfl rfl
  ⟨fn1',tmps1,params1,ca1,cb1,rfl,htr1,hps1,hnt1⟩
 have hSR2:=hR1.stp hS2 (.refl _ _)
 have hfe:dl E1 (some l)=(dl E rd).inRound (E.ρ l):=by unfold dl Fence.inRound;simp[hρ1]
 rw[←hfe]
 refine hex (some l) fn F body t1 [] _ ct1 e t2 [] M3 ct' hx2 nt cb hsb E1 c1 _ _ hSR2 _ ?_
 rintro a2 w3 ⟨E3,c3,hS3,hG3,hR3⟩
 obtain⟨hcl3,hbd3,ob3,hob3,fn3',tmps3,params3,ca3,cb3,rfl,htr3,hps3,hnt3⟩:=hR3.cx.rel.has _ _ (ay hM3)
 have hρ3:E3.ρ l=E.ρ l:=(hS3.ext.ρ l hcl1).trans hρ1
 have fin:∀(jump:Option Code),cG8 s4=(if jump.isNone then .ready else .done)→Fe pe4=jump→r=jump.isNone→
  ∃v' w',(Instr.endRound (E.ρ l) jump).run P w3= .ok v' w'∧ ∃E' c',Ending.returned v'= .returned (conc E' (.b r))∧mY P F E M c w E' (M3.set l (.loop s4 pe4 fn3 tm3 ps3 a3 b3 dn3)) c' w'∧bd c' (.b r)∧jA c ct c' ct':=by
  intro jump h1 h2 h3;have her:=run_endRound (P:=P) (l:=E.ρ l) jump (by rw[←hρ3];exact hob3);refine⟨_,_,her,E3,c3,by rw[h3];rfl,?_,trivial,hG1.trans hG3⟩;refine((hS1.trans hS2).trans hS3).trans (hR3.cx.rel.write l _ (.loop s4 pe4 fn3 tm3 ps3 a3 b3 dn3) hM3 (.loop {state:=if jump.isNone then .ready else .done,pending:=jump,fn:=fn3',tmps:=tmps3,params:=params3,assign:=ca3,body:=cb3,defers:=E3.ρ dn3}) hbd3 _ (by rw[hρ3];rfl) rfl rfl rfl ?_);exact⟨fn3',tmps3,params3,ca3,cb3,by rw[h1,h2],htr3,hps3,hnt3⟩
 rcases hcase with⟨rfl,rfl,rfl,rfl⟩|⟨rfl,rfl,rfl,rfl⟩|⟨id,rfl,rfl,rfl,rfl⟩
 ·exact fin none rfl rfl rfl
 ·exact fin (some .ret) rfl rfl rfl
 ·exact fin (some (.exit id)) rfl rfl rfl
end
section
variable{Fn:Fence}{n:Nat}{P:Program}{b:Frame}{a:Act}{k:List Item}{cs:List Frame}{w:World}{Q:Exit→Act→World→Prop}
theorem D4{c:Code}:step P (lone (b.atR a (.code (.scope c)::k)) cs w)= .next (lone (b.atR a (.code c:: .inScope c::k)) cs w):=
 step_lone_go (by simp[stepG,stepG.exec,Frame.atR])
theorem yw{c:Code}:step P (lone (b.atR a (.inScope c::k)) cs w)= .next (lone (b.atR a k) cs w):=
 step_lone_go (by simp[stepG,stepG.exec,Frame.atR])
def dm(body:Code)(J:Code→Act→World→Prop)(Q:Exit→Act→World→Prop):Exit→Act→World→Prop
 | .goto l,a,w=>match findLabel body l with
   |some rest=>J rest a w
   |none=>Q (.goto l) a w
 |e,a,w=>Q e a w
def ib(Fn:Fence)(n:Nat)(P:Program)(body:Code)(Q:Exit→Act→World→Prop):Nat→Code→Act→World→Prop
 |0,_,_,_=>False
 |m+1,c,a,w=>c.wpIn Fn n P (dm body (ib Fn n P body Q m) Q) a w
theorem Gg{body:Code}(m:Nat)(h:ib Fn n P body Q m body a w):(Code.scope body).wpIn Fn n P Q a w:=by
 intro b k cs hro hb hr
 have hx:∀id,exitTo id (.inScope body::k)=exitTo id k:=fun id=>by simp[exitTo]
 have key:∀m c a w,ib Fn n P body Q m c a w→
  ∃e a' w',Q e a' w'∧ArrivesIn (Machine.fenced P Fn) P (lone (b.atR a (.code c:: .inScope body::k)) cs w) b k cs e a' w':=by
  intro m
  induction m with
  |zero=>intro c a w h;exact h.elim
  |succ m ih=>
   intro c a w h;obtain⟨e,a₁,w₁,hq,harr⟩:=h b (.inScope body::k) cs hro hb hr;cases e with
   |normal=>exact⟨.normal,a₁,w₁,hq,StepsIn.trans harr (.one (fenced_calm hb hr rfl) yw)⟩
   |exit id=>
    exact⟨.exit id,a₁,w₁,hq,fun k' hk=>harr.1 k' (by rw[hx];exact hk),
     fun hr' hk=>harr.2 hr' (by rw[hx];exact hk)⟩
   |goto l=>
    cases hf:findLabel body l with
    |none=>
     have hq':Q (.goto l) a₁ w₁:=by
      have:dm body (ib Fn n P body Q m) Q (.goto l) a₁ w₁:=hq;unfold dm at this;dsimp only at this;rw[hf]at this;exact this
     have hg:gotoIn l (.inScope body::k)=gotoIn l k:=by simp[gotoIn,hf]
     exact⟨.goto l,a₁,w₁,hq',fun k' hk=>harr.1 k' (by rw[hg];exact hk),fun hr' hk=>harr.2 hr' (by rw[hg];exact hk)⟩
    |some rest=>
     have hq':ib Fn n P body Q m rest a₁ w₁:=by
      have:dm body (ib Fn n P body Q m) Q (.goto l) a₁ w₁:=hq;unfold dm at this;dsimp only at this;rw[hf]at this;exact this
     obtain⟨e₂,a₂,w₂,hq₂,harr₂⟩:=ih rest a₁ w₁ hq';have hg:gotoIn l (.inScope body::k)=some (.code rest:: .inScope body::k):=by simp[gotoIn,hf]
     exact⟨e₂,a₂,w₂,hq₂,.of_steps (harr.1 _ hg) harr₂⟩
   |ret=>exact⟨_,a₁,w₁,hq,harr⟩
   |panic ch=>exact⟨_,a₁,w₁,hq,harr⟩
   |outgrown=>exact⟨_,a₁,w₁,hq,harr⟩
 obtain⟨e,a',w',hq,harr⟩:=key m body a w h
 exact⟨e,a',w',hq,.of_steps (.one (fenced_calm hb hr rfl) D4) harr⟩
end
section
variable{P:Program}{Bd:List Deferred}{E E':dj}{F:RO}{M M':Mem}{c c':Nat→Prop}{ct ct' nt:Nat}{w w':World}{t t':T}{d d':List Nat}{a:Act}{rd:Option Nat}
def bz5(P:Program)(k:Kn):Prop:=∀(F:RO) (rd:Option Nat) (nt id:Nat) (ops:Array Oper) (cos:List CO),nO P nt ops ops.toList=some cos→ ∀(n:Nat) (l:List (Nat×Nat×CO)),yN ops cos= .dreg n l→
 ∀(t:T) (d:List Nat) (M:Mem) (ct:Nat) (e:Ex) (t':T) (d':List Nat) (M':Mem) (ct':Nat),WY n l (sY k F) (.mk t d M ct)= .k e (.mk t' d' M' ct')→
 ∀{Bd:List Deferred} (E:dj) (c:Nat→Prop) (w:World) (a:Act),SR P Bd F rd nt E c w a t d M ct→ ∀Q:Exit→Act→World→Prop,(∀a' w',Ol P Bd F rd nt E c w M ct t' d' M' ct' a' w'→Q (rB e) a' w')→(Code.region id ops true).wpIn (dl E rd) 0 P Q a w
theorem MP{pe:pW}{n:Nat}{Fn:Fence}{Q:Exit→Act→World→Prop}{e:Ex}{s:St}{s':St}(h:xp s pe= .k e s')(hq:Q (rB e) a w):
 (match Fe pe with
  |none=>Q .normal a w
  |some c=>c.wpIn Fn n P Q a w):=by
 cases pe with
 |none=>
  have h':Rs.k .nrm s= .k e s':=h;injection h' with h1 h2
  subst h1;exact hq
 |ret=>
  have h':Rs.k .ret s= .k e s':=h;injection h' with h1 h2
  subst h1;exact wpIn_ret hq
 |ext id=>
  have h':Rs.k (.ext id) s= .k e s':=h;injection h' with h1 h2
  subst h1;exact wpIn_exit hq
theorem Nd{pe:pW}{e:Ex}{s s':St}(h:xp s pe= .k e s'):s'=s:=by
 cases pe with
 |none=>have h':Rs.k .nrm s= .k e s':=h;injection h' with h1 h2;exact h2.symm
 |ret=>have h':Rs.k .ret s= .k e s':=h;injection h' with h1 h2;exact h2.symm
 |ext id=>have h':Rs.k (.ext id) s= .k e s':=h;injection h' with h1 h2;exact h2.symm
theorem CR{l:Nat}{r:RC}{e:Ex}{s':St}(h:lb t d l r= .k e s'):∃v M1 c1 s pe fn tm ps a b dn,r= .k v M1 c1∧M1.get l=some (.loop s pe fn tm ps a b dn)∧s≠ .busy∧
 xp (.mk t d (M1.set l (.loop .exhausted pe fn tm ps a b dn)) c1) pe= .k e s':=by
 cases r with
 |f=>cases(show Rs.f= .k e s' from h)
 |k v M1 c1=>
  have h1:CS t d M1 c1 l (dR (M1.get l))= .k e s':=h;cases hl:dR (M1.get l)with
  |f=>rw[hl]at h1;cases(show Rs.f= .k e s' from h1)
  |k s pe fn tm ps a b dn=>
   rw[hl]at h1;refine⟨v,M1,c1,s,pe,fn,tm,ps,a,b,dn,rfl,fP hl,?_,?_⟩
   ·rintro rfl;cases(show Rs.f= .k e s' from h1)
   ·unfold CS at h1;split at h1
    ·cases h1
    ·rename_i heq;injection heq with e1 e2 e3 e4 e5 e6 e7 e8
     subst e1 e2 e3 e4 e5 e6 e7 e8;split at h1
     ·cases h1
     ·rw[Tr.force_eq]at h1;exact h1
theorem Ep{k:Kn}{v:V}{args:List V}{x:V}(h:jt k v args M ct= .k x M' ct'):∃f first caps,v= .f f first caps∧n9 k f (first++(args++caps)) M ct= .k x M' ct':=by
 cases v with
 |f f first caps=>exact⟨f,first,caps,rfl,h⟩
 |_=>cases(show RC.f= .k x M' ct' from h)
theorem Km{Φ:Nat→Option CF}{ex:y5}(hΦ:fo P Φ)(hex:BF P ex){fn₀:Nat}{g:Operand}{ps:Array Tmp}{ca cb:Code}{x:X}{asg body:CC}(hx:bp g=some x)
 (hsa:Sim P nt ca asg) (hsb:Sim P nt cb body) (hps:∀p∈ps.toList,p<nt) {dn:Nat} {e:Ex} {s':St}
 (h:og x (ps.toList.map bJ) asg body (.mk Φ ex rd fn₀ F) t d M ct dn= .k e s') (hdn:c dn)
 (hSR:SR P Bd F rd nt E c w a t d M ct) {Q:Exit→Act→World→Prop} {fn:Nat} {mark:List Deferred} {w₁:World}
 {w₀:World} {a₀:Act} (he:(Instr.enterLoop fn a₀.tmps ps ca cb (rd.map E.ρ)).run P w₀= .ok (w.heap.size,mark) w₁)
 (hw₁:w₁=w.alloc (.loop {state:= .ready,pending:=none,fn,tmps:=a₀.tmps,params:=ps,assign:=ca,body:=cb,defers:=E.ρ dn}))
 (ha:a={a₀ with defers:=mark++a₀.defers})
 (hQ:∀t' d' M' ct',s'= .mk t' d' M' ct'→ ∀a' w',Ol P Bd F rd nt E c w M ct t' d' M' ct' a' w'→Q (rB e) a' w'):
 ∃(l:Nat) (mark:List Deferred) (w₁:World) (d:Deferred) (w₁':World) (f:FuncId) (args:Array Value) (w₂:World),
  (Instr.enterLoop fn a₀.tmps ps ca cb (dl E rd).round).run P w₀= .ok (l,mark) w₁∧
  (resolve a₀.eval (rangeCall g l) 0).run P w₁= .ok d w₁'∧
  (∀f',Target.leads P w₁' d.target d.args=some f'→(dl E rd).fn f')∧
  (invoke d.target d.args).run P w₁'= .ok (.enter f args) w₂∧
  ((dl E rd).depth.isSome=true→1≤0)∧
  CallsIn (dl E rd) (0-1) P f args w₂ (rangePost (dl E rd) 0 P l Q {a₀ with defers:=mark++a₀.defers}):=by
 have h1:lb t d ct (jt (.mk Φ ex rd fn₀ F) (x.ev t) [.y ct] (M.set ct (.loop .ready .none fn₀ t (ps.toList.map bJ) asg body dn)) (ct+1))= .k e s':=by
  unfold og at h;dsimp only at h;rw[Tr.force_eq,b9]at h;exact h
 obtain⟨v,M1,c1,s,pe,fn1,tm1,ps1,a1,b1,dn1,hr,hM1,hbusy,hpend⟩:=CR h1
 obtain⟨f,first,caps,hv,hcf⟩:=Ep hr
 have htm:a₀.tmps=a.tmps:=by rw[ha]
 obtain⟨E1,hS1,hE1,hρ1,hβ1,_⟩:=hSR.cx.rel.alloc (.loop .ready .none fn₀ t (ps.toList.map bJ) asg body dn) (.loop {state:= .ready,pending:=none,fn,tmps:=a₀.tmps,params:=ps,assign:=ca,body:=cb,defers:=E.ρ dn}) ct 0 (fun b=>c b∨b=ct) (hSR.fr ct (ak _)) (.inr rfl) (fun _ h=> .inl h)
  ⟨fun p=>dZ (fun _ h=> .inl h) _ (hSR.cx.bt p),.inl hdn⟩ w₁ (by rw[hw₁];rfl) (by rw[hw₁];rfl) (by rw[hw₁];rfl) (by rw[hw₁];rfl)
  (fun E2 hE2 _ _ _=>⟨fn,a₀.tmps,ps,ca,cb,by rw[hE2.ρ dn hdn];rfl,by rw[htm];exact hSR.cx.tr.ext hE2 hSR.cx.bt,rfl,nt,by rw[htm];exact hSR.sz,hps,hsa,hsb⟩)
 have hG1:jA c ct (fun b=>c b∨b=ct) (ct+1):=ja c ct
 have hSR1:=hSR.stp hS1 hG1
 have ev:=hSR1.cx.ev hx
 rw[hv]at ev
 have hcall:=iL hΦ hex rd fn₀ F
 have hcf':n9 (sY (.mk Φ ex rd fn₀ F) F) f (first++([.y ct]++caps)) (M.set ct (.loop .ready .none fn₀ t (ps.toList.map bJ) asg body dn)) (ct+1)= .k v M1 c1:=hcf
 obtain⟨fn',hfn,hbo,hnm,hC⟩:=hcall F f _ _ _ _ _ _ hcf' E1 _ w₁ hSR1.cx.rel hSR1.cx.glob hSR1.cx.big hSR1.fr (iH ev.2.1 (iH (⟨.inr rfl,trivial⟩) ev.2.2))
 have hcfn:(callFunc f (aB E1 (first++([.y ct]++caps))).toArray).run P w₁= .ok (.enter f (aB E1 (first++([.y ct]++caps))).toArray) w₁:=by
  have h1:¬fn'.name= "runtime.NumGoroutine" :=by simpa using hnm
  have h2:¬fn'.body=none:=fun e=>by rw[e]at hbo;cases hbo
  simp[callFunc,hfn,h1,h2]
 have hge:a₀.eval g= .func (.func f) (aB E1 first).toArray (aB E1 caps).toArray:=by
  have:a.eval g=a₀.eval g:=by rw[ha];rfl
  rw[←this,ev.1];rfl
 refine⟨w.heap.size,mark,w₁,⟨.fn (.func f) (aB E1 caps).toArray,(aB E1 first).toArray++#[.func (.yield w.heap.size) #[] #[]]⟩,w₁,f,(aB E1 (first++([.y ct]++caps))).toArray,w₁,he,?_,fun _ _=>trivial,?_,fun hd=>by simp[dl]at hd,?_⟩
 ·have hm:(rangeCall g w.heap.size).args.map a₀.eval=#[.func (.yield w.heap.size) #[] #[]]:=by simp[Act.eval]
  show(Deferred.ofValue (a₀.eval g) ((rangeCall g w.heap.size).args.map a₀.eval)).run P w₁=_;rw[hm,hge];rfl
 ·have:(aB E1 first).toArray++#[.func (.yield w.heap.size) #[] #[]]++(aB E1 caps).toArray=(aB E1 (first++([.y ct]++caps))).toArray:=by
   rw[ie,ie];simp[aB,conc,hρ1]
  simp only[invoke,this];exact hcfn
 ·rw[←gV hS1.ext hSR.rd];refine tL (hC.mono ?_);rintro e2 w2 ⟨E2,c2,rfl,hS2,hb2,hG2⟩;obtain⟨hcl,hbd,ob,hob,fn3,tmps3,params3,ca3,cb3,rfl,htr3,hps3,hnt3⟩:=hS2.rel.has _ _ (ay hM1);have hρ2:E2.ρ ct=w.heap.size:=(hS2.ext.ρ ct (.inr rfl)).trans hρ1;have hen:=run_endLoop (P:=P) (l:=w.heap.size) (by rw[←hρ2];exact hob) (by cases s<;>first|exact absurd rfl hbusy|(intro h;cases h));refine⟨_,_,hen,?_⟩
  have hS3:=hS2.rel.write ct _ (.loop .exhausted pe fn1 tm1 ps1 a1 b1 dn1) hM1 (.loop {state:= .exhausted,pending:=Fe pe,fn:=fn3,tmps:=tmps3,params:=params3,assign:=ca3,body:=cb3,defers:=E2.ρ dn1}) hbd
   (w2.putObj w.heap.size (.loop {state:= .exhausted,pending:=Fe pe,fn:=fn3,tmps:=tmps3,params:=params3,assign:=ca3,body:=cb3,defers:=E2.ρ dn1})) (by rw[hρ2];rfl) rfl rfl rfl
   ⟨fn3,tmps3,params3,ca3,cb3,rfl,htr3,hps3,hnt3⟩
  have hst:=Nd hpend;refine MP hpend ?_;have hR:=(hSR1.stp hS2 hG2).stp hS3 (.refl _ _);rw[←ha];refine hQ _ _ _ _ hst a _ ⟨E2,c2,(hS1.trans hS2).trans hS3,hG1.trans hG2,hR⟩
end
section
variable{P:Program}{Bd:List Deferred}{E E':dj}{F:RO}{M M':Mem}{c c':Nat→Prop}{ct ct' nt:Nat}{w w':World}{t t':T}{d d':List Nat}{a:Act}{rd:Option Nat}
theorem Fo{f:Kn→St→Rs}{k:Kn}{r:Rs}{e:Ex}{s':St}(h:lP f k r= .k e s'):(∃s1,r= .k .nrm s1∧f k s1= .k e s')∨(e≠ .nrm∧r= .k e s'):=by
 cases r with
 |f=>cases(show Rs.f= .k e s' from h)
 |k e1 s1=>
  cases e1 with
  |nrm=>exact .inl ⟨s1,rfl,h⟩
  |ret=>have h':Rs.k .ret s1= .k e s':=h;injection h' with h1 h2;subst h1 h2;exact .inr ⟨(fun h=>by cases h),rfl⟩
  |ext id=>have h':Rs.k (.ext id) s1= .k e s':=h;injection h' with h1 h2;subst h1 h2;exact .inr ⟨(fun h=>by cases h),rfl⟩
  |gto l=>have h':Rs.k (.gto l) s1= .k e s':=h;injection h' with h1 h2;subst h1 h2;exact .inr ⟨(fun h=>by cases h),rfl⟩
theorem u0{b:CC}{k:Kn}{r:Rs}{e:Ex}{s':St}(h:ir b k r= .k e s'):(∃s1,r= .k .nrm s1∧nM k (.loop b) s1= .k e s')∨(e≠ .nrm∧r= .k e s'):=by
 cases r with
 |f=>cases(show Rs.f= .k e s' from h)
 |k e1 s1=>
  cases e1 with
  |nrm=>exact .inl ⟨s1,rfl,h⟩
  |ret=>have h':Rs.k .ret s1= .k e s':=h;injection h' with h1 h2;subst h1 h2;exact .inr ⟨(fun h=>by cases h),rfl⟩
  |ext id=>have h':Rs.k (.ext id) s1= .k e s':=h;injection h' with h1 h2;subst h1 h2;exact .inr ⟨(fun h=>by cases h),rfl⟩
  |gto l=>have h':Rs.k (.gto l) s1= .k e s':=h;injection h' with h1 h2;subst h1 h2;exact .inr ⟨(fun h=>by cases h),rfl⟩
theorem qH{K:Act→World→Prop}{Q:Exit→Act→World→Prop}{e:Ex}(he:e≠ .nrm)(h:Q (rB e) a w):Exit.then K Q (rB e) a w:=by
 cases e with
 |nrm=>exact absurd rfl he
 |_=>exact h
theorem AP{id:Nat}{r:Rs}{e:Ex}{s':St}(h:fY id r= .k e s'):∃e1,r= .k e1 s'∧ ∀(Q:Exit→Act→World→Prop) (a:Act) (w:World),Q (rB e) a w→Exit.inBlock id Q (rB e1) a w:=by
 cases r with
 |f=>cases(show Rs.f= .k e s' from h)
 |k e1 s1=>
  cases e1 with
  |nrm=>have h':Rs.k .nrm s1= .k e s':=h;injection h' with h1 h2;subst h1 h2;exact⟨_,rfl,fun _ _ _ h=>h⟩
  |ret=>have h':Rs.k .ret s1= .k e s':=h;injection h' with h1 h2;subst h1 h2;exact⟨_,rfl,fun _ _ _ h=>h⟩
  |gto l=>have h':Rs.k (.gto l) s1= .k e s':=h;injection h' with h1 h2;subst h1 h2;exact⟨_,rfl,fun _ _ _ h=>h⟩
  |ext id'=>
   have h':Bool.rec (motive:=fun _=>Rs) (.k (.ext id') s1) (.k .nrm s1) (Nat.beq id' id)= .k e s':=h;rw[bb,bK]at h';split at h'
   ·rename_i hid;injection h' with h1 h2;subst h1 h2
    exact⟨_,rfl,fun Q a w h=>by simp only[rB,Exit.inBlock];rw[ae (aY hid)];exact h⟩
   ·rename_i hid;injection h' with h1 h2;subst h1 h2
    exact⟨_,rfl,fun Q a w h=>by simp only[rB,Exit.inBlock];rw[ab (by simpa using hid)];exact h⟩
def ch0(P:Program)(ex:y5)(m:Nat):Prop:=∀(rd:Option Nat) (fn:Nat) (F:RO) (cc tbl:CC) (t:T) (d:List Nat) (M:Mem) (ct:Nat) (e:Ex) (t':T) (d':List Nat) (M':Mem) (ct':Nat),
 ex rd fn F (.scope cc tbl) (.mk t d M ct)= .k e (.mk t' d' M' ct')→ ∀(nt:Nat) (body code:Code),Sim P nt code cc→aH1 P nt body tbl→ ∀{Bd:List Deferred} (E:dj) (c:Nat→Prop) (w:World) (a:Act),SR P Bd F rd nt E c w a t d M ct→
  ∀Q:Exit→Act→World→Prop,(∀a' w',Ol P Bd F rd nt E c w M ct t' d' M' ct' a' w'→Q (rB e) a' w')→ib (dl E rd) 0 P body Q m code a w
theorem rV{tbl:CC}{k:Kn}{r:Rs}{e:Ex}{s':St}(h:jI tbl k r= .k e s'):(∃l s1 cl,r= .k (.gto l) s1∧kO l tbl=some cl∧nM k (.scope cl tbl) s1= .k e s')∨((∀l,rB e≠ .goto l)∧r= .k e s'):=by
 cases r with
 |f=>cases(show Rs.f= .k e s' from h)
 |k e1 s1=>
  cases e1 with
  |gto l=>
   have h':tj tbl k s1 (kO l tbl)= .k e s':=h;cases hf:kO l tbl with
   |none=>rw[hf]at h';cases(show Rs.f= .k e s' from h')
   |some cl=>rw[hf]at h';exact .inl ⟨l,s1,cl,rfl,hf,h'⟩
  |nrm=>have h':Rs.k .nrm s1= .k e s':=h;injection h' with h1 h2;subst h1 h2;exact .inr ⟨(fun l h=>by cases h),rfl⟩
  |ret=>have h':Rs.k .ret s1= .k e s':=h;injection h' with h1 h2;subst h1 h2;exact .inr ⟨(fun l h=>by cases h),rfl⟩
  |ext id=>have h':Rs.k (.ext id) s1= .k e s':=h;injection h' with h1 h2;subst h1 h2;exact .inr ⟨(fun l h=>by cases h),rfl⟩
theorem wx{body:Code}{J:Code→Act→World→Prop}{Q:Exit→Act→World→Prop}{e:Exit}(he:∀l,e≠ .goto l)(h:Q e a w):dm body J Q e a w:=by
 cases e with
 |goto l=>exact absurd rfl (he l)
 |_=>exact h
theorem D8{f:Nat→Option CC}:∀{ls:List Nat} {tbl:CC},KF f ls=some tbl→ ∀l cl,kO l tbl=some cl→f l=some cl
 |[],tbl,h,l,cl,hf=>by
  obtain rfl:=ag h;cases hf
 |l'::ls,tbl,h,l,cl,hf=>by
  rw[KF]at h;split at h
  ·rename_i c t h1 h2;obtain rfl:=ag h;have hf':(bif Nat.beq l' l then some c else kO l t)=some cl:=hf;rw[bK]at hf';by_cases e:l'=l
   ·rw[af e,cond_true]at hf';obtain rfl:=ag hf';rw[←e];exact h1
   ·rw[ah e,cond_false]at hf';exact D8 h2 l cl hf'
  ·cases h
theorem Xx{Φ:Nat→Option CF}{ex:y5}(hΦ:fo P Φ)(hex:BF P ex){m:Nat}(hlp:cg6 P ex m)(hsc:ch0 P ex m)(hdr:∀rd fn F,bz5 P (.mk Φ ex rd fn F)):∀(j:Nat) (code:Code) (cc:CC),kM P nt j code=some cc→
 ∀(rd:Option Nat) (fn:Nat) (F:RO) (t:T) (d:List Nat) (M:Mem) (ct:Nat) (e:Ex) (t':T) (d':List Nat) (M':Mem) (ct':Nat),
 bh cc (.mk Φ ex rd fn F) (.mk t d M ct)= .k e (.mk t' d' M' ct')→ ∀{Bd:List Deferred} (E:dj) (c:Nat→Prop) (w:World) (a:Act),SR P Bd F rd nt E c w a t d M ct→
 ∀Q:Exit→Act→World→Prop,(∀a' w',Ol P Bd F rd nt E c w M ct t' d' M' ct' a' w'→Q (rB e) a' w')→code.wpIn (dl E rd) 0 P Q a w:=by
 intro j
 induction j with
 |zero=>intro code cc hc;cases hc
 |succ j ih=>
  intro code cc hc rd fn F t d M ct e t' d' M' ct' hx Bd E c w a h Q hQ;have hcall:=iL hΦ hex rd fn F;have hy:=xW (Φ:=Φ) hex rd fn F;unfold kM at hc;cases code with
  |skip=>
   obtain rfl:=ag hc;have hx':Rs.k .nrm (.mk t d M ct)= .k e (.mk t' d' M' ct'):=hx;injection hx' with h1 h2;injection h2 with e1 e2 e3 e4;subst h1 e1 e2 e3 e4
   exact wpIn_skip (hQ a w h.res)
  |label l=>
   obtain rfl:=ag hc;have hx':Rs.k .nrm (.mk t d M ct)= .k e (.mk t' d' M' ct'):=hx;injection hx' with h1 h2;injection h2 with e1 e2 e3 e4;subst h1 e1 e2 e3 e4
   exact wpIn_label (hQ a w h.res)
  |region id ops dr=>
   cases dr with
   |false=>
    obtain⟨cos,hcos,rfl⟩:=aX.1 hc;have hx':rU (dJ cos (.mk Φ ex rd fn F) (.mk t d M ct))= .k e (.mk t' d' M' ct'):=hx;cases hs:dJ cos (.mk Φ ex rd fn F) (.mk t d M ct)with
    |none=>rw[hs]at hx';cases(show Rs.f= .k e (.mk t' d' M' ct')from hx')
    |some s1=>
     rw[hs]at hx';have hx2:Rs.k .nrm s1= .k e (.mk t' d' M' ct'):=hx';injection hx2 with h1 h2;subst h1 h2
     refine wpIn_region ?_;have:=Fw (F:=F) (rd:=rd) (nt:=nt) hcall hy (ops:=ops) (Q:=Q) ops.toList cos 0 E c w a t M ct rfl hcos hs h hQ;rw[←List.range_eq_range']at this
     simpa using this
   |true=>
    dsimp only at hc;split at hc
    ·rename_i cos hcos;have hc':=ag hc;cases hd:yN ops cos with
     |dreg n l=>
      rw[hd]at hc';subst hc';exact hdr rd fn F F rd nt id ops cos hcos n l hd t d M ct e t' d' M' ct' hx E c w a h Q hQ
     |_=>
      exfalso;have hd':=hd;unfold yN Xj at hd';have hb:∀(b:Bool) (x y:CC),(bif b then x else y)=x∨(bif b then x else y)=y:=by intro b;cases b<;>simp
      rcases hb (CQ ops.toList (Region.before ops).toList ops.size (pA (Region.before ops).toList cos ops.size 0)) (.dreg ops.size (pA (Region.before ops).toList cos ops.size 0)) .bad with hh|hh
      ·rw[hh]at hd';cases hd'
      ·rw[hh]at hd';rw[hd]at hc';rw[←hd']at hc';subst hc';cases(show Rs.f= .k e (.mk t' d' M' ct')from hx)
    ·cases hc
  |seq x y=>
   dsimp only at hc;split at hc
   ·rename_i cx cy h1 h2;obtain rfl:=ag hc;have hx':lP (bh cy) (.mk Φ ex rd fn F) (bh cx (.mk Φ ex rd fn F) (.mk t d M ct))= .k e (.mk t' d' M' ct'):=hx;refine wpIn_seq ?_;rcases Fo hx' with⟨⟨t1,d1,M1,ct1⟩,hx1,hx2⟩|⟨hne,hx1⟩
    ·refine ih x cx h1 rd fn F t d M ct .nrm t1 d1 M1 ct1 hx1 E c w a h _ ?_;rintro a1 w1 ⟨E1,c1,hS,hG,hR⟩;show y.wpIn (dl E rd) 0 P Q a1 w1;rw[←gV hS.ext h.rd];exact ih y cy h2 rd fn F t1 d1 M1 ct1 e t' d' M' ct' hx2 E1 c1 w1 a1 hR Q fun a' w' hr=>hQ a' w' (hr.trans hS hG)
    ·exact ih x cx h1 rd fn F t d M ct e t' d' M' ct' hx1 E c w a h _ fun a' w' hr=>qH hne (hQ a' w' hr)
   ·cases hc
  |cond o x y=>
   dsimp only at hc;split at hc
   ·rename_i xo cx cy h0 h1 h2;obtain rfl:=ag hc;have hx':Fa (xo.ev t) Rs.f (fun b=>Bool.rec (motive:=fun _=>Rs) (bh cy (.mk Φ ex rd fn F) (.mk t d M ct)) (bh cx (.mk Φ ex rd fn F) (.mk t d M ct)) b)= .k e (.mk t' d' M' ct'):=hx;have ev:=h.cx.ev h0;cases hv:xo.ev t with
    |b v=>
     rw[hv]at hx' ev;have hx2:Bool.rec (motive:=fun _=>Rs) (bh cy (.mk Φ ex rd fn F) (.mk t d M ct)) (bh cx (.mk Φ ex rd fn F) (.mk t d M ct)) v= .k e (.mk t' d' M' ct'):=hx';cases v with
     |true=>exact wpIn_cond_true ev.1 (ih x cx h1 rd fn F t d M ct e t' d' M' ct' hx2 E c w a h Q hQ)
     |false=>exact wpIn_cond_false ev.1 (ih y cy h2 rd fn F t d M ct e t' d' M' ct' hx2 E c w a h Q hQ)
    |_=>rw[hv]at hx';cases(show Rs.f= .k e (.mk t' d' M' ct')from hx')
   ·cases hc
  |block id x=>
   obtain⟨cx,h1,rfl⟩:=aX.1 hc;have hx':fY id (bh cx (.mk Φ ex rd fn F) (.mk t d M ct))= .k e (.mk t' d' M' ct'):=hx;obtain⟨e1,hx1,hq⟩:=AP hx';exact wpIn_block (ih x cx h1 rd fn F t d M ct e1 t' d' M' ct' hx1 E c w a h _ fun a' w' hr=>hq Q a' w' (hQ a' w' hr))
  |loop x=>
   obtain⟨cx,h1,rfl⟩:=aX.1 hc;have hx':ir cx (.mk Φ ex rd fn F) (bh cx (.mk Φ ex rd fn F) (.mk t d M ct))= .k e (.mk t' d' M' ct'):=hx;refine wpIn_loop_rounds (m+1) ?_;rw[roundsIn_succ];rcases u0 hx' with⟨⟨t1,d1,M1,ct1⟩,hx1,hx2⟩|⟨hne,hx1⟩
   ·refine ih x cx h1 rd fn F t d M ct .nrm t1 d1 M1 ct1 hx1 E c w a h _ ?_;rintro a1 w1 ⟨E1,c1,hS,hG,hR⟩;show Code.roundsIn (dl E rd) 0 P x Q m a1 w1;rw[←gV hS.ext h.rd];have hx3:ex rd fn F (.loop cx) (.mk t1 d1 M1 ct1)= .k e (.mk t' d' M' ct'):=hx2;exact hlp rd fn F cx t1 d1 M1 ct1 e t' d' M' ct' hx3 nt x ⟨j,h1⟩ E1 c1 w1 a1 hR Q fun a' w' hr=>hQ a' w' (hr.trans hS hG)
   ·exact ih x cx h1 rd fn F t d M ct e t' d' M' ct' hx1 E c w a h _ fun a' w' hr=>qH hne (hQ a' w' hr)
  |rangeFunc g ps ca cb=>
   dsimp only at hc;split at hc
   ·cases hc
   ·rename_i hps0;have hps:∀p∈ps.toList,p<nt:=by
     intro p hp;have h1:(ps.toList.all fun p=>decide (p<nt))=true:=by simpa using hps0
     exact aY (List.all_eq_true.1 h1 p hp)
    split at hc
    ·rename_i xg asg body h0 h1 h2;obtain rfl:=ag hc;refine wpIn_rangeFunc fun fn' _=>?_;cases rd with
     |none=>
      have hx':og xg (ps.toList.map bJ) asg body (.mk Φ ex none fn F) t (ct::d) (M.set ct (.defs false)) (ct+1) ct= .k e (.mk t' d' M' ct'):=by
       have:(M.set ct (.defs false)).force (fun M=>fN (Nat.succ ct) fun c'=>og xg (ps.toList.map bJ) asg body (.mk Φ ex none fn F) t (ct::d) M c' ct)= .k e (.mk t' d' M' ct'):=hx
       rwa [Tr.force_eq,b9]at this
      obtain⟨E1,hS1,hE1,hρ1,hβ1,_⟩:=h.cx.rel.alloc (.defs false) (.deferred (some [])) ct 0 (fun b=>c b∨b=ct) (h.fr ct (ak _)) (.inr rfl) (fun _ h=> .inl h) trivial (w.alloc (.deferred (some []))) rfl rfl rfl rfl (fun _ _ _ _ _=>rfl);have hG1:jA c ct (fun b=>c b∨b=ct) (ct+1):=ja c ct;have hR1:=h.stp hS1 hG1
      have hR2:SR P Bd F none nt E1 (fun b=>c b∨b=ct) (w.alloc (.deferred (some []))) {a with defers:=[{target:= .collected w.heap.size,args:=#[]}]++a.defers} t (ct::d) (M.set ct (.defs false)) (ct+1):=
       ⟨⟨hR1.cx.rel,hR1.cx.glob,hR1.cx.big,hR1.cx.tr,hR1.cx.bt⟩,hR1.fr,by rw[List.map_cons,hρ1];exact congrArg (List.cons _) hR1.df,fun b hb=>by
         rcases bv.1 hb with rfl|hb
         ·exact .inr rfl
         ·exact hR1.dc b hb,hR1.sz,hR1.rd⟩
      have hf:dl E none=dl E1 none:=rfl;rw[hf];have hen:=run_enterLoop_outer (P:=P) (w:=w) fn' a.tmps ps ca cb;have hsz:(w.alloc (.deferred (some []))).heap.size=w.heap.size+1:=World.size_alloc _ _;rw[←hsz]at hen;refine Km hΦ hex h0 ⟨j,h1⟩ ⟨j,h2⟩ hps hx' (.inr rfl) hR2 hen (by rw[hρ1]) rfl ?_;intro t2 d2 M2 ct2 hs a' w' hr;injection hs with e1 e2 e3 e4;subst e1 e2 e3 e4
      exact hQ a' w' (hr.trans hS1 hG1)
     |some l=>
      have hx':Nc xg (ps.toList.map bJ) asg body (.mk Φ ex (some l) fn F) t d M ct (dR (M.get l))= .k e (.mk t' d' M' ct'):=hx;cases hl:dR (M.get l)with
      |f=>rw[hl]at hx';cases(show Rs.f= .k e (.mk t' d' M' ct')from hx')
      |k s pe fnl tml psl al bl dnl=>
       rw[hl]at hx';have hx2:og xg (ps.toList.map bJ) asg body (.mk Φ ex (some l) fn F) t d M ct dnl= .k e (.mk t' d' M' ct'):=hx';obtain⟨hcl,hbd,ob,hob,fn3,tmps3,params3,ca3,cb3,rfl,_⟩:=h.cx.rel.has _ _ (ay (fP hl));have hen:=run_enterLoop_inner (P:=P) hob fn' a.tmps ps ca cb;refine Km hΦ hex h0 ⟨j,h1⟩ ⟨j,h2⟩ hps hx2 hbd.2 h hen rfl ?_ ?_
       ·cases a;rfl
       ·intro t2 d2 M2 ct2 hs a' w' hr;injection hs with e1 e2 e3 e4;subst e1 e2 e3 e4
        exact hQ a' w' hr
    ·cases hc
  |exit id=>
   obtain rfl:=ag hc;have hx':Rs.k (.ext id) (.mk t d M ct)= .k e (.mk t' d' M' ct'):=hx;injection hx' with h1 h2;injection h2 with e1 e2 e3 e4;subst h1 e1 e2 e3 e4
   exact wpIn_exit (hQ a w h.res)
  |scope x=>
   dsimp only at hc;split at hc
   ·rename_i cx tbl h1 h2;obtain rfl:=ag hc;have htbl:aH1 P nt x tbl:=by
     intro l cl hl;obtain⟨rest,hr1,hr2⟩:=bk.1 (D8 h2 l cl hl);exact⟨rest,hr1,j,hr2⟩
    have hx':jI tbl (.mk Φ ex rd fn F) (bh cx (.mk Φ ex rd fn F) (.mk t d M ct))= .k e (.mk t' d' M' ct'):=hx;refine Gg (m+1) ?_;show x.wpIn (dl E rd) 0 P (dm x (ib (dl E rd) 0 P x Q m) Q) a w;rcases rV hx' with⟨l,⟨t1,d1,M1,ct1⟩,cl,hx1,hfl,hx2⟩|⟨hne,hx1⟩
    ·refine ih x cx h1 rd fn F t d M ct (.gto l) t1 d1 M1 ct1 hx1 E c w a h _ ?_;rintro a1 w1 ⟨E1,c1,hS,hG,hR⟩;obtain⟨rest,hr1,hr2⟩:=htbl l cl hfl;show dm x (ib (dl E rd) 0 P x Q m) Q (.goto l) a1 w1;unfold dm;dsimp only;rw[hr1];rw[←gV hS.ext h.rd];have hx3:ex rd fn F (.scope cl tbl) (.mk t1 d1 M1 ct1)= .k e (.mk t' d' M' ct'):=hx2;exact hsc rd fn F cl tbl t1 d1 M1 ct1 e t' d' M' ct' hx3 nt x rest hr2 htbl E1 c1 w1 a1 hR Q fun a' w' hr=>hQ a' w' (hr.trans hS hG)
    ·exact ih x cx h1 rd fn F t d M ct e t' d' M' ct' hx1 E c w a h _ fun a' w' hr=>wx hne (hQ a' w' hr)
   ·cases hc
  |goto l=>
   obtain rfl:=ag hc;have hx':Rs.k (.gto l) (.mk t d M ct)= .k e (.mk t' d' M' ct'):=hx;injection hx' with h1 h2;injection h2 with e1 e2 e3 e4;subst h1 e1 e2 e3 e4
   exact wpIn_goto (hQ a w h.res)
  |ret=>
   obtain rfl:=ag hc;have hx':Rs.k .ret (.mk t d M ct)= .k e (.mk t' d' M' ct'):=hx;injection hx' with h1 h2;injection h2 with e1 e2 e3 e4;subst h1 e1 e2 e3 e4
   exact wpIn_ret (hQ a w h.res)
  |refuse s=>
   obtain rfl:=ag hc;cases(show Rs.f= .k e (.mk t' d' M' ct')from hx)
theorem ar6{Φ:Nat→Option CF}(hΦ:fo P Φ)(hdr:∀ex,BF P ex→ ∀rd fn F,bz5 P (.mk Φ ex rd fn F)):∀n,BF P (exec Φ n)∧cg6 P (exec Φ n) n∧ch0 P (exec Φ n) n:=by
 intro n
 induction n with
 |zero=>
  refine⟨?_,?_,?_⟩
  ·intro rd fn F cc t d M ct e t' d' M' ct' hx;cases(show Rs.f= .k e (.mk t' d' M' ct')from hx)
  ·intro rd fn F cc t d M ct e t' d' M' ct' hx;cases(show Rs.f= .k e (.mk t' d' M' ct')from hx)
  ·intro rd fn F cc tbl t d M ct e t' d' M' ct' hx;cases(show Rs.f= .k e (.mk t' d' M' ct')from hx)
 |succ n ih=>
  have key:=fun nt=>Xx (nt:=nt) hΦ ih.1 ih.2.1 ih.2.2 (hdr _ ih.1);refine⟨?_,?_,?_⟩
  ·intro rd fn F cc t d M ct e t' d' M' ct' hx nt code hsim;obtain⟨j,hj⟩:=hsim;exact key nt j code cc hj rd fn F t d M ct e t' d' M' ct' hx
  ·intro rd fn F b t d M ct e t' d' M' ct' hx nt code hsim Bd E c w a h Q hQ;obtain⟨j,hj⟩:=hsim;have hx':ir b (.mk Φ (exec Φ n) rd fn F) (bh b (.mk Φ (exec Φ n) rd fn F) (.mk t d M ct))= .k e (.mk t' d' M' ct'):=hx;rw[roundsIn_succ];rcases u0 hx' with⟨⟨t1,d1,M1,ct1⟩,hx1,hx2⟩|⟨hne,hx1⟩
   ·refine key nt j code b hj rd fn F t d M ct .nrm t1 d1 M1 ct1 hx1 E c w a h _ ?_;rintro a1 w1 ⟨E1,c1,hS,hG,hR⟩;show Code.roundsIn (dl E rd) 0 P code Q n a1 w1;rw[←gV hS.ext h.rd];have hx3:exec Φ n rd fn F (.loop b) (.mk t1 d1 M1 ct1)= .k e (.mk t' d' M' ct'):=hx2;exact ih.2.1 rd fn F b t1 d1 M1 ct1 e t' d' M' ct' hx3 nt code ⟨j,hj⟩ E1 c1 w1 a1 hR Q fun a' w' hr=>hQ a' w' (hr.trans hS hG)
   ·exact key nt j code b hj rd fn F t d M ct e t' d' M' ct' hx1 E c w a h _ fun a' w' hr=>qH hne (hQ a' w' hr)
  ·intro rd fn F cc tbl t d M ct e t' d' M' ct' hx nt body code hsim htbl Bd E c w a h Q hQ;obtain⟨j,hj⟩:=hsim;have hx':jI tbl (.mk Φ (exec Φ n) rd fn F) (bh cc (.mk Φ (exec Φ n) rd fn F) (.mk t d M ct))= .k e (.mk t' d' M' ct'):=hx;show code.wpIn (dl E rd) 0 P (dm body (ib (dl E rd) 0 P body Q n) Q) a w;rcases rV hx' with⟨l,⟨t1,d1,M1,ct1⟩,cl,hx1,hfl,hx2⟩|⟨hne,hx1⟩
   ·refine key nt j code cc hj rd fn F t d M ct (.gto l) t1 d1 M1 ct1 hx1 E c w a h _ ?_;rintro a1 w1 ⟨E1,c1,hS,hG,hR⟩;obtain⟨rest,hr1,hr2⟩:=htbl l cl hfl;show dm body (ib (dl E rd) 0 P body Q n) Q (.goto l) a1 w1;unfold dm;dsimp only;rw[hr1];rw[←gV hS.ext h.rd];have hx3:exec Φ n rd fn F (.scope cl tbl) (.mk t1 d1 M1 ct1)= .k e (.mk t' d' M' ct'):=hx2;exact ih.2.2 rd fn F cl tbl t1 d1 M1 ct1 e t' d' M' ct' hx3 nt body rest hr2 htbl E1 c1 w1 a1 hR Q fun a' w' hr=>hQ a' w' (hr.trans hS hG)
   ·exact key nt j code cc hj rd fn F t d M ct e t' d' M' ct' hx1 E c w a h _ fun a' w' hr=>wx hne (hQ a' w' hr)
end
def aV(ps:List aM)(t t':T):Prop:=∀p∈ps,cS t' p=cS t p
section
variable{t t':T}
theorem aV.l{a b:List aM}(h:aV (a++b) t t'):aV a t t':=fun p hp=>h p (List.mem_append_left _ hp)
theorem aV.r{a b:List aM}(h:aV (a++b) t t'):aV b t t':=fun p hp=>h p (List.mem_append_right _ hp)
theorem aV.ev{x:X}(h:aV x.ps t t'):x.ev t'=x.ev t:=by
 cases x with
 |t p=>exact h p (by simp[X.ps])
 |c v=>rfl
theorem aV.evs{xs:List X}(h:aV (psL xs) t t'):Ev.evs xs t'=Ev.evs xs t:=by
 induction xs with
 |nil=>rfl
 |cons x xs ih=>
  show x.ev t'::Ev.evs xs t'=x.ev t::Ev.evs xs t;rw[h.l.ev,ih h.r]
theorem aV.optN{o:Option X}(h:aV (psO o) t t')(d:Nat):Ev.optN t' d o=Ev.optN t d o:=by
 cases o with
 |none=>rfl
 |some x=>
  show sF (x.ev t')=sF (x.ev t);rw[aV.ev h]
theorem aV.optNN{o:Option X}(h:aV (psO o) t t'):Ev.optNN t' o=Ev.optNN t o:=by
 cases o with
 |none=>rfl
 |some x=>
  have h':aV x.ps t t':=h;simp only[Ev.optNN];rw[h'.ev]
theorem aV.minAll{xs:List X}(h:aV (psL xs) t t')(mx:Bool):∀v,Ev.minAll mx t' v xs=Ev.minAll mx t v xs:=by
 induction xs with
 |nil=>intro v;rfl
 |cons x xs ih=>
  intro v;simp only[Ev.minAll];rw[h.l.ev];cases F6 mx v (x.ev t)with
  |none=>rfl
  |some v'=>exact ih h.r v'
theorem aV.fillParts{ps:List (Nat×Nat×X)}(h:aV (psP ps) t t'):∀cs,Ev.fillParts t' cs ps=Ev.fillParts t cs ps:=by
 induction ps with
 |nil=>intro v;rfl
 |cons x xs ih=>
  obtain⟨o,n,x⟩:=x;intro cs;simp only[Ev.fillParts];have h1:aV x.ps t t':=h.l;have h2:aV (psP xs) t t':=h.r;rw[h1.ev];cases Nat.beq (flatten (x.ev t)).length n with
  |false=>rfl
  |true=>
   simp only[cond_true];cases iC cs o (flatten (x.ev t))with
   |none=>rfl
   |some cs'=>exact ih h2 cs'
theorem aV.fillP{ps:List (Nat×X)}(h:aV (aw2 ps) t t')(sz m:Nat):∀tt,Ev.fillP sz m t' ps tt=Ev.fillP sz m t ps tt:=by
 induction ps with
 |nil=>intro v;rfl
 |cons x xs ih=>
  obtain⟨o,x⟩:=x;intro tt;simp only[Ev.fillP];have h1:aV x.ps t t':=h.l;have h2:aV (aw2 xs) t t':=h.r;rw[h1.ev];cases Nat.beq (flatten (x.ev t)).length sz&&Nat.ble (Nat.add o sz) m&&bj (flatten (x.ev t))with
  |false=>rfl
  |true=>
   simp only[cond_true,Tr.force_eq];exact ih h2 _
theorem zu(F:RO)(M:Mem){o:QO}(h:aV o.ps t t'):dh o F M t'=dh o F M t:=by
 cases o with
 |mv x=>have h1:x.ev t'=x.ev t:=aV.ev h;show ax2 x F M t'=ax2 x F M t;unfold ax2;rw[h1]
 |pk c a b=>
  have h1:=aV.l h|>.ev;have h2:=(aV.r h).l.ev;have h3:=(aV.r h).r.ev;show N7 c a b F M t'=N7 c a b F M t;unfold N7;rw[h1,h2,h3]
 |ld1 x=>have h1:x.ev t'=x.ev t:=aV.ev h;show Kb x F M t'=Kb x F M t;unfold Kb;rw[h1]
 |ldn n x=>have h1:x.ev t'=x.ev t:=aV.ev h;show Kc n x F M t'=Kc n x F M t;unfold Kc;rw[h1]
 |nck x=>have h1:x.ev t'=x.ev t:=aV.ev h;show oe x F M t'=oe x F M t;unfold oe;rw[h1]
 |bi op x y=>have h1:=aV.l h|>.ev;have h2:=aV.r h|>.ev;show CD op x y F M t'=CD op x y F M t;unfold CD;rw[h1,h2]
 |eq neg sh lit x y=>have h1:=aV.l h|>.ev;have h2:=aV.r h|>.ev;show aw6 neg sh lit x y F M t'=aw6 neg sh lit x y F M t;unfold aw6;rw[h1,h2]
 |un op x=>have h1:x.ev t'=x.ev t:=aV.ev h;show ax5 op x F M t'=ax5 op x F M t;unfold ax5;rw[h1]
 |ci k x=>have h1:x.ev t'=x.ev t:=aV.ev h;show aw5 k x F M t'=aw5 k x F M t;unfold aw5;rw[h1]
 |bs x=>have h1:x.ev t'=x.ev t:=aV.ev h;show MV x F M t'=MV x F M t;unfold MV;rw[h1]
 |mki k x=>have h1:x.ev t'=x.ev t:=aV.ev h;show Kf k x F M t'=Kf k x F M t;unfold Kf;rw[h1]
 |mkf f a b=>have h1:=(aV.l h).evs;have h2:=(aV.r h).evs;show Ke f a b F M t'=Ke f a b F M t;unfold Ke;rw[h1,h2]
 |fa k x=>have h1:x.ev t'=x.ev t:=aV.ev h;show aw7 k x F M t'=aw7 k x F M t;unfold aw7;rw[h1]
 |fl1 k x=>have h1:x.ev t'=x.ev t:=aV.ev h;show K7 k x F M t'=K7 k x F M t;unfold K7;rw[h1]
 |fln k n x=>have h1:x.ev t'=x.ev t:=aV.ev h;show K8 k n x F M t'=K8 k n x F M t;unfold K8;rw[h1]
 |iaA l s x y=>have h1:=aV.l h|>.ev;have h2:=aV.r h|>.ev;show K9 l s x y F M t'=K9 l s x y F M t;unfold K9;rw[h1,h2]
 |iaS s x y=>have h1:=aV.l h|>.ev;have h2:=aV.r h|>.ev;show rT s x y F M t'=rT s x y F M t;unfold rT;rw[h1,h2]
 |ixA1 l s x y=>have h1:=aV.l h|>.ev;have h2:=aV.r h|>.ev;show AJ l s x y F M t'=AJ l s x y F M t;unfold AJ;rw[h1,h2]
 |ixAn l s x y=>have h1:=aV.l h|>.ev;have h2:=aV.r h|>.ev;show AK l s x y F M t'=AK l s x y F M t;unfold AK;rw[h1,h2]
 |ixS x y=>have h1:=aV.l h|>.ev;have h2:=aV.r h|>.ev;show Ka x y F M t'=Ka x y F M t;unfold Ka;rw[h1,h2]
 |slS x lo hi=>
  have h1:=aV.l h|>.ev;show xf x lo hi F M t'=xf x lo hi F M t;unfold xf;rw[h1];simp only[(aV.r h).l.optN,(aV.r h).r.optN]
 |slL s x lo hi mx=>
  have h1:=aV.l h|>.ev;show Kg s x lo hi mx F M t'=Kg s x lo hi mx F M t;unfold Kg;rw[h1,(aV.r h).l.optNN,(aV.r h).r.l.optNN,(aV.r h).r.r.optNN]
 |slA n s x lo hi mx=>
  have h1:=aV.l h|>.ev;show zr n s x lo hi mx F M t'=zr n s x lo hi mx F M t;unfold zr;rw[h1];simp only[(aV.r h).l.optN,(aV.r h).r.l.optN,(aV.r h).r.r.optN]
 |lk sh z ok x y=>rfl
 |ex i x=>have h1:x.ev t'=x.ev t:=aV.ev h;show wZ i x F M t'=wZ i x F M t;unfold wZ;rw[h1]
 |ln sh x=>have h1:x.ev t'=x.ev t:=aV.ev h;show ax0 sh x F M t'=ax0 sh x F M t;unfold ax0;rw[h1]
 |lnc n=>rfl
 |cp x=>have h1:x.ev t'=x.ev t:=aV.ev h;show wY x F M t'=wY x F M t;unfold wY;rw[h1]
 |mn mx x xs=>have h1:=aV.l h|>.ev;show ax1 mx x xs F M t'=ax1 mx x xs F M t;unfold ax1;rw[h1,(aV.r h).minAll]
 |bld z ps=>show K3 z ps F M t'=K3 z ps F M t;unfold K3;rw[aV.fillParts h]
 |ta w z ok x=>rfl
 |up x=>have h1:x.ev t'=x.ev t:=aV.ev h;show N8 x F M t'=N8 x F M t;unfold N8;rw[h1]
 |dn ty s x=>have h1:x.ev t'=x.ev t:=aV.ev h;show MY ty s x F M t'=MY ty s x F M t;unfold MY;rw[h1]
 |sd x=>have h1:x.ev t'=x.ev t:=aV.ev h;show xd x F M t'=xd x F M t;unfold xd;rw[h1]
 |xib x y=>have h1:=aV.l h|>.ev;have h2:=aV.r h|>.ev;show Kh x y F M t'=Kh x y F M t;unfold Kh;rw[h1,h2]
 |xibB x y=>rfl
 |xcmp x y=>rfl
 |sap n x=>rfl
 |xcn x y=>rfl
 |bad=>rfl
theorem Ly(b:Nat){o:AO}(h:aV o.ps t t'):lz o b t'=lz o b t:=by
 cases o with
 |al ty cs=>rfl
 |bx ty sz x=>have h1:x.ev t'=x.ev t:=aV.ev h;show Lt ty sz x b t'=Lt ty sz x b t;unfold Lt;rw[h1]
 |bsl ty n sz z ps=>show yG ty n sz z ps b t'=yG ty n sz z ps b t;unfold yG;rw[aV.fillP h]
 |mks ty sz by_ z l k=>rfl
 |mkm=>rfl
 |sb ty x=>have h1:x.ev t'=x.ev t:=aV.ev h;show af9 ty x b t'=af9 ty x b t;unfold af9;rw[h1]
 |nz ty x=>have h1:x.ev t'=x.ev t:=aV.ev h;show Lw ty x b t'=Lw ty x b t;unfold Lw;rw[h1]
 |rgs x=>have h1:x.ev t'=x.ev t:=aV.ev h;show GA x b t'=GA x b t;unfold GA;rw[h1]
theorem LU(k:Kn)(M:Mem)(c:Nat){o:EO}(h:aV o.ps t t'):iV o k M c t'=iV o k M c t:=by
 cases o with
 |call f as0=>have h1:=aV.evs h;show Bv f as0 k M c t'=Bv f as0 k M c t;unfold Bv;rw[h1]
 |cv f as0=>have h1:=aV.l h|>.ev;have h2:=(aV.r h).evs;show aD0 f as0 k M c t'=aD0 f as0 k M c t;unfold aD0;rw[h1,h2]
 |st n x y=>have h1:=aV.l h|>.ev;have h2:=aV.r h|>.ev;show aD1 n x y k M c t'=aD1 n x y k M c t;unfold aD1 cB5;rw[h1,h2]
 |app ty sz by_ x y=>have h1:=aV.l h|>.ev;have h2:=aV.r h|>.ev;show Ld ty sz by_ x y k M c t'=Ld ty sz by_ x y k M c t;unfold Ld bm1;rw[h1,h2]
 |cpy sz x y=>have h1:=aV.l h|>.ev;have h2:=aV.r h|>.ev;show Le sz x y k M c t'=Le sz x y k M c t;unfold Le C6;rw[h1,h2]
 |clr z x=>rfl
 |mu sh m k' v=>rfl
 |del sh m k'=>rfl
 |us ty x n=>have h1:=aV.l h|>.ev;have h2:=aV.r h|>.ev;show aD2 ty x n k M c t'=aD2 ty x n k M c t;unfold aD2 Xm;rw[h1,h2]
 |ms x=>rfl
 |nxs x=>have h1:x.ev t'=x.ev t:=aV.ev h;show Lf x k M c t'=Lf x k M c t;unfold Lf Jj;rw[h1]
 |rgm x=>rfl
 |inv tbl f as0=>rfl
 |mcl x=>rfl
 |ent x=>rfl
 |apz ty by_ x y=>rfl
 |nxm x=>rfl
theorem Bt{g:Option (aM×Bool)}(h:aV (gps g) t t'):wanted t' g=wanted t g:=by
 cases g with
 |none=>rfl
 |some pw=>
  obtain⟨p,want⟩:=pw;show iw want (cS t' p)=iw want (cS t p);rw[h p (by simp[gps])]
theorem lN:∀p q:aM,jy p q=true↔p=q
 | .h,.h=>by simp[jy]
 | .l p,.l q=>by simp[jy,lN p q]
 | .r p,.r q=>by simp[jy,lN p q]
 | .h,.l _=>by simp[jy]
 | .h,.r _=>by simp[jy]
 | .l _,.h=>by simp[jy]
 | .l _,.r _=>by simp[jy]
 | .r _,.h=>by simp[jy]
 | .r _,.l _=>by simp[jy]
theorem MS(p:aM)(l:List aM):wT p l=true↔p∈l:=by
 induction l with
 |nil=>simp[wT]
 |cons q r ih=>
  simp only[wT,bv];cases h:jy p q with
  |true=>simp[(lN p q).1 h]
  |false=>
   have:p≠q:=fun e=>by rw[(lN p q).2 e]at h;cases h
   simp[this,ih]
theorem aV.setT{ps:List aM}{dst:Option aM}(h:tN ps dst=false)(t:T)(v:V):aV ps t (Ev.setT t dst v):=by
 intro p hp
 cases dst with
 |none=>rfl
 |some q=>
  have hne:p≠q:=by
   rintro rfl;have:wT p ps=true:=(MS p ps).2 hp;rw[show tN ps (some p)=wT p ps from rfl,this]at h;cases h
  rw[lS];unfold cS;rw[Tr.getP_setP_ne q v p t hne]
theorem Ni{d1 d2:Option aM}(h:rv d1 d2=false)(t:T)(v1 v2:V):Ev.setT (Ev.setT t d1 v1) d2 v2=Ev.setT (Ev.setT t d2 v2) d1 v1:=by
 cases d1 with
 |none=>rfl
 |some p=>
  cases d2 with
  |none=>rfl
  |some q=>
   have hne:p≠q:=fun e=>by
    have:=(lN p q).2 e;rw[show rv (some p) (some q)=jy p q from rfl,this]at h;cases h
   simp only[lS];exact Tr.setP_comm p v1 q v2 t (Ne.symm hne)
end
structure SS where
 t:T
 m:Nat→Option bL
 ct:Nat
inductive LK where
 |skip
 |qv (v:V)
 |qr (v:V) (b:Nat)
 |al (v:V) (blk:bL)
 |ef (v:V) (M1:Mem) (F1:RO) (M':Mem) (ct ct':Nat)
structure iF where
 i:Nat
 mask:Nat
 co:CO
 k:LK
def CO.op:CO→OK
 | .mk _ op _=>op
def CO.guard:CO→Option (aM×Bool)
 | .mk _ _ g=>g
def LK.isEf:LK→Bool
 | .ef .. =>true
 |_=>false
def eK(M1 M':Mem)(m:Nat→Option bL)(b:Nat):Option bL:=
 if M1.get b=none∧m b≠none then m b else M'.get b
def kh(m:Nat→Option bL)(b:Nat)(blk:bL):Nat→Option bL:=fun x=>if x=b then some blk else m x
structure cg5(k:Kn)(F:RO)(o:EO)(v:V)(M1:Mem)(F1:RO)(M':Mem)(ct ct':Nat)(t:T)(m:Nat→Option bL):Prop where
 run:iV o (sY k F1) M1 ct t= .k v M' ct'
 sub:∀b blk,M1.get b=some blk→m b=some blk
 ro:∀b blk,be F1 b=some blk→(m b=some blk∧M1.get b=none)∨be F b=some blk
 new:∀b,(be F b).isSome→M'.get b=none
def Tn(k:Kn)(base:Nat)(F:RO)(l:iF)(s s':SS):Prop:=
 match l.k with
 | .skip=>wanted s.t l.co.guard=false∧s'=⟨setT s.t l.co.dst undef,s.m,s.ct⟩
 | .qv v=>wanted s.t l.co.guard=true∧ ∃o,l.co.op= .q o∧(dh o [] .e s.t).val=some v∧s'=⟨setT s.t l.co.dst v,s.m,s.ct⟩
 | .qr v b=>wanted s.t l.co.guard=true∧ ∃o blk,l.co.op= .q o∧(s.m b=some blk∨(s.m b=none∧be F b=some blk))∧(dh o [(b,blk)] .e s.t).val=some v∧s'=⟨setT s.t l.co.dst v,s.m,s.ct⟩
 | .al v blk=>wanted s.t l.co.guard=true∧ ∃o,l.co.op= .a o∧lz o (base+l.i) s.t=some (v,blk)∧s'=⟨setT s.t l.co.dst v,kh s.m (base+l.i) blk,s.ct⟩
 | .ef v M1 F1 M' ct ct'=>wanted s.t l.co.guard=true∧s.ct=ct∧ ∃o,l.co.op= .e o∧cg5 k F o v M1 F1 M' ct ct' s.t s.m∧s'=⟨setT s.t l.co.dst v,eK M1 M' s.m,ct'⟩
structure Gs(base:Nat)(x y:iF):Prop where
 ne:x.i≠y.i
 kx:x.k.isEf=false
 d1:tN y.co.ps x.co.dst=false
 d2:tN x.co.ps y.co.dst=false
 d3:rv x.co.dst y.co.dst=false
 rd:∀vx b v M1 F1 M' ct ct',x.k= .qr vx b→y.k= .ef v M1 F1 M' ct ct'→M1.get b=none
 al:∀vx blk v M1 F1 M' ct ct',x.k= .al vx blk→y.k= .ef v M1 F1 M' ct ct'→M1.get (base+x.i)=none∧be F1 (base+x.i)=none
 rd2:∀vx blk v b,x.k= .al vx blk→y.k= .qr v b→b≠base+x.i
 rd3:∀vx b v blk,x.k= .qr vx b→y.k= .al v blk→b≠base+y.i
section
variable{k:Kn}{base:Nat}{F:RO}{x y:iF}{s s1 s2:SS}
theorem CO.ps_eq(c:CO):c.ps=gps c.guard++c.op.ps:=by cases c;rfl
def iF.val(l:iF):V:=match l.k with
 | .skip=>undef
 | .qv v| .qr v _| .al v _=>v
 | .ef v .. =>v
def iF.mem(base:Nat)(l:iF)(m:Nat→Option bL):Nat→Option bL:=match l.k with
 | .al _ blk=>kh m (base+l.i) blk
 | .ef _ M1 _ M' _ _=>eK M1 M' m
 |_=>m
def iF.ctr(l:iF)(ct:Nat):Nat:=match l.k with
 | .ef _ _ _ _ _ ct'=>ct'
 |_=>ct
def O2(k:Kn)(base:Nat)(F:RO)(l:iF)(s:SS):Prop:=
 match l.k with
 | .skip=>wanted s.t l.co.guard=false
 | .qv v=>wanted s.t l.co.guard=true∧ ∃o,l.co.op= .q o∧(dh o [] .e s.t).val=some v
 | .qr v b=>wanted s.t l.co.guard=true∧ ∃o blk,l.co.op= .q o∧(s.m b=some blk∨(s.m b=none∧be F b=some blk))∧(dh o [(b,blk)] .e s.t).val=some v
 | .al v blk=>wanted s.t l.co.guard=true∧ ∃o,l.co.op= .a o∧lz o (base+l.i) s.t=some (v,blk)
 | .ef v M1 F1 M' ct ct'=>wanted s.t l.co.guard=true∧s.ct=ct∧ ∃o,l.co.op= .e o∧cg5 k F o v M1 F1 M' ct ct' s.t s.m
theorem pX:Tn k base F x s s1↔O2 k base F x s∧s1=⟨setT s.t x.co.dst x.val,x.mem base s.m,x.ctr s.ct⟩:=by
 unfold Tn O2 iF.val iF.mem iF.ctr
 cases x.k with
 |skip=>exact Iff.rfl
 |qv v=>
  constructor
  ·rintro⟨h1,o,h2,h3,h4⟩;exact⟨⟨h1,o,h2,h3⟩,h4⟩
  ·rintro⟨⟨h1,o,h2,h3⟩,h4⟩;exact⟨h1,o,h2,h3,h4⟩
 |qr v b=>
  constructor
  ·rintro⟨h1,o,blk,h2,h3,h4,h5⟩;exact⟨⟨h1,o,blk,h2,h3,h4⟩,h5⟩
  ·rintro⟨⟨h1,o,blk,h2,h3,h4⟩,h5⟩;exact⟨h1,o,blk,h2,h3,h4,h5⟩
 |al v blk=>
  constructor
  ·rintro⟨h1,o,h2,h3,h4⟩;exact⟨⟨h1,o,h2,h3⟩,h4⟩
  ·rintro⟨⟨h1,o,h2,h3⟩,h4⟩;exact⟨h1,o,h2,h3,h4⟩
 |ef v M1 F1 M' ct ct'=>
  constructor
  ·rintro⟨h1,h0,o,h2,h3,h4⟩;exact⟨⟨h1,h0,o,h2,h3⟩,h4⟩
  ·rintro⟨⟨h1,h0,o,h2,h3⟩,h4⟩;exact⟨h1,h0,o,h2,h3,h4⟩
def Gt(base:Nat)(F:RO)(l:iF)(m m':Nat→Option bL):Prop:=match l.k with
 | .qr _ b=>m' b=m b
 | .ef _ M1 F1 _ _ _=>(∀b,(M1.get b).isSome→m' b=m b)∧(∀b,(be F1 b).isSome→m' b=m b)
 |_=>True
theorem O2.move{t t':T}{m m':Nat→Option bL}{ct ct':Nat}(h:O2 k base F x ⟨t,m,ct⟩)(ha:aV x.co.ps t t')(hm:Gt base F x m m')(hc:x.k.isEf=true→ct'=ct):O2 k base F x ⟨t',m',ct'⟩:=by
 rw[CO.ps_eq]at ha
 have hw:=Bt ha.l
 have ho:=ha.r
 unfold O2 at h⊢
 unfold Gt at hm
 cases hk:x.k with
 |skip=>rw[hk]at h;exact hw.trans h
 |qv v=>
  rw[hk]at h;obtain⟨h1,o,h2,h3⟩:=h;rw[h2]at ho;exact⟨hw.trans h1,o,h2,by show(dh o [] .e t').val=_;rw[zu _ _ ho];exact h3⟩
 |qr v b=>
  rw[hk]at h hm;obtain⟨h1,o,blk,h2,h3,h4⟩:=h;rw[h2]at ho;have hm':m' b=m b:=hm;exact⟨hw.trans h1,o,blk,h2,by show m' b=_∨(m' b=_∧_);rw[hm'];exact h3,by show(dh o _ .e t').val=_;rw[zu _ _ ho];exact h4⟩
 |al v blk=>
  rw[hk]at h;obtain⟨h1,o,h2,h3⟩:=h;rw[h2]at ho;exact⟨hw.trans h1,o,h2,by show lz o _ t'=_;rw[Ly _ ho];exact h3⟩
 |ef v M1 F1 M' c1 c2=>
  rw[hk]at h hm hc;obtain⟨h1,h0,o,h2,h3⟩:=h;rw[h2]at ho;have hm':(∀b,(M1.get b).isSome→m' b=m b)∧(∀b,(be F1 b).isSome→m' b=m b):=hm;refine⟨hw.trans h1,(hc rfl).trans h0,o,h2,⟨?_,?_,?_,h3.new⟩⟩
  ·show iV o (sY k F1) M1 c1 t'=_;rw[LU _ _ _ ho];exact h3.run
  ·intro b blk hb;show m' b=_;rw[hm'.1 b (by rw[hb];rfl)];exact h3.sub b blk hb
  ·intro b blk hb;show(m' b=_∧_)∨_;rw[hm'.2 b (by rw[hb];rfl)];exact h3.ro b blk hb
theorem dw6(ha:Gs base x y)(h1:Tn k base F x s s1)(h2:Tn k base F y s1 s2):∃s1',Tn k base F y s s1'∧Tn k base F x s1' s2:=by
 obtain⟨t,m,ct⟩:=s
 rw[pX]at h1 h2
 obtain⟨c1,rfl⟩:=h1
 obtain⟨c2,rfl⟩:=h2
 have hctx:x.ctr ct=ct:=by
  have:=ha.kx;unfold iF.ctr;cases hx:x.k<;>first|rfl|(rw[hx]at this;cases this)
 refine⟨_,pX.2 ⟨?_,rfl⟩,pX.2 ⟨?_,?_⟩⟩
 ·
  refine O2.move (t':=t) (m':=m) (ct':=ct) c2 ?_ ?_ ?_
  ·intro p hp;exact(aV.setT ha.d1 t x.val p hp).symm
  ·unfold Gt;cases hy:y.k with
   |qr v b=>
    show m b=x.mem base m b;unfold iF.mem;cases hx:x.k with
    |al vx blk=>
     show m b=kh m (base+x.i) blk b;unfold kh;rw[ab (ha.rd2 vx blk v b hx hy)]
    |ef=>have:=ha.kx;rw[hx]at this;cases this
    |_=>rfl
   |ef v M1 F1 M' c3 c4=>
    unfold iF.mem;cases hx:x.k with
    |al vx blk=>
     have hal:=ha.al vx blk v M1 F1 M' c3 c4 hx hy;constructor
     ·intro b hb;show m b=kh m (base+x.i) blk b;unfold kh;rw[ab];rintro rfl;rw[hal.1]at hb;cases hb
     ·intro b hb;show m b=kh m (base+x.i) blk b;unfold kh;rw[ab];rintro rfl;rw[hal.2]at hb;cases hb
    |ef=>have:=ha.kx;rw[hx]at this;cases this
    |_=>exact⟨fun _ _=>rfl,fun _ _=>rfl⟩
   |_=>trivial
  ·intro _;exact hctx.symm
 ·
  refine O2.move (t:=t) (m:=m) (ct:=ct) c1 (aV.setT ha.d2 t y.val) ?_ (fun h=>by rw[ha.kx]at h;cases h);unfold Gt;cases hx:x.k with
  |qr v b=>
   show y.mem base m b=m b;unfold iF.mem;cases hy:y.k with
   |al vy blk=>
    show kh m (base+y.i) blk b=m b;unfold kh;rw[ab (ha.rd3 v b vy blk hx hy)]
   |ef vy M1 F1 M' c3 c4=>
    have hrd:=ha.rd v b vy M1 F1 M' c3 c4 hx hy;show eK M1 M' m b=m b;unfold eK;split
    ·rfl
    ·rename_i hn;have hmb:m b=none:=by
      cases hb:m b with
      |none=>rfl
      |some _=>exact absurd ⟨hrd,by rw[hb];exact(fun h=>by cases h)⟩ hn
     have hF:(be F b).isSome:=by
      unfold O2 at c1;rw[hx]at c1;obtain⟨_,o,blk,_,h3,_⟩:=c1;rcases h3 with h3|h3
      ·have h3':m b=some blk:=h3;rw[hmb]at h3';cases h3'
      ·rw[h3.2];rfl
     have hE:M'.get b=none:=by
      unfold O2 at c2;rw[hy]at c2;obtain⟨_,_,o,_,h3⟩:=c2;exact h3.new b hF
     rw[hmb,hE]
   |_=>rfl
  |ef=>have:=ha.kx;rw[hx]at this;cases this
  |_=>trivial
 ·have e1:setT (setT t x.co.dst x.val) y.co.dst y.val=setT (setT t y.co.dst y.val) x.co.dst x.val:=Ni ha.d3 t x.val y.val;have e2:y.mem base (x.mem base m)=x.mem base (y.mem base m):=by
   unfold iF.mem;cases hx:x.k with
   |al vx blk=>
    cases hy:y.k with
    |al vy blk'=>
     have hne:base+x.i≠base+y.i:=fun e=>ha.ne (by omega)
     funext b
     show kh (kh m (base+x.i) blk) (base+y.i) blk' b=kh (kh m (base+y.i) blk') (base+x.i) blk b;unfold kh;by_cases e:b=base+x.i
     ·rw[ae e,ab (by rw[e];exact hne),ae e]
     ·rw[ab e,ab e]
    |ef vy M1 F1 M' c3 c4=>
     have hal:=(ha.al vx blk vy M1 F1 M' c3 c4 hx hy).1
     funext b
     show eK M1 M' (kh m (base+x.i) blk) b=kh (eK M1 M' m) (base+x.i) blk b;unfold eK kh;by_cases e:b=base+x.i
     ·rw[ae e,ae e,ae ⟨by rw[e];exact hal,fun h=>by cases h⟩]
     ·rw[ab e,ab e]
    |_=>rfl
   |ef=>have:=ha.kx;rw[hx]at this;cases this
   |_=>rfl
  have e3:y.ctr (x.ctr ct)=x.ctr (y.ctr ct):=by
   have hc:∀n,x.ctr n=n:=by
    intro n;have:=ha.kx;unfold iF.ctr;cases hx:x.k<;>first|rfl|(rw[hx]at this;cases this)
   rw[hc,hc]
  show SS.mk _ _ _=SS.mk _ _ _;rw[e1,e2,e3]
def tD(k:Kn)(base:Nat)(F:RO):List iF→SS→SS→Prop
 |[],s,s'=>s=s'
 |l::r,s,s'=>∃s1,Tn k base F l s s1∧tD k base F r s1 s'
theorem tD.move{l2:List iF}{y:iF}{s':SS}:∀(l1:List iF) (s:SS),(∀x∈l1,Gs base x y)→tD k base F (l1++y::l2) s s'→ ∃s1,Tn k base F y s s1∧tD k base F (l1++l2) s1 s'
 |[],s,_,h=>h
 |x::l1,s,ha,h=>by
  obtain⟨s1,h1,h2⟩:=h;obtain⟨s2,h3,h4⟩:=tD.move l1 s1 (fun z hz=>ha z (bN _ hz)) h2;obtain⟨s3,h5,h6⟩:=dw6 (ha x (ck ..)) h1 h3;exact⟨s3,h5,s2,h6,h4⟩
end
def ip:List (Nat×Nat×bL)→Nat→Option bL
 |[],_=>none
 |(_,b,blk)::r,x=>if x=b then some blk else ip r x
theorem lL{p:List (Nat×Nat×bL)}{b:Nat}{blk:bL}(h:ip p b=some blk):∃i,(i,b,blk)∈p:=by
 induction p with
 |nil=>cases h
 |cons q r ih=>
  obtain⟨i,b',blk'⟩:=q;unfold ip at h;split at h
  ·rename_i e;subst e;obtain rfl:=ag h;exact⟨i,by simp⟩
  ·obtain⟨j,hj⟩:=ih h;exact⟨j,bN _ hj⟩
theorem MR{p:List (Nat×Nat×bL)}{b:Nat}(h:ip p b=none):∀i blk,(i,b,blk)∉p:=by
 induction p with
 |nil=>intro i blk hm;cases hm
 |cons q r ih=>
  obtain⟨i',b',blk'⟩:=q;unfold ip at h;split at h
  ·cases h
  ·rename_i e;intro i blk hm;rcases bv.1 hm with hm|hm
   ·injection hm with h1 h2;injection h2 with h2 h3;exact e h2
   ·exact ih h i blk hm
def ND(p:List (Nat×Nat×bL)):Prop:=p.Pairwise fun x y=>x.2.1≠y.2.1
theorem qA(mask:Nat):∀(p:List (Nat×Nat×bL)) (M:Mem),ND p→ ∃Mm,hU mask p M=(Mm,p.filter fun x=> !testBit mask x.1)∧
 ∀b,(ip (p.filter fun x=> !testBit mask x.1) b).or (Mm.get b)=(ip p b).or (M.get b)
 |[],M,_=>⟨M,rfl,fun _=>rfl⟩
 |(i,b,blk)::r,M,h=>by
  obtain⟨h1,h2⟩:=List.pairwise_cons.1 h;cases ht:testBit mask i with
  |true=>
   obtain⟨Mm,hm,hg⟩:=qA mask r (M.set b blk) h2;refine⟨Mm,?_,?_⟩
   ·rw[hU,ht,cond_true,Tr.force_eq,hm];simp[ht]
   ·intro x;have e:((i,b,blk)::r).filter (fun x=> !testBit mask x.1)=r.filter fun x=> !testBit mask x.1:=by simp[ht]
    rw[e,hg x];simp only[ip];by_cases ex:x=b
    ·subst ex;rw[ae rfl];have hn:ip r x=none:=by
      cases hp:ip r x with
      |none=>rfl
      |some blk'=>obtain⟨j,hj⟩:=lL hp;exact absurd rfl (h1 (j,x,blk') hj)
     rw[hn,Tr.get_set,ae rfl];rfl
    ·rw[ab ex,Tr.get_set,ab ex]
  |false=>
   obtain⟨Mm,hm,hg⟩:=qA mask r M h2;refine⟨Mm,?_,?_⟩
   ·rw[hU,ht,cond_false,hm];simp[ht]
   ·intro x;have e:((i,b,blk)::r).filter (fun x=> !testBit mask x.1)=(i,b,blk)::r.filter fun x=> !testBit mask x.1:=by simp[ht]
    rw[e];simp only[ip];by_cases ex:x=b
    ·rw[ae ex,ae ex];rfl
    ·rw[ab ex,ab ex];exact hg x
def vM(l:List (Nat×bL))(b:Nat):Prop:=∃blk,(b,blk)∈l
structure bz7(mask:Nat)(reads:List (Nat×Nat))(F:RO)(M:Mem)(F1:RO)(M1:Mem)(news:List (Nat×bL)):Prop where
 ro:F1=news++F
 get:∀b,M1.get b=none∧vM news b∨M1.get b=M.get b∧ ¬vM news b
 was:∀b blk,(b,blk)∈news→M.get b=some blk
 rd:∀i b,(i,b)∈reads→testBit mask i=false→M1.get b=none
theorem jH(mask:Nat):∀(reads:List (Nat×Nat)) (F:RO) (M:Mem) (s:List (Nat×bL)),∃F1 M1 news,bO mask reads F M s= .mk F1 M1 (news++s)∧bz7 mask reads F M F1 M1 news
 |[],F,M,s=>⟨F,M,[],rfl,⟨rfl,fun b=> .inr ⟨rfl,fun⟨_,h⟩=>(by cases h)⟩,fun _ _ h=>(by cases h),fun _ _ h=>(by cases h)⟩⟩
 |(i,b)::r,F,M,s=>by
  cases ht:testBit mask i with
  |true=>
   obtain⟨F1,M1,news,hp,hk⟩:=jH mask r F M s;refine⟨F1,M1,news,by rw[bO,ht,cond_true];exact hp,hk.ro,hk.get,hk.was,?_⟩;intro i' b' hm hf;rcases bv.1 hm with hm|hm
   ·injection hm with h1 h2;rw[h1,ht]at hf;cases hf
   ·exact hk.rd i' b' hm hf
  |false=>
   cases hb:M.get b with
   |none=>
    obtain⟨F1,M1,news,hp,hk⟩:=jH mask r F M s;refine⟨F1,M1,news,by rw[bO,ht,cond_false];simp only[hb];exact hp,hk.ro,hk.get,hk.was,?_⟩;intro i' b' hm hf;rcases bv.1 hm with hm|hm
    ·injection hm with h1 h2
     rw[h2];rcases hk.get b with h|h
     ·exact h.1
     ·rw[h.1,hb]
    ·exact hk.rd i' b' hm hf
   |some blk=>
    obtain⟨F1,M1,news,hp,hk⟩:=jH mask r ((b,blk)::F) (M.del b) ((b,blk)::s);refine⟨F1,M1,news++[(b,blk)],?_,by rw[hk.ro];simp,?_,?_,?_⟩
    ·rw[bO,ht,cond_false];simp only[hb,Tr.force_eq];rw[hp];simp
    ·intro x;by_cases ex:x=b
     ·left;refine⟨?_,blk,by rw[ex];simp⟩;rcases hk.get x with h|h
      ·exact h.1
      ·rw[h.1,Tr.get_del,ae ex]
     ·rcases hk.get x with h|h
      ·exact .inl ⟨h.1,let⟨y,hy⟩:=h.2;⟨y,List.mem_append_left _ hy⟩⟩
      ·right;refine⟨by rw[h.1,Tr.get_del,ab ex],?_⟩;rintro⟨y,hy⟩;rcases List.mem_append.1 hy with hy|hy
       ·exact h.2 ⟨y,hy⟩
       ·simp at hy;exact ex hy.1
    ·intro x y hxy;rcases List.mem_append.1 hxy with hxy|hxy
     ·have:=hk.was x y hxy;rw[Tr.get_del]at this;split at this
      ·cases this
      ·exact this
     ·simp at hxy;rw[hxy.1,hxy.2];exact hb
    ·intro i' b' hm hf;rcases bv.1 hm with hm|hm
     ·injection hm with h1 h2
      rw[h2];rcases hk.get b with h|h
      ·exact h.1
      ·rw[h.1,Tr.get_del,ae rfl]
     ·exact hk.rd i' b' hm hf
theorem oA(f:Nat→Option bL):∀(l:List (Nat×bL)) (M:Mem),(∀b blk,(b,blk)∈l→f b=some blk)→ ∀b,(vM l b∧(bc l M).get b=f b)∨(¬vM l b∧(bc l M).get b=M.get b)
 |[],M,_,b=> .inr ⟨fun⟨_,h⟩=>(by cases h),rfl⟩
 |(x,blk)::r,M,h,b=>by
  rw[bc,Tr.force_eq];rcases oA f r (M.set x blk) (fun b' blk' hm=>h b' blk' (bN _ hm)) b with hh|hh
  ·exact .inl ⟨let⟨y,hy⟩:=hh.1;⟨y,bN _ hy⟩,hh.2⟩
  ·by_cases e:b=x
   ·left;refine⟨⟨blk,by rw[e];simp⟩,?_⟩;rw[hh.2,Tr.get_set,ae e,e,h x blk (by simp)]
   ·right;refine⟨?_,by rw[hh.2,Tr.get_set,ab e]⟩;rintro⟨y,hy⟩;rcases bv.1 hy with hy|hy
    ·injection hy with h1 h2;exact e h1
    ·exact hh.1 ⟨y,hy⟩
theorem mD{F:RO}{M:Mem}:∀(p:List (Nat×Nat×bL)),cU F M p=true→ ∀i b blk,(i,b,blk)∈p→look F M b=none
 |[],_,_,_,_,h=>by cases h
 |(j,b',blk')::r,hp,i,b,blk,hm=>by
  rw[cU]at hp;cases hl:look F M b' with
  |none=>
   rw[hl]at hp;simp only[Option.isNone_none,cond_true]at hp;rcases bv.1 hm with hm|hm
   ·injection hm with h1 h2;injection h2 with h2 h3;rw[h2];exact hl
   ·exact mD r hp i b blk hm
  |some y=>rw[hl]at hp;simp at hp
theorem mL{M:Mem}:∀(F:RO),ce M F=true→ ∀b blk,(b,blk)∈F→M.get b=none
 |[],_,_,_,h=>by cases h
 |(b',blk')::r,hp,b,blk,hm=>by
  rw[ce]at hp;cases hl:M.get b' with
  |none=>
   rw[hl]at hp;simp only[Option.isNone_none,cond_true]at hp;rcases bv.1 hm with hm|hm
   ·injection hm with h1 h2;rw[h1];exact hl
   ·exact mL r hp b blk hm
  |some y=>rw[hl]at hp;simp at hp
theorem rW{b:Nat}:∀(l:List (Nat×Nat)),cG b l=true→ ∀i b',(i,b')∈l→b'≠b
 |[],_,_,_,h=>by cases h
 |(j,x)::r,hp,i,b',hm=>by
  rw[cG,bK]at hp;by_cases e:x=b
  ·simp[e]at hp
  ·simp[e]at hp;rcases bv.1 hm with hm|hm
   ·injection hm with h1 h2;rw[h2];exact e
   ·exact rW r hp i b' hm
theorem dq(h:Nat×bL)(F:RO)(k:Nat):be (h::F) k=if h.1=k then some h.2 else be F k:=by
 show Bool.rec (motive:=fun _=>Option bL) (be F k) (some h.2) (Nat.beq h.1 k)=_
 rw[bb,bK]
 by_cases e:h.1=k<;>simp[e]
theorem Nf{F:RO}{b:Nat}{blk:bL}(h:be F b=some blk):(b,blk)∈F:=by
 induction F with
 |nil=>cases h
 |cons p r ih=>
  rw[dq]at h;split at h
  ·rename_i e;obtain rfl:=ag h;rw[←e];simp
  ·exact bN _ (ih h)
theorem AQ{F G:RO}{b:Nat}{blk:bL}(h:be (F++G) b=some blk):(b,blk)∈F∨be G b=some blk:=by
 induction F with
 |nil=>exact .inr h
 |cons p r ih=>
  rw[List.cons_append,dq]at h;split at h
  ·rename_i e;obtain rfl:=ag h;left;rw[←e];simp
  ·rcases ih h with h'|h'
   ·exact .inl (bN _ h')
   ·exact .inr h'
theorem rX{F G:RO}{b:Nat}(h:be (F++G) b=none):be G b=none∧ ¬vM F b:=by
 induction F with
 |nil=>exact⟨h,fun⟨_,h⟩=>(by cases h)⟩
 |cons p r ih=>
  rw[List.cons_append,dq]at h;split at h
  ·cases h
  ·rename_i e;refine⟨(ih h).1,?_⟩;rintro⟨y,hy⟩;rcases bv.1 hy with hy|hy
   ·rw[←hy]at e;exact e rfl
   ·exact(ih h).2 ⟨y,hy⟩
theorem oR{F:RO}{M:Mem}{b:Nat}(h:look F M b=none):M.get b=none∧be F b=none:=by
 cases hm:M.get b with
 |none=>rw[aQ hm]at h;exact⟨rfl,h⟩
 |some x=>rw[ay hm]at h;cases h
theorem Az{F:RO}{M:Mem}{b:Nat}(h1:M.get b=none)(h2:be F b=none):look F M b=none:=by
 rw[aQ h1,h2]
theorem l7:∀(p:List (Nat×Nat×bL)) (M:Mem),ND p→ ∀b,(dQ p M).get b=(ip p b).or (M.get b)
 |[],M,_,b=>rfl
 |(i,x,blk)::r,M,h,b=>by
  obtain⟨h1,h2⟩:=List.pairwise_cons.1 h;rw[dQ,Tr.force_eq,l7 r _ h2,ip];by_cases e:b=x
  ·rw[ae e];have hn:ip r b=none:=by
    cases hp:ip r b with
    |none=>rfl
    |some blk'=>obtain⟨j,hj⟩:=lL hp;exact absurd e.symm (h1 (j,b,blk') hj)
   rw[hn,Tr.get_set,ae e];rfl
  ·rw[ab e,Tr.get_set,ab e]
theorem ud{a b x:Nat}(h:Nat.lor a b=b)(hx:testBit a x=true):testBit b x=true:=by
 have key:∀m i,testBit m i=Nat.testBit m i:=by
  intro m i;show Nat.beq (m/2^i%2) 1=Nat.testBit m i;rw[bK,Nat.testBit_eq_decide_div_mod_eq]
 rw[key]at hx⊢
 have:(a|||b)=b:=h
 rw[←this,Nat.testBit_or,hx];rfl
end
end Go.Proofs.YtcnblipfcihcpaaGreatDoor.Ev
