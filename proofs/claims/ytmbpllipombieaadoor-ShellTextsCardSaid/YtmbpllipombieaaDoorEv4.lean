/- What is proved here: pieces of the evaluator's soundness: if the evaluator comes to a value, the model's run comes to it, for every world and tape; no conditions beyond the hypotheses of each theorem. -/
import Derived.Test.YtmbpllipombieaaDoorEv3
import GoSem.ClaimChange
import Derived.Stop.LaidErr
set_option linter.unusedSimpArgs false
set_option linter.unusedVariables false
set_option linter.defProp false
set_option maxRecDepth 100000
namespace Go.Proofs.YtmbpllipombieaaDoor.Ev
open Go Go.RowKit Go.ChangeShapes
noncomputable section
inductive Ty where
 |bool|int (k:IntKind)|str|sl (e:Ty)|nil|cons (a b:Ty)
def Ty.D:Ty→Type
 | .bool=>Bool
 | .int _=>Int
 | .str=>List UInt8
 | .sl e=>List e.D
 | .nil=>Unit
 | .cons a b=>a.D×b.D
def Ty.size:Ty→Nat
 | .nil=>0
 | .cons a b=>a.size+b.size
 |_=>1
def Ty.hasSl:Ty→Bool
 | .sl _=>true
 | .cons a b=>a.hasSl||b.hasSl
 |_=>false
def Ty.deep:Ty→Bool
 | .sl e=>e.hasSl
 | .cons a b=>a.deep||b.deep
 |_=>false
def Rp(F:RO)(M:Mem)(c:Nat):(t:Ty)→List V→t.D→Prop
 | .bool,vs,x=>vs=[.b x]
 | .int k,vs,n=>(fun z:Int=>vs=[.i k z]∧k.min≤z∧z≤k.max) n
 | .str,vs,x=>(fun l:List UInt8=>vs=[sV l]∧l.length≤Go.maxLen) x
 | .sl e,vs,x=>(fun l:List e.D=>∃v es,vs=[v]∧cA F M c e.size v es∧l.length≤Go.maxLen∧es.length=l.length∧ ∀i (h:i<es.length) (h':i<l.length),Rp F M c e es[i] l[i]) x
 | .nil,vs,_=>vs=[]
 | .cons a b,vs,x=>∃v1 v2,vs=v1++v2∧Rp F M c a v1 x.1∧Rp F M c b v2 x.2
theorem Rp.len{F:RO}{M:Mem}{c:Nat}:∀{t:Ty} {vs:List V} {x:t.D},Rp F M c t vs x→vs.length=t.size
 | .bool,vs,x,h=>by obtain rfl:vs=[.b x]:=h;rfl
 | .int k,vs,x,h=>by obtain⟨rfl,_⟩:=h;rfl
 | .str,vs,x,h=>by obtain⟨rfl,_⟩:=h;rfl
 | .sl e,vs,x,h=>by obtain⟨v,es,rfl,_⟩:=h;rfl
 | .nil,vs,x,h=>by obtain rfl:vs=[]:=h;rfl
 | .cons a b,vs,x,h=>by
   obtain⟨v1,v2,rfl,h1,h2⟩:=h;rw[aG,h1.len,h2.len];rfl
def Sz(B:Nat):(t:Ty)→t.D→Prop
 | .str,x=>(fun l:List UInt8=>l.length≤B) x
 | .sl e,x=>(fun l:List e.D=>l.length≤B∧ ∀y∈l,Sz B e y) x
 | .cons a b,x=>Sz B a x.1∧Sz B b x.2
 |_,_=>True
mutual
def rT(P:Program):Ty→TypeId→Bool
 | .bool,t=>match P.underlying t with|some .bool=>true|_=>false
 | .int k,t=>match P.underlying t with|some (.int k')=>decide (k'=k)|_=>false
 | .str,t=>match P.underlying t with|some .string=>true|_=>false
 | .sl e,t=>match P.underlying t with|some (.slice te)=>decide (P.cellsOf te=e.size∧0<P.bytesOf te)&&rT P e te|_=>false
 | .nil,_=>false
 | .cons a b,t=>match P.underlying t with
   |some (.struct fs)=>decide (P.cellsOf t=a.size+b.size)&&match fs.toList with
    |f::r=>decide (f.offset=0)&&(decide (P.cellsOf f.type=a.size)&&(rT P a f.type&&HB P b r a.size))
    |[]=>false
   |_=>false
def HB(P:Program):Ty→List Field→Nat→Bool
 | .nil,[],_=>true
 | .cons a b,f::r,o=>decide (f.offset=o)&&(decide (P.cellsOf f.type=a.size)&&(rT P a f.type&&HB P b r (o+a.size)))
 |_,_,_=>false
end
theorem eH{α β:Type}{f:α→Option β}:∀{l:List α} {r:List β},l.mapM f=some r→r.length=l.length∧ ∀i (h:i<l.length) (h':i<r.length),f l[i]=some r[i]
 |[],r,h=>by
  rw[List.mapM_nil]at h;obtain rfl:[]=r:=ae h;exact⟨rfl,fun i h=>by cases h⟩
 |a::l,r,h=>by
  rw[List.mapM_cons]at h;cases h1:f a with
  |none=>rw[h1]at h;cases h
  |some b=>
   rw[h1]at h;have h':(l.mapM f).bind (fun bs=>some (b::bs))=some r:=h;cases h2:l.mapM f with
   |none=>rw[h2]at h';cases h'
   |some bs=>
    rw[h2]at h';obtain rfl:b::bs=r:=ae h';obtain⟨h3,h4⟩:=eH h2;refine⟨by simp[h3],fun i hi hi'=>?_⟩;cases i with
    |zero=>exact h1
    |succ i=>exact h4 i (by simpa using hi) (by simpa using hi')
def HU(C:Nat):Value→Prop
 | .slice (some a) 0 0=>(a.spot=none∧a.block<C)∨zA a<C
 |_=>True
def zq(C:Nat)(cs:List Value)(vs:List V):Prop:=cs.map (AX C)=vs.map some
theorem zq.conc{C:Nat}:∀{cs:List Value} {vs:List V},zq C cs vs→aI E0 vs=cs∧fZ (· <C) vs
 |[],[],_=>⟨rfl,trivial⟩
 |[],_::_,h=>by cases h
 |_::_,[],h=>by cases h
 |c::cs,v::vs,h=>by
  have h':AX C c::cs.map (AX C)=some v::vs.map some:=h;injection h' with h1 h2
  obtain⟨a1,a2⟩:=zq.conc (cs:=cs) (vs:=vs) h2;obtain⟨b1,b2⟩:=ur h1;exact⟨by rw[aI,a1,b1],b2,a2⟩
theorem zq.append{C:Nat}{cs cs':List Value}{vs vs':List V}(h:zq C cs vs)(h':zq C cs' vs'):zq C (cs++cs') (vs++vs'):=by
 unfold zq at *
 rw[List.map_append,List.map_append,h,h']
theorem zq.len{C:Nat}{cs:List Value}{vs:List V}(h:zq C cs vs):cs.length=vs.length:=by
 have:=congrArg List.length h
 simpa using this
theorem zq.get{C:Nat}{cs:List Value}{vs:List V}(h:zq C cs vs)(i:Nat)(hi:i<cs.length):AX C cs[i]=vs[i]?:=by
 have:=congrArg (fun l:List (Option V)=>l[i]?) h
 simp only[List.getElem?_map]at this
 rw[List.getElem?_eq_getElem hi,List.getElem?_eq_getElem (by rw[←h.len];exact hi)]at this
 rw[List.getElem?_eq_getElem (by rw[←h.len];exact hi)]
 simpa using this
section
variable{H:Type}{enc:TypeId×Value→H}{P:Program}{W:World}{C:Nat}{sp:Nat→Bool}{held:Bool}
theorem ST{r o:Nat}{cs:List Value}{vs:List V}(h:zq C cs vs)(hc:∀i (hi:i<cs.length),W.cell? ⟨r,o+i,none⟩=some cs[i]):cZ (eB W C) .e r o vs:=by
 intro k hk
 have hk':k<cs.length:=by rw[h.len];exact hk
 have:=h.get k hk'
 rw[List.getElem?_eq_getElem hk]at this⊢
 exact HE (hc k hk') this
theorem wH{t:TypeId}{cs:List Value}{fuel:Nat}{r:DataW H×List MemPlace}(hu:P.underlying t=some .bool)(h:DataW.trod enc P W 0 sp held fuel t cs=some r):∃b,cs=[.bool b]:=by
 cases fuel with
 |zero=>cases h
 |succ fuel=>
  unfold DataW.trod at h;rw[hu]at h;split at h<;>first|(rename_i e;cases e;done)|cases h|skip
  all_goals simp_all
theorem AU{t:TypeId}{k:IntKind}{cs:List Value}{fuel:Nat}{r:DataW H×List MemPlace}(hu:P.underlying t=some (.int k))(h:DataW.trod enc P W 0 sp held fuel t cs=some r):∃n,cs=[.int k n]∧k.min≤n∧n≤k.max:=by
 cases fuel with
 |zero=>cases h
 |succ fuel=>
  unfold DataW.trod at h;rw[hu]at h;split at h<;>first|(rename_i e;cases e;done)|cases h|skip
  rename_i k0 k' n e;simp only[Option.some.injEq,TypeDesc.int.injEq]at e;subst e;split at h
  ·rename_i hk;obtain⟨rfl,hw⟩:=hk;have hw':(decide (k'.min≤n)&&decide (n≤k'.max))=true:=hw;simp only[aC,decide_eq_true_eq]at hw';exact⟨n,rfl,hw'⟩
  ·cases h
theorem AV{t:TypeId}{cs:List Value}{fuel:Nat}{r:DataW H×List MemPlace}(hu:P.underlying t=some .string)(h:DataW.trod enc P W 0 sp held fuel t cs=some r):∃s:ByteArray,cs=[.string s]∧s.data.toList.length≤Go.maxLen∧r.1= .lit (.string s.data.toList):=by
 cases fuel with
 |zero=>cases h
 |succ fuel=>
  unfold DataW.trod at h;rw[hu]at h;split at h<;>first|(rename_i e;cases e;done)|cases h|skip
  rename_i s e;split at h
  ·rename_i hk;injection h with h
   exact⟨s,rfl,by simpa using hk,by rw[←h]⟩
  ·cases h
def ET(P:Program)(B:Nat)(t:TypeId)(d:DataW H):Prop:=∀n∈d.weights P t,n≤B
theorem Fs{P:Program}{e:TypeId}{n:Nat}:∀{l:List (DataW H)} {d:DataW H},d∈l→n∈d.weights P e→n∈DataW.weightsAll P e l
 |[],_,h,_=>by cases h
 |x::l,d,h,hn=>by
  rw[DataW.weightsAll,List.mem_append];rcases bh.1 h with rfl|h
  ·exact .inl hn
  ·exact .inr (Fs h hn)
theorem Ai{P:Program}{n:Nat}:∀{ts:List TypeId} {l:List (DataW H)} {i:Nat} {t:TypeId} {d:DataW H},ts[i]?=some t→l[i]?=some d→n∈d.weights P t→n∈DataW.weightsEach P ts l
 |[],_,i,_,_,h,_,_=>by cases i<;>cases h
 |_::_,[],i,_,_,_,h,_=>by cases i<;>cases h
 |t::ts,d::l,0,_,_,h1,h2,hn=>by
  cases h1;cases h2;rw[DataW.weightsEach,List.mem_append];exact .inl hn
 |t::ts,d::l,i+1,_,_,h1,h2,hn=>by
  rw[DataW.weightsEach,List.mem_append];exact .inr (Ai (i:=i) h1 h2 hn)
theorem Gp{B:Nat}{t te:TypeId}{cs:List Value}{fuel:Nat}{r:DataW H×List MemPlace}(hu:P.underlying t=some (.slice te))(h:DataW.trod enc P W 0 sp held fuel t cs=some r):
 cs=[.slice none 0 0]∨ ∃a len cap fuel',cs=[.slice (some a) len cap]∧len≤cap∧cap≤Go.maxLen∧
  (∀i,i<len→ ∃es x,W.cells? 0 (a.add (i*P.cellsOf te)) (P.cellsOf te)=some es∧DataW.trod enc P W 0 sp held fuel' te es=some x∧(ET P B t r.1→ET P B te x.1))∧(ET P B t r.1→len*P.bytesOf te≤B)∧
  (sp a.block=true→0<cap→ ∃es,W.cells? 0 a (P.cellsOf te)=some es):=by
 cases fuel with
 |zero=>cases h
 |succ fuel=>
  unfold DataW.trod at h;rw[hu]at h;split at h<;>first|(rename_i e;cases e;done)|cases h|skip
  ·exact .inl rfl
  ·rename_i e0 a len cap e;simp only[Option.some.injEq,TypeDesc.slice.injEq]at e;subst e;simp only at h;split at h
   ·rename_i hk;obtain⟨_,h1,h2⟩:=hk;cases hm:(List.range len).mapM fun i=>(W.cells? 0 (a.add (i*P.cellsOf te)) (P.cellsOf te)).bind (DataW.trod enc P W 0 sp held fuel te)with
    |none=>rw[hm]at h;cases h
    |some elems=>
     obtain⟨hl,hget⟩:=eH hm;obtain⟨rest,hr⟩:∃rest,r.1= .slice (elems.map (·.1)) rest:=by
      rw[hm]at h;simp only[Option.bind_some]at h;rw[bn]at h;obtain⟨rs,_,h⟩:=h;exact⟨_,by rw[←h]⟩
     have hw:r.1.weights P t=((elems.map (·.1)).length+rest.length)*P.bytesOf te::(DataW.weightsAll P te (elems.map (·.1))++DataW.weightsAll P te rest):=by
      rw[hr,DataW.weights,hu]
     rw[List.length_range]at hl
     have hlen':ET P B t r.1→len*P.bytesOf te≤B:=fun hW=>by
      have:=hW _ (by rw[hw];exact bG ..);rw[List.length_map,hl]at this;exact bc (Nat.mul_le_mul (Nat.le_add_right _ _) (aj _)) this
     have hel:∀i,i<len→ ∃es x,W.cells? 0 (a.add (i*P.cellsOf te)) (P.cellsOf te)=some es∧DataW.trod enc P W 0 sp held fuel te es=some x∧(ET P B t r.1→ET P B te x.1):=fun i hi=>by
      have:=hget i (by simpa using hi) (by rw[hl];exact hi);simp only[List.getElem_range]at this;cases hc:W.cells? 0 (a.add (i*P.cellsOf te)) (P.cellsOf te)with
      |none=>rw[hc]at this;cases this
      |some es=>
       rw[hc]at this;refine⟨es,_,rfl,this,fun hW n hn=>hW n ?_⟩;rw[hw];exact bq _ (List.mem_append_left _ (Fs (List.mem_map.2 ⟨_,List.getElem_mem _,rfl⟩) hn))
     refine .inr ⟨a,len,cap,fuel,rfl,h1,h2,hel,hlen',fun hsp h0=>?_⟩;by_cases hlen:0<len
     ·obtain⟨es,_,he,_⟩:=hel 0 hlen;rw[Nat.zero_mul]at he;exact⟨es,by simpa [Addr.add]using he⟩
     ·rw[hm]at h;simp only[Option.bind_some,ac hsp]at h;cases hm2:(List.range (cap-len)).mapM fun j=>(W.cells? 0 (a.add ((len+j)*P.cellsOf te)) (P.cellsOf te)).bind (DataW.trod enc P W 0 sp held fuel te)with
      |none=>rw[hm2]at h;cases h
      |some rest=>
       obtain⟨g1,g2⟩:=eH hm2;rw[List.length_range]at g1;have:=g2 0 (by rw[List.length_range];omega) (by omega);simp only[List.getElem_range]at this;rw[show(len+0)*P.cellsOf te=0 by rw[show len=0 by omega];simp]at this;cases hc:W.cells? 0 (a.add 0) (P.cellsOf te)with
       |none=>rw[hc]at this;cases this
       |some es=>exact⟨es,by simpa [Addr.add]using hc⟩
   ·cases h
theorem Gq{B:Nat}{t:TypeId}{fs:Array Field}{cs:List Value}{fuel:Nat}{r:DataW H×List MemPlace}(hu:P.underlying t=some (.struct fs))(h:DataW.trod enc P W 0 sp held fuel t cs=some r):
 cs.length=P.cellsOf t∧ ∃fuel',∀f∈fs.toList,∃x,DataW.trod enc P W 0 sp held fuel' f.type ((cs.drop f.offset).take (P.cellsOf f.type))=some x∧(ET P B t r.1→ET P B f.type x.1):=by
 cases fuel with
 |zero=>cases h
 |succ fuel=>
  have key:(if cs.length=P.cellsOf t then(fs.toList.mapM fun f=>DataW.trod enc P W 0 sp held fuel f.type ((cs.drop f.offset).take (P.cellsOf f.type))).map fun xs=>(DataW.agg (xs.map (·.1)),xs.flatMap (·.2))else none)=some r:=by
   unfold DataW.trod at h;rw[hu]at h;split at h<;>first|(rename_i e;cases e;done)|cases h|skip
   ·rename_i e;simp only[Option.some.injEq,TypeDesc.struct.injEq]at e;subst e;exact h
   ·exact(‹∀fs_1:Array Field,some (TypeDesc.struct fs)=some (TypeDesc.struct fs_1)→False› fs rfl).elim
  split at key
  ·rename_i hk;refine⟨hk,fuel,fun f hf=>?_⟩;rw[bn]at key;obtain⟨xs,hm,hr⟩:=key;obtain⟨hl,hget⟩:=eH hm;obtain⟨i,hi,rfl⟩:=List.getElem_of_mem hf;refine⟨_,hget i hi (by rw[hl];exact hi),fun hW n hn=>hW n ?_⟩;rw[←hr,DataW.weights,hu];refine Ai (i:=i) (t:=fs.toList[i].type) (d:=(xs[i]'(by rw[hl];exact hi)).1) ?_ ?_ hn
   ·rw[List.getElem?_map,List.getElem?_eq_getElem hi];rfl
   ·rw[List.getElem?_map,List.getElem?_eq_getElem (by rw[hl];exact hi)];rfl
  ·cases key
theorem IE{a:Addr}{n c:Nat}(h1:a.spot=none)(h2:a.block<C):AX C (.slice (some a) n c)=some (.l a.block a.off n c):=by
 show(if a.spot=none∧a.block<C then some (V.l a.block a.off n c)else _)=_
 rw[ac ⟨h1,h2⟩]
theorem zN{a:Addr}{n:Nat}{cs:List Value}(hc:W.cells? 0 a n=some cs)(hn:0<n):a.spot=none∧a.block<W.heap.size:=by
 unfold World.cells? at hc
 rw[ac (ax _)]at hc
 obtain⟨h1,h2⟩:=eH hc
 rw[List.length_range]at h1
 have:=h2 0 (by rw[List.length_range];exact hn) (by omega)
 rw[List.getElem_range,show a.add 0=a from rfl]at this
 unfold World.cell? at this
 split at this
 ·rename_i hh;split at this
  ·cases this
  ·rename_i hs;refine⟨?_,(Array.getElem?_eq_some_iff.1 hh).1⟩;cases hsp:a.spot with
   |none=>rfl
   |some k=>rw[hsp]at hs;simp at hs
 ·cases this
theorem T9{sz:Nat}{a:Addr}{len cap:Nat}{Q:List Value→List V→Prop}(hs:a.spot=none)(hb:a.block<C)(hlc:len≤cap)
 (h:∀i,i<len→ ∃cs vs,W.cells? 0 (a.add (i*sz)) sz=some cs∧zq C cs vs∧Q cs vs):
 ∃es:List (List V),es.length=len∧cA (eB W C) .e C sz (.l a.block a.off len cap) es∧ ∀i (hi:i<es.length),∃cs,Q cs es[i]:=by
 obtain⟨b,o,sp⟩:=a
 obtain rfl:sp=none:=hs
 have hget:∀i,i<len→ ∃cs vs,zq C cs vs∧Q cs vs∧cs.length=sz∧ ∀k (hk:k<cs.length),W.cell? ⟨b,o+i*sz+k,none⟩=some cs[k]:=by
  intro i hi;obtain⟨cs,vs,h1,h2,h3⟩:=h i hi;rw[Addr.add_eq]at h1;unfold World.cells? at h1;rw[ac (ax _)]at h1;obtain⟨h4,h5⟩:=eH h1;rw[List.length_range]at h4;refine⟨cs,vs,h2,h3,h4,fun k hk=>?_⟩;have:=h5 k (by rw[List.length_range];omega) hk;rw[List.getElem_range,Addr.add_eq]at this;exact this
 have key:∀n,n≤len→ ∃es:List (List V),es.length=n∧(∀e∈es,e.length=sz)∧cZ (eB W C) .e b o es.flatten∧ ∀i (hi:i<es.length),∃cs,Q cs es[i]:=by
  intro n
  induction n with
  |zero=>intro _;exact⟨[],rfl,fun e he=>(by cases he),fun k hk=>(by simp at hk),fun i hi=>(by simp at hi)⟩
  |succ n ih=>
   intro hn;obtain⟨es,h1,h2,h3,h4⟩:=ih (by omega);obtain⟨cs,vs,g1,g2,g3,g4⟩:=hget n (by omega);have hvl:vs.length=sz:=by rw[←g1.len];exact g3
   have h2':∀e∈es++[vs],e.length=sz:=by
    intro e he;rw[List.mem_append,List.mem_singleton]at he;rcases he with he|rfl
    ·exact h2 e he
    ·exact hvl
   have hfl:es.flatten.length=n*sz:=by rw[eV h2,h1]
   refine⟨es++[vs],by simp[h1],h2',?_,fun i hi=>?_⟩
   ·intro k hk;rw[List.flatten_append]at hk⊢;simp only[List.flatten_cons,List.flatten_nil,bF,aG]at hk⊢;by_cases hk1:k<es.flatten.length
    ·rw[List.getElem?_append_left hk1];exact h3 k hk1
    ·rw[List.getElem?_append_right (by omega),hfl];have hr:=ST (o:=o+n*sz) g1 g4 (k-n*sz) (by omega);rw[←hr];congr 1;omega
   ·by_cases hi1:i<es.length
    ·rw[eu hi1];exact h4 i hi1
    ·rw[ej (by omega)];have:i-es.length=0:=by simp at hi;omega
     simp only[this,List.getElem_cons_zero];exact⟨cs,g2⟩
 obtain⟨es,h1,h2,h3,h4⟩:=key len (aj _)
 refine⟨es,h1,⟨h2,.inr ⟨b,o,.inl ⟨cap,by omega,by rw[h1]⟩,hb,h3⟩⟩,h4⟩
theorem yg{α:Type}{n:Nat}{Q:Nat→α→Prop}(h:∀i,i<n→ ∃x,Q i x):∃l:List α,l.length=n∧ ∀i (hi:i<l.length),Q i l[i]:=by
 induction n with
 |zero=>exact⟨[],rfl,fun i hi=>(by simp at hi)⟩
 |succ n ih=>
  obtain⟨l,h1,h2⟩:=ih fun i hi=>h i (by omega);obtain⟨x,hx⟩:=h n (by omega);refine⟨l++[x],by simp[h1],fun i hi=>?_⟩;by_cases hi1:i<l.length
  ·rw[eu hi1];exact h2 i hi1
  ·rw[ej (by omega)];have e:i=n:=by simp at hi;omega
   subst e;simp only[h1,Nat.sub_self,List.getElem_cons_zero];exact hx
theorem Ty.size_pos{P:Program}{ty:Ty}{t:TypeId}(h:rT P ty t=true):0<ty.size:=by
 induction ty generalizing t with
 |cons a b iha _=>
  rw[rT]at h;split at h
  ·simp only[aC]at h;obtain⟨_,h⟩:=h;split at h
   ·simp only[aC]at h;have:=iha h.2.2.1;show 0<a.size+b.size;omega
   ·cases h
  ·cases h
 |nil=>cases h
 |_=>exact Nat.one_pos
mutual
theorem sk{B:Nat}(hsp:∀b,sp b=true)(hC:W.heap.size≤C):∀(ty:Ty) (t:TypeId) (cs:List Value) (fuel:Nat) (r:DataW H×List MemPlace),rT P ty t=true→DataW.trod enc P W 0 sp held fuel t cs=some r→
 (ty.hasSl=true→ ∀v∈cs,HU C v)→(ty.deep=true→ ∀a x,W.cell? a=some x→HU C x)→ ∃vs x,zq C cs vs∧Rp (eB W C) .e C ty vs x∧(ET P B t r.1→Sz B ty x)
 | .bool,t,cs,fuel,r,hb,h,h1,h2=>by
   rw[rT]at hb;split at hb
   ·rename_i hu;obtain⟨b,rfl⟩:=wH hu h;exact⟨[.b b],b,rfl,rfl,fun _=>trivial⟩
   ·cases hb
 | .int k,t,cs,fuel,r,hb,h,h1,h2=>by
   rw[rT]at hb;split at hb
   ·rename_i k' hu;obtain rfl:=bT hb;obtain⟨n,rfl,hn⟩:=AU hu h;exact⟨[.i k' n],n,rfl,⟨rfl,hn⟩,fun _=>trivial⟩
   ·cases hb
 | .str,t,cs,fuel,r,hb,h,h1,h2=>by
   rw[rT]at hb;split at hb
   ·rename_i hu;obtain⟨s,rfl,hs,hr⟩:=AV hu h;refine⟨[sV s.data.toList],s.data.toList,rfl,⟨rfl,hs⟩,fun hW=>hW _ ?_⟩;rw[hr,DataW.weights];exact List.mem_singleton.2 rfl
   ·cases hb
 | .sl e,t,cs,fuel,r,hb,h,h1,h2=>by
   rw[rT]at hb;split at hb
   ·rename_i te hu;simp only[aC,decide_eq_true_eq]at hb;obtain⟨⟨hsz,hbp⟩,hb⟩:=hb;have hpos:=Ty.size_pos hb;rcases Gp (B:=B) hu h with rfl|⟨a,len,cap,fuel',rfl,hlc,hcap,hel,hlW,hfirst⟩
    ·exact⟨[.l0],[],rfl,⟨.l0,[],rfl,⟨fun e he=>(by cases he),.inl ⟨rfl,.inl rfl⟩⟩,ax _,rfl,fun i hi=>(by cases hi)⟩,fun _=>⟨ax _,fun y hy=>(by cases hy)⟩⟩
    ·have hz:=h1 rfl _ (List.mem_singleton.2 rfl);rw[hsz]at hel hfirst;have hok:(a.spot=none∧a.block<C)∨(len=0∧cap=0∧zA a<C∧ ¬(a.spot=none∧a.block<C)):=by
      by_cases h0:0<cap
      ·obtain⟨es,he⟩:=hfirst (hsp _) h0;obtain⟨g1,g2⟩:=zN he hpos;exact .inl ⟨g1,Nat.lt_of_lt_of_le g2 hC⟩
      ·obtain rfl:cap=0:=by omega
       obtain rfl:len=0:=by omega
       by_cases hq:a.spot=none∧a.block<C
       ·exact .inl hq
       ·exact .inr ⟨rfl,rfl,hz.resolve_left hq,hq⟩
     rcases hok with hok|⟨rfl,rfl,he,hq⟩
     rotate_left
     ·refine⟨[.ue (zA a) 1 0],[],?_,⟨.ue (zA a) 1 0,[],rfl,⟨fun e he=>(by cases he),.inl ⟨rfl,.inr ⟨_,_,_,rfl⟩⟩⟩,ax _,rfl,fun i hi=>(by cases hi)⟩,fun _=>⟨ax _,fun y hy=>(by cases hy)⟩⟩;show[AX C _]=[some _]
      congr 1
      show(if a.spot=none∧a.block<C then _ else if 0=0∧0=0∧zA a<C then some (V.ue (zA a) 1 0)else none)=_;rw[ab hq,ac ⟨rfl,rfl,he⟩]
     obtain⟨es,hl,hS,hQ⟩:=T9 (cap:=cap) (C:=C) (Q:=fun _ vs=>∃x,Rp (eB W C) .e C e vs x∧(ET P B t r.1→Sz B e x)) hok.1 hok.2 hlc (fun i hi=>by
      obtain⟨cs',x,hc,ht,hxW⟩:=hel i hi
      obtain⟨vs,y,hv,hR,hZ⟩:=sk (B:=B) hsp hC e te cs' fuel' x hb ht
       (fun he v hv=>by
        obtain⟨j,hj,rfl⟩:=List.getElem_of_mem hv;unfold World.cells? at hc;rw[ac (ax _)]at hc;obtain⟨h4,h5⟩:=eH hc;exact h2 he _ _ (h5 j (by rw[List.length_range]at h4⊢;omega) hj))
       (fun he=>h2 (by
        have key:∀t:Ty,t.deep=true→t.hasSl=true:=by
         intro t
         induction t with
         |cons a b iha ihb=>
          intro hd;have hd':(a.deep||b.deep)=true:=hd;show(a.hasSl||b.hasSl)=true;rw[Bool.or_eq_true]at hd'⊢;exact hd'.imp iha ihb
         |sl e _=>intro _;rfl
         |_=>intro hd;cases hd
        exact key e he))
      exact⟨cs',vs,hc,hv,y,hR,fun hW=>hZ (hxW hW)⟩)
     obtain⟨xs,hxl,hx⟩:=yg (n:=es.length) (Q:=fun i x=>(∀h:i<es.length,Rp (eB W C) .e C e es[i] x)∧(ET P B t r.1→Sz B e x)) (fun i hi=>by
      obtain⟨_,x,hR,hZ⟩:=hQ i hi;exact⟨x,fun _=>hR,hZ⟩)
     refine⟨[.l a.block a.off len cap],xs,?_,⟨.l a.block a.off len cap,es,rfl,hS,?_,hxl.symm,fun i hi hi'=>(hx i hi').1 hi⟩,fun hW=>⟨?_,fun y hy=>?_⟩⟩
     ·show[AX C _]=[some _]
      rw[IE hok.1 hok.2]
     ·show List.length xs≤_;omega
     ·show List.length xs≤_;rw[hxl,hl];exact bc (Nat.le_mul_of_pos_right _ hbp) (hlW hW)
     ·obtain⟨i,hi,rfl⟩:=List.getElem_of_mem hy;exact(hx i hi).2 hW
   ·cases hb
 | .nil,t,cs,fuel,r,hb,h,h1,h2=>by cases hb
 | .cons a b,t,cs,fuel,r,hb,h,h1,h2=>by
   rw[rT]at hb;split at hb
   ·rename_i fs hu;simp only[aC,decide_eq_true_eq]at hb;obtain⟨hsz,hb⟩:=hb;obtain⟨hlen,fuel',hf⟩:=Gq (B:=B) hu h;split at hb
    ·rename_i f rest hfs;simp only[aC,decide_eq_true_eq]at hb;obtain⟨ho,hfa,hta,hrest⟩:=hb;rw[hfs]at hf;obtain⟨x,hx,hxW⟩:=hf f (bG ..);rw[ho,hfa]at hx;have hs:(a.hasSl=true→ ∀v∈(cs.drop 0).take a.size,HU C v):=fun ha v hv=>h1 (by show(a.hasSl||b.hasSl)=true;rw[ha];rfl) v (List.mem_of_mem_drop (List.mem_of_mem_take hv));obtain⟨v1,x1,hv1,hR1,hZ1⟩:=sk (B:=B) hsp hC a f.type _ fuel' x hta hx hs (fun ha=>h2 (by show(a.deep||b.deep)=true;rw[ha];rfl))
     obtain⟨v2,x2,hv2,hR2,hZ2⟩:=G0 (B:=B) (hyp:=ET P B t r.1) hsp hC b rest cs fuel' a.size hrest (by rw[hlen,hsz]) (fun f' hf'=>hf f' (bq _ hf'))
      (fun hb' v hv=>h1 (by show(a.hasSl||b.hasSl)=true;rw[hb'];simp) v (List.mem_of_mem_drop hv)) (fun hb'=>h2 (by show(a.deep||b.deep)=true;rw[hb'];simp))
     refine⟨v1++v2,(x1,x2),?_,⟨v1,v2,rfl,hR1,hR2⟩,fun hW=>⟨hZ1 (hxW hW),hZ2 hW⟩⟩;have:=hv1.append hv2
     rwa [List.drop_zero,List.take_append_drop]at this
    ·cases hb
   ·cases hb
theorem G0{B:Nat}{hyp:Prop}(hsp:∀b,sp b=true)(hC:W.heap.size≤C):∀(ty:Ty) (fs:List Field) (cs:List Value) (fuel o:Nat),HB P ty fs o=true→cs.length=o+ty.size→
 (∀f∈fs,∃x,DataW.trod enc P W 0 sp held fuel f.type ((cs.drop f.offset).take (P.cellsOf f.type))=some x∧(hyp→ET P B f.type x.1))→
 (ty.hasSl=true→ ∀v∈cs.drop o,HU C v)→(ty.deep=true→ ∀a x,W.cell? a=some x→HU C x)→ ∃vs x,zq C (cs.drop o) vs∧Rp (eB W C) .e C ty vs x∧(hyp→Sz B ty x)
 | .nil,[],cs,fuel,o,hb,hl,hf,h1,h2=>by
   refine⟨[],(),?_,rfl,fun _=>trivial⟩;rw[List.drop_eq_nil_of_le (by have:(Ty.nil).size=0:=rfl;omega)];rfl
 | .nil,_::_,cs,fuel,o,hb,hl,hf,h1,h2=>by cases hb
 | .bool,fs,cs,fuel,o,hb,hl,hf,h1,h2=>by cases fs<;>cases hb
 | .int k,fs,cs,fuel,o,hb,hl,hf,h1,h2=>by cases fs<;>cases hb
 | .str,fs,cs,fuel,o,hb,hl,hf,h1,h2=>by cases fs<;>cases hb
 | .sl e,fs,cs,fuel,o,hb,hl,hf,h1,h2=>by cases fs<;>cases hb
 | .cons a b,[],cs,fuel,o,hb,hl,hf,h1,h2=>by cases hb
 | .cons a b,f::rest,cs,fuel,o,hb,hl,hf,h1,h2=>by
   rw[HB]at hb;simp only[aC,decide_eq_true_eq]at hb;obtain⟨ho,hfa,hta,hrest⟩:=hb;have hl':cs.length=o+(a.size+b.size):=hl;obtain⟨x,hx,hxW⟩:=hf f (bG ..);rw[ho,hfa]at hx;obtain⟨v1,x1,hv1,hR1,hZ1⟩:=sk (B:=B) hsp hC a f.type _ fuel x hta hx (fun ha v hv=>h1 (by show(a.hasSl||b.hasSl)=true;rw[ha];rfl) v (List.mem_of_mem_take hv)) (fun ha=>h2 (by show(a.deep||b.deep)=true;rw[ha];rfl))
   obtain⟨v2,x2,hv2,hR2,hZ2⟩:=G0 (B:=B) (hyp:=hyp) hsp hC b rest cs fuel (o+a.size) hrest (by omega) (fun f' hf'=>hf f' (bq _ hf'))
    (fun hb' v hv=>h1 (by show(a.hasSl||b.hasSl)=true;rw[hb'];simp) v (by rw[←List.drop_drop]at hv;exact List.mem_of_mem_drop hv)) (fun hb'=>h2 (by show(a.deep||b.deep)=true;rw[hb'];simp))
   refine⟨v1++v2,(x1,x2),?_,⟨v1,v2,rfl,hR1,hR2⟩,fun hW=>⟨hZ1 (hxW hW),hZ2 hW⟩⟩;have:=hv1.append hv2
   rwa [←List.drop_drop,List.take_append_drop]at this
end
theorem CV{W W':World}(h:∀i,i<W.heap.size→W'.heap[i]?=W.heap[i]?){a:Addr}{n:Nat}{cs:List Value}(hc:W.cells? 0 a n=some cs):W'.cells? 0 a n=some cs:=by
 unfold World.cells? at hc⊢
 rw[ac (ax _)]at hc⊢
 have key:∀(l:List Nat) (r:List Value),(l.mapM fun i=>W.cell? (a.add i))=some r→(l.mapM fun i=>W'.cell? (a.add i))=some r:=by
  intro l
  induction l with
  |nil=>intro r hr;exact hr
  |cons x l ih=>
   intro r hr;rw[List.mapM_cons]at hr⊢;cases h1:W.cell? (a.add x)with
   |none=>rw[h1]at hr;cases hr
   |some v=>
    have e:W'.cell? (a.add x)=some v:=by
     unfold World.cell? at h1⊢;split at h1
     ·rename_i hh;rw[h _ (Array.getElem?_eq_some_iff.1 hh).1,hh];exact h1
     ·cases h1
    rw[h1]at hr;rw[e];cases h2:l.mapM fun i=>W.cell? (a.add i)with
    |none=>rw[h2]at hr;cases hr
    |some vs=>
     rw[h2]at hr;rw[ih vs h2];exact hr
 exact key _ _ hc
theorem R2{W:World}{a:Addr}{n:Nat}{cs:List Value}(hc:W.cells? 0 a n=some cs)(hn:0<n):a.block<W.heap.size:=by
 unfold World.cells? at hc
 rw[ac (ax _)]at hc
 obtain⟨h1,h2⟩:=eH hc
 rw[List.length_range]at h1
 have:=h2 0 (by rw[List.length_range];exact hn) (by omega)
 rw[List.getElem_range]at this
 unfold World.cell? at this
 split at this
 ·rename_i hh;have:=(Array.getElem?_eq_some_iff.1 hh).1;unfold Addr.add at this
  simpa using this
 ·cases this
theorem oS{α β:Type}{f g:α→Option β}:∀{l:List α} {r:List β},l.mapM f=some r→(∀x∈l,∀y,f x=some y→g x=some y)→l.mapM g=some r
 |[],r,h,_=>h
 |a::l,r,h,hfg=>by
  rw[List.mapM_cons]at h⊢;cases h1:f a with
  |none=>rw[h1]at h;cases h
  |some b=>
   rw[h1]at h;rw[hfg a (bG ..) b h1];cases h2:l.mapM f with
   |none=>rw[h2]at h;cases h
   |some bs=>
    rw[h2]at h;rw[oS h2 fun x hx=>hfg x (bq _ hx)];exact h
theorem Ek{t:TypeId}{fs:Array Field}{cs:List Value}{fuel:Nat}(hu:P.underlying t=some (.struct fs))(hlen:cs.length=P.cellsOf t):DataW.trod enc P W 0 sp held (fuel+1) t cs=
 (fs.toList.mapM fun f=>DataW.trod enc P W 0 sp held fuel f.type ((cs.drop f.offset).take (P.cellsOf f.type))).map fun xs=>(DataW.agg (xs.map (·.1)),xs.flatMap (·.2)):=by
 rw[DataW.trod_step]
 unfold DataW.trodStep
 rw[hu]
 clear hu
 split
 all_goals first
  |(rename_i e;simp only[Option.some.injEq,TypeDesc.struct.injEq]at e;subst e;rw[ac hlen];done)
  |(rename_i e;cases e;done)
  |exact(‹∀fs_1:Array Field,some (TypeDesc.struct fs)=some (TypeDesc.struct fs_1)→False› fs rfl).elim
  |skip
mutual
theorem na{W W':World}(hW:∀i,i<W.heap.size→W'.heap[i]?=W.heap[i]?):∀(ty:Ty) (t:TypeId) (cs:List Value) (fuel:Nat) (r:DataW H×List MemPlace),rT P ty t=true→
 DataW.trod enc P W 0 (fun _=>true) held fuel t cs=some r→DataW.trod enc P W' 0 (fun b=>decide (b<W.heap.size)) held fuel t cs=some r
 |ty,t,cs,0,r,hb,h=>by cases h
 | .bool,t,cs,fuel+1,r,hb,h=>by
   rw[rT]at hb;split at hb
   ·rename_i hu;obtain⟨b,rfl⟩:=wH hu h;simp only[DataW.trod,hu]at h⊢;exact h
   ·cases hb
 | .int k,t,cs,fuel+1,r,hb,h=>by
   rw[rT]at hb;split at hb
   ·rename_i k' hu;obtain rfl:=bT hb;obtain⟨n,rfl,hn⟩:=AU hu h;simp only[DataW.trod,hu]at h⊢;exact h
   ·cases hb
 | .str,t,cs,fuel+1,r,hb,h=>by
   rw[rT]at hb;split at hb
   ·rename_i hu;obtain⟨s,rfl,hs⟩:=AV hu h;simp only[DataW.trod,hu]at h⊢;exact h
   ·cases hb
 | .sl e,t,cs,fuel+1,r,hb,h=>by
   rw[rT]at hb;split at hb
   ·rename_i te hu;simp only[aC,decide_eq_true_eq]at hb;obtain⟨⟨hsz,_⟩,hb⟩:=hb;have hpos:=Ty.size_pos hb;rcases Gp (B:=0) hu h with rfl|⟨a,len,cap,fuel',rfl,hlc,hcap,hel⟩
    ·simp only[DataW.trod,hu]at h⊢;exact h
    ·simp only[DataW.trod,hu]at h⊢;rw[ac ⟨ax _,hlc,hcap⟩]at h⊢
     have elem:∀i y,(W.cells? 0 (a.add (i*P.cellsOf te)) (P.cellsOf te)).bind (DataW.trod enc P W 0 (fun _=>true) held fuel te)=some y→
      (W'.cells? 0 (a.add (i*P.cellsOf te)) (P.cellsOf te)).bind (DataW.trod enc P W' 0 (fun b=>decide (b<W.heap.size)) held fuel te)=some y:=by
      intro i y hy;cases hc:W.cells? 0 (a.add (i*P.cellsOf te)) (P.cellsOf te)with
      |none=>rw[hc]at hy;cases hy
      |some es=>
       rw[hc]at hy;rw[CV hW hc];exact na hW e te es fuel y hb hy
     cases hm:(List.range len).mapM fun i=>(W.cells? 0 (a.add (i*P.cellsOf te)) (P.cellsOf te)).bind (DataW.trod enc P W 0 (fun _=>true) held fuel te)with
     |none=>rw[hm]at h;cases h
     |some elems=>
      rw[hm]at h;rw[oS hm fun i _=>elem i];simp only[Option.bind_some,if_true]at h⊢;by_cases hblk:a.block<W.heap.size
      ·rw[ah hblk];simp only[if_true];cases hm2:(List.range (cap-len)).mapM fun j=>(W.cells? 0 (a.add ((len+j)*P.cellsOf te)) (P.cellsOf te)).bind (DataW.trod enc P W 0 (fun _=>true) held fuel te)with
       |none=>rw[hm2]at h;cases h
       |some rest=>
        rw[hm2]at h;rw[oS hm2 fun i _=>elem (len+i)];exact h
      ·rw[ag hblk];have h0:cap-len=0:=by
        by_cases h0:cap-len=0
        ·exact h0
        ·exfalso;cases hm2:(List.range (cap-len)).mapM fun j=>(W.cells? 0 (a.add ((len+j)*P.cellsOf te)) (P.cellsOf te)).bind (DataW.trod enc P W 0 (fun _=>true) held fuel te)with
         |none=>rw[hm2]at h;cases h
         |some rest=>
          obtain⟨g1,g2⟩:=eH hm2;rw[List.length_range]at g1;have:=g2 0 (by rw[List.length_range];omega) (by omega);cases hc:W.cells? 0 (a.add ((len+(List.range (cap-len))[0]'(by rw[List.length_range];omega))*P.cellsOf te)) (P.cellsOf te)with
          |none=>rw[hc]at this;cases this
          |some es=>
           have:=R2 hc (by omega);unfold Addr.add at this;split at this<;>exact hblk this
       rw[h0]at h;simp only[List.range_zero,List.mapM_nil]at h;exact h
   ·cases hb
 | .nil,t,cs,fuel+1,r,hb,h=>by cases hb
 | .cons a b,t,cs,fuel+1,r,hb,h=>by
   rw[rT]at hb;split at hb
   ·rename_i fs hu;simp only[aC,decide_eq_true_eq]at hb;obtain⟨hsz,hb⟩:=hb;obtain⟨hlen,_⟩:=Gq (B:=0) hu h;rw[Ek hu hlen]at h⊢;split at hb
    ·rename_i f rest hfs;simp only[aC,decide_eq_true_eq]at hb;obtain⟨ho,hfa,hta,hrest⟩:=hb;rw[bn]at h;obtain⟨xs,hm,rfl⟩:=h;rw[hfs]at hm⊢
     rw[oS hm fun g hg y hy=>by
      rcases bh.1 hg with rfl|hg
      ·exact na hW a _ _ fuel y hta hy
      ·exact vY hW b rest fuel a.size hrest g hg _ y hy]
     rfl
    ·cases hb
   ·cases hb
theorem vY{W W':World}(hW:∀i,i<W.heap.size→W'.heap[i]?=W.heap[i]?):∀(ty:Ty) (fs:List Field) (fuel o:Nat),HB P ty fs o=true→ ∀f∈fs,∀(cs:List Value) (y:DataW H×List MemPlace),
 DataW.trod enc P W 0 (fun _=>true) held fuel f.type cs=some y→DataW.trod enc P W' 0 (fun b=>decide (b<W.heap.size)) held fuel f.type cs=some y
 | .nil,[],fuel,o,hb,f,hf,cs,y,h=>by cases hf
 | .nil,_::_,fuel,o,hb,f,hf,cs,y,h=>by cases hb
 | .bool,fs,fuel,o,hb,f,hf,cs,y,h=>by cases fs<;>cases hb
 | .int k,fs,fuel,o,hb,f,hf,cs,y,h=>by cases fs<;>cases hb
 | .str,fs,fuel,o,hb,f,hf,cs,y,h=>by cases fs<;>cases hb
 | .sl e,fs,fuel,o,hb,f,hf,cs,y,h=>by cases fs<;>cases hb
 | .cons a b,[],fuel,o,hb,f,hf,cs,y,h=>by cases hb
 | .cons a b,g::rest,fuel,o,hb,f,hf,cs,y,h=>by
   rw[HB]at hb;simp only[aC,decide_eq_true_eq]at hb;obtain⟨ho,hfa,hta,hrest⟩:=hb;rcases bh.1 hf with rfl|hf
   ·exact na hW a _ _ fuel y hta h
   ·exact vY hW b rest fuel _ hrest f hf cs y h
end
def Ty.arg:Ty→List V→V
 | .cons _ _,vs=> .g vs
 |_,v::_=>v
 |_,[]=>undef
def ID(P:Program):List Ty→List TypeId→Bool
 |[],[]=>true
 |ty::r,t::ts=>rT P ty t&&ID P r ts
 |_,_=>false
theorem Am{base:Nat}{u:TypeId}{v:Value}(h:Cell.okWide P W .any base u v)(hC:W.heap.size≤C):HU C v:=by
 unfold HU
 split
 ·rename_i a;have key:W.has P .any base a 0 0∨ ∃e n,W.has P .any base a e n:=by
   unfold Cell.okWide at h;split at h<;>first|(rename_i e;cases e;done)|skip
   ·rename_i hne;unfold Cell.ok at h;split at h<;>first|(rename_i e;cases e;done)|skip
    all_goals first
     |exact h.elim
     |skip
    all_goals (rename_i e1 e2;first|cases e2|skip)
    exact .inr ⟨_,_,h.2.2⟩
  have:∃e n,W.has P .any base a e n:=by
   rcases key with h|h
   ·exact⟨0,0,h⟩
   ·exact h
  obtain⟨e,n,_,h1,row,cells,h2,_⟩:=this;refine .inl ⟨h1,?_⟩;unfold World.shape? at h2;split at h2
  ·rename_i hh;exact Nat.lt_of_lt_of_le (Array.getElem?_eq_some_iff.1 hh).1 hC
  ·cases h2
 ·trivial
theorem Xe{base:Nat}{t:TypeId}{v:Value}(h:Value.okWide P W .any base t v)(hC:W.heap.size≤C):∀x∈v.cells.toList,HU C x:=by
 intro x hx
 unfold Value.okWide at h
 have agg:(∃cs,v= .agg cs∧cs.size=P.cellsOf t∧Row.okWide P W .any base t cs)→HU C x:=by
  rintro⟨cs,rfl,_,ts,_,_,hcell⟩;obtain⟨i,hi,rfl⟩:=List.getElem_of_mem hx
  obtain⟨u,_,hu⟩:=hcell i _ (by
   show cs[i]?=some _;rw[Array.getElem?_eq_getElem (by simpa [Value.cells]using hi)])
  exact Am hu hC
 split at h
 ·exact agg h
 ·exact agg h
 ·have hv:v.cells=#[v]∨ ∃cs,v= .agg cs:=by
   cases v<;>first|exact .inl rfl|exact .inr ⟨_,rfl⟩
  rcases hv with hv|⟨cs,rfl⟩
  ·rw[hv]at hx;obtain rfl:x=v:=by simpa using hx
   exact Am h hC
  ·exfalso;unfold Cell.okWide at h;split at h<;>first|(rename_i e1 e2;cases e2;done)|skip
   unfold Cell.ok at h;split at h<;>first|(rename_i e1 e2;cases e2;done)|exact h
theorem aM8{base:Nat}{t:TypeId}{v:Value}{fs:Array Field}(h:Value.okWide P W .any base t v)(hu:P.underlying t=some (.struct fs)):∃cs,v= .agg cs:=by
 unfold Value.okWide at h
 rw[hu]at h
 obtain⟨cs,e,_⟩:=h
 exact⟨cs,e⟩
theorem We{ty:Ty}{t:TypeId}{base:Nat}{v:Value}(h:Value.okWide P W .any base t v)(hb:rT P ty t=true)(hn:∀a b,ty≠ .cons a b):v.cells=#[v]:=by
 have hu:∀fs,P.underlying t≠some (.struct fs):=by
  intro fs hu;cases ty with
  |cons a b=>exact hn a b rfl
  |nil=>cases hb
  |_=>rw[rT,hu]at hb;cases hb
 have hu2:∀n e,P.underlying t≠some (.array n e):=by
  intro n e hu;cases ty with
  |cons a b=>exact hn a b rfl
  |nil=>cases hb
  |_=>rw[rT,hu]at hb;cases hb
 unfold Value.okWide at h
 split at h
 ·exact(hu _ (by assumption)).elim
 ·exact(hu2 _ _ (by assumption)).elim
 ·cases v<;>first|rfl|skip
  exfalso;unfold Cell.okWide at h;split at h<;>first|(rename_i e1 e2;cases e2;done)|skip
  unfold Cell.ok at h;split at h<;>first|(rename_i e1 e2;cases e2;done)|exact h
theorem aN1(hsp:∀b,sp b=true){ty:Ty}{t:TypeId}{base:Nat}{v:Value}{d:DataW H}{ps:List MemPlace}(hb:rT P ty t=true)(h:DataW.Trod enc P W 0 sp held t v d ps)(hv:Value.okWide P W .any base t v)(hC:W.heap.size≤C)
 (hd:ty.deep=true→ ∀a x,W.cell? a=some x→HU C x) (B:Nat):∃vs x,conc E0 (ty.arg vs)=v∧bd (· <C) (ty.arg vs)∧Rp (eB W C) .e C ty vs x∧(ET P B t d→Sz B ty x):=by
 obtain⟨fuel,h⟩:=h
 obtain⟨vs,x,h1,h2⟩:=sk (B:=B) hsp hC ty t _ fuel _ hb h (fun _=>Xe hv hC) hd
 obtain⟨c1,c2⟩:=h1.conc
 refine⟨vs,x,?_,?_,h2⟩
 ·cases ty with
  |cons a b=>
   rw[rT]at hb;split at hb
   ·rename_i fs hu;obtain⟨cs,rfl⟩:=aM8 hv hu;show Value.agg (aI E0 vs).toArray=_;rw[c1];simp[Value.cells]
   ·cases hb
  |nil=>cases hb
  |_=>
   have hc:=We hv hb (by intro a b e;cases e);rw[hc]at c1 h1;have hl:=h1.len
   match vs,hl with
   |[w],_=>
    have:[conc E0 w]=[v]:=c1;injection this
 ·cases ty with
  |cons a b=>exact c2
  |nil=>cases hb
  |_=>
   cases vs with
   |nil=>trivial
   |cons w r=>exact c2.1
def J6(F:RO)(C B:Nat):List Ty→List V→Prop
 |[],as=>as=[]
 |ty::r,as=>∃vs x a',as=ty.arg vs::a'∧(Rp F .e C ty vs x∧Sz B ty x)∧J6 F C B r a'
theorem zG(hsp:∀b,sp b=true){base B:Nat}(hC:W.heap.size≤C):∀{Bv:List Ty} {ts:List TypeId} {vs:List Value} {ds:List (DataW H)} {ps:List MemPlace},ID P Bv ts=true→DataW.TrodAll enc P W 0 sp held ts vs ds ps→
 (∀(j:Nat) t v,ts[j]?=some t→vs[j]?=some v→Value.okWide P W .any base t v)→(Bv.any Ty.deep=true→ ∀a x,W.cell? a=some x→HU C x)→(∀n∈DataW.weightsEach P ts ds,n≤B)→ ∃as,aI E0 as=vs∧fZ (· <C) as∧J6 (eB W C) C B Bv as
 |[],[],[],ds,ps,hb,h,hv,hd,hw=>⟨[],rfl,trivial,rfl⟩
 |[],[],_::_,ds,ps,hb,h,hv,hd,hw=>by cases ds<;>cases h
 |[],_::_,vs,ds,ps,hb,h,hv,hd,hw=>by cases hb
 |_::_,[],vs,ds,ps,hb,h,hv,hd,hw=>by cases hb
 |ty::Bv,t::ts,[],ds,ps,hb,h,hv,hd,hw=>by cases ds<;>cases h
 |ty::Bv,t::ts,v::vs,[],ps,hb,h,hv,hd,hw=>by cases h
 |ty::Bv,t::ts,v::vs,d::ds,ps,hb,h,hv,hd,hw=>by
  have hb':(rT P ty t&&ID P Bv ts)=true:=hb;rw[aC]at hb';obtain⟨p,q,h1,h2,_⟩:=h;obtain⟨ws,x,g1,g2,g3,g4⟩:=aN1 hsp hb'.1 h1 (hv 0 t v rfl rfl) hC (fun hh=>hd (by rw[List.any_cons,hh];rfl)) B;obtain⟨as,a1,a2,a3⟩:=zG hsp hC hb'.2 h2 (fun j t v ht hv'=>hv (j+1) t v ht hv') (fun hh=>hd (by rw[List.any_cons,hh];simp)) (fun n hn=>hw n (by rw[DataW.weightsEach];exact List.mem_append_right _ hn));exact⟨ty.arg ws::as,by rw[aI,g1,a1],⟨g2,a2⟩,ws,x,as,rfl,⟨g3,g4 fun n hn=>hw n (by rw[DataW.weightsEach];exact List.mem_append_left _ hn)⟩,a3⟩
theorem zD{W':World}(hW:∀i,i<W.heap.size→W'.heap[i]?=W.heap[i]?):∀{Bv:List Ty} {ts:List TypeId} {vs:List Value} {ds:List (DataW H)} {ps:List MemPlace},ID P Bv ts=true→
 DataW.TrodAll enc P W 0 (fun _=>true) held ts vs ds ps→DataW.TrodAll enc P W' 0 (fun b=>decide (b<W.heap.size)) held ts vs ds ps
 |[],[],[],[],ps,hb,h=>h
 |[],[],[],_::_,ps,hb,h=>by cases h
 |[],[],_::_,ds,ps,hb,h=>by cases ds<;>cases h
 |[],_::_,vs,ds,ps,hb,h=>by cases hb
 |_::_,[],vs,ds,ps,hb,h=>by cases hb
 |ty::Bv,t::ts,[],ds,ps,hb,h=>by cases ds<;>cases h
 |ty::Bv,t::ts,v::vs,[],ps,hb,h=>by cases h
 |ty::Bv,t::ts,v::vs,d::ds,ps,hb,h=>by
  have hb':(rT P ty t&&ID P Bv ts)=true:=hb;rw[aC]at hb';obtain⟨p,q,⟨fuel,h1⟩,h2,e⟩:=h;exact⟨p,q,⟨fuel,na hW ty t _ fuel _ hb'.1 h1⟩,zD hW hb'.2 h2,e⟩
theorem Sc{W:World}{C:Nat}(hC:W.heap.size≤C)(hk:1000≤C):cK (eB W C) .e C:=by
 refine⟨fun _ _=>rfl,fun b hb=>?_,fun _ _=>rfl,hk⟩
 rw[mU,Array.getElem?_eq_none (by omega)];rfl
def W3:Value→Nat
 | .slice (some a) 0 0=>zA a+1
 |_=>0
theorem zK:∀l:List Value,∃B,∀x∈l,W3 x≤B
 |[]=>⟨0,fun x hx=>by cases hx⟩
 |v::l=>by
  obtain⟨B,hB⟩:=zK l;refine⟨max (W3 v) B,fun x hx=>?_⟩;rcases bh.1 hx with rfl|hx
  ·exact Nat.le_max_left _ _
  ·exact bc (hB x hx) (Nat.le_max_right _ _)
theorem zJ:∀l:List Obj,∃B,∀cs t f,Obj.cells cs t f∈l→ ∀x∈cs.toList,W3 x≤B
 |[]=>⟨0,fun cs t f h=>by cases h⟩
 |o::l=>by
  obtain⟨B,hB⟩:=zJ l;obtain⟨B',hB'⟩:∃B',∀cs t f,o=Obj.cells cs t f→ ∀x∈cs.toList,W3 x≤B':=by
   cases o with
   |cells cs t f=>
    obtain⟨B',h⟩:=zK cs.toList;exact⟨B',fun cs' t' f' e=>by injection e with e1 e2 e3;subst e1;exact h⟩
   |_=>exact⟨0,fun cs t f e=>by cases e⟩
  refine⟨max B B',fun cs t f h x hx=>?_⟩;rcases bh.1 h with h|h
  ·exact bc (hB' cs t f h.symm x hx) (Nat.le_max_right _ _)
  ·exact bc (hB cs t f h x hx) (Nat.le_max_left _ _)
theorem aP8(W:World):∃C,1000≤C∧W.heap.size≤C∧ ∀a x,W.cell? a=some x→HU C x:=by
 obtain⟨B,hB⟩:=zJ W.heap.toList
 refine⟨max 1000 (max W.heap.size B),Nat.le_max_left _ _,bc (Nat.le_max_left _ _) (Nat.le_max_right _ _),fun a x hx=>?_⟩
 unfold World.cell? at hx
 split at hx
 ·rename_i cs t f hh;split at hx
  ·cases hx
  ·have hm:Obj.cells cs t f∈W.heap.toList:=by
    obtain⟨h1,h2⟩:=Array.getElem?_eq_some_iff.1 hh;rw[←h2];exact Array.getElem_mem_toList h1
   have hxm:x∈cs.toList:=by
    obtain⟨h1,h2⟩:=Array.getElem?_eq_some_iff.1 hx;rw[←h2];exact Array.getElem_mem_toList h1
   have hb:=hB cs t f hm x hxm;unfold HU;split
   ·rename_i a';have hb':zA a'+1≤B:=hb;right;have:=Nat.le_max_right 1000 (max W.heap.size B);have:=Nat.le_max_right W.heap.size B;omega
   ·trivial
 ·cases hx
end
section
variable{Φ:Nat→Option CF}{rd:Option Nat}{fn:Nat}{F:RO}
theorem kD{M:Mem}(b:Nat):∀{F:RO},bQ M F=true→bQ (M.del b) F=true
 |[],_=>rfl
 |(b',x)::F,h=>by
  rw[dP,aC]at h;rw[dP,kD b h.2,Tr.get_del];split
  ·rfl
  ·rw[h.1];rfl
def bp4(o:Option V)(p:Option aR)(base:Nat)(r:List (Nat×Nat×CO))(k:Kn)(t:T)(M:Mem)(c:Nat)(reads:List (Nat×Nat))(R:DS→Prop):Prop:=match o with
 |some v=>ly base r k (.mk (setT t p v) M c [] reads) R
 |none=>False
theorem bE3(v:V)(p:Option aR)(base:Nat)(r:List (Nat×Nat×CO))(k:Kn)(t:T)(M:Mem)(c:Nat)(reads:List (Nat×Nat))(R:DS→Prop):bp4 (some v) p base r k t M c reads R=ly base r k (.mk (setT t p v) M c [] reads) R:=Eq.trans rfl (Eq.refl _)
theorem bP2{base i mask:Nat}{dst:Option aR}{o:OK}{g:aR}{want:Bool}{r:List (Nat×Nat×CO)}{k:Kn}{t:T}{M:Mem}{c:Nat}{pend:List (Nat×Nat×bJ)}{reads:List (Nat×Nat)}{R:DS→Prop}(hg:cE t g= .b want):
 ly base ((i,mask,.mk dst o (some (g,want)))::r) k (.mk t M c pend reads) R=ly base ((i,mask,.mk dst o none)::r) k (.mk t M c pend reads) R:=by
 have hw:wanted t (some (g,want))=true:=by
  show gD want (cE t g)=_;rw[hg];cases want<;>rfl
 have hs:rG k base (i,mask,.mk dst o (some (g,want))) (.mk t M c pend reads)=rG k base (i,mask,.mk dst o none) (.mk t M c pend reads):=by
  show(bif wanted t (some (g,want))then _ else _)=_;rw[hw];rfl
 apply propext
 rw[eM,eM,hs]
theorem bP1{base i mask:Nat}{dst:Option aR}{o:OK}{g:aR}{want:Bool}{r:List (Nat×Nat×CO)}{k:Kn}{t:T}{M:Mem}{c:Nat}{pend:List (Nat×Nat×bJ)}{reads:List (Nat×Nat)}{R:DS→Prop}(hg:cE t g= .b (!want)):
 ly base ((i,mask,.mk dst o (some (g,want)))::r) k (.mk t M c pend reads) R=ly base r k (.mk (setT t dst undef) M c pend reads) R:=by
 have hw:wanted t (some (g,want))=false:=by
  show gD want (cE t g)=_;rw[hg];cases want<;>rfl
 have hs:rG k base (i,mask,.mk dst o (some (g,want))) (.mk t M c pend reads)=some (.mk (setT t dst undef) M c pend reads):=by
  show(bif wanted t (some (g,want))then _ else(setT t dst undef).force fun t=>some (DS.mk t M c pend reads))=_;rw[hw];show(setT t dst undef).force (fun t=>some (DS.mk t M c pend reads))=_;rw[Tr.force_eq]
 apply propext
 rw[eM,hs]
 constructor
 ·rintro⟨s',h,q⟩;obtain rfl:=ae h;exact q
 ·exact fun q=>⟨_,rfl,q⟩
theorem bP3{base i mask:Nat}{dst:Option aR}{o:OK}{g:aR}{want:Bool}{r:List (Nat×Nat×CO)}{k:Kn}{t:T}{M:Mem}{c:Nat}{pend:List (Nat×Nat×bJ)}{reads:List (Nat×Nat)}{R:DS→Prop}(hg:cE t g=undef):
 ly base ((i,mask,.mk dst o (some (g,want)))::r) k (.mk t M c pend reads) R=ly base r k (.mk (setT t dst undef) M c pend reads) R:=by
 have hw:wanted t (some (g,want))=false:=by
  show gD want (cE t g)=_;rw[hg];rfl
 have hs:rG k base (i,mask,.mk dst o (some (g,want))) (.mk t M c pend reads)=some (.mk (setT t dst undef) M c pend reads):=by
  show(bif wanted t (some (g,want))then _ else(setT t dst undef).force fun t=>some (DS.mk t M c pend reads))=_;rw[hw];show(setT t dst undef).force (fun t=>some (DS.mk t M c pend reads))=_;rw[Tr.force_eq]
 apply propext
 rw[eM,hs]
 constructor
 ·rintro⟨s',h,q⟩;obtain rfl:=ae h;exact q
 ·exact fun q=>⟨_,rfl,q⟩
theorem aT3(n:Nat)(b o:Nat)(M:Mem){vs:List V}(h:loadN F M b o n=some vs)(t:T)(x:X)(hx:x.ev t= .p b o):lq (.ldn n x) F M t= .r (.g vs) b:=by
 have hblk:∃blk,look F M b=some blk:=by
  unfold loadN at h;cases hl:look F M b with
  |none=>rw[hl]at h;cases h
  |some blk=>exact⟨blk,rfl⟩
 obtain⟨blk,hb⟩:=hblk
 have q:∀F' M',loadN F' M' b o n=some vs→cS (.ldn n x) F' M' t= .r (.g vs) b:=by
  intro F' M' h';show(rL (x.ev t) .f fun b o=>qgb b (loadN F' M' b o n))=_;rw[hx];show qgb b (loadN F' M' b o n)=_;rw[h'];rfl
 show Hi (.ldn n x) F M t (cS (.ldn n x) F M t)=_
 rw[q F M h]
 show R9 (.ldn n x) t b (look F M b)=_
 rw[hb]
 show Av b (cS (.ldn n x) [(b,blk)] .e t)=_
 have h':loadN [(b,blk)] .e b o n=some vs:=by
  unfold loadN at h⊢;rw[hb]at h;rw[b5 (show(Tr.e:Mem).get b=none from rfl),cI,ac rfl];exact h
 rw[q _ _ h'];rfl
def bB3(n:Nat)(X:V)(F:RO)(M:Mem):QR:=lq (.ldn n (.c X)) F M .e
def bB4(b:Nat):Option (List V)→QR
 |some vs=> .r (.g vs) b
 |none=> .f
theorem HJ(b:Nat)(vs:List V):bB4 b (some vs)= .r (.g vs) b:=Eq.trans rfl (Eq.refl _)
theorem Wo(n:Nat)(x:X)(M:Mem)(t:T):lq (.ldn n x) F M t=bB3 n (x.ev t) F M:=Eq.trans rfl (Eq.refl _)
theorem aT2(n b o:Nat)(M:Mem):bB3 n (.p b o) F M=bB4 b (loadN F M b o n):=by
 cases h:loadN F M b o n with
 |some vs=>exact aT3 n b o M h .e _ rfl
 |none=>
  show Hi (.ldn n (.c (.p b o))) F M .e (qgb b (loadN F M b o n))=_;rw[h];rfl
theorem bx3(c a b:X)(M:Mem)(t:T):lq (.pk c a b) F M t=oV (pkV (c.ev t) (a.ev t) (b.ev t)):=by
 refine(fE ?_).trans (congrArg oV (bJ8 (F:=F) c a b M t))
 intro F' M'
 show(Fw (c.ev t) QR.f fun x=>Bool.rec (motive:=fun _=>QR) (.v (b.ev t)) (.v (a.ev t)) x)=oV (Fw (c.ev t) QR.f fun x=>Bool.rec (motive:=fun _=>QR) (.v (b.ev t)) (.v (a.ev t)) x).val
 cases c.ev t with
 |b x=>cases x<;>rfl
 |_=>rfl
theorem bx4(op:UnOp)(x:X)(M:Mem)(t:T):lq (.un op x) F M t=oV (unV op (x.ev t)):=by
 refine(fE ?_).trans (congrArg oV (bJ9 (F:=F) op x M t))
 intro F' M'
 refine jJ ?_
 show(cS (.un op x) F' M' t= .f∨_)
 cases op with
 |neg=>
  show((tR (x.ev t) QR.f fun k n=>vI k (wr k (Int.sub 0 n)))= .f∨ ∃y,(tR (x.ev t) QR.f fun k n=>vI k (wr k (Int.sub 0 n)))= .v y);cases x.ev t with
  |i k n=>exact .inr ⟨_,fU _ _⟩
  |_=>exact .inl rfl
 |not=>
  show((Fw (x.ev t) QR.f fun b=>vB (pY b))= .f∨ ∃y,(Fw (x.ev t) QR.f fun b=>vB (pY b))= .v y);cases x.ev t with
  |b b=>exact .inr ⟨_,mH _⟩
  |_=>exact .inl rfl
 |xor=>
  show((tR (x.ev t) QR.f fun k n=>j6 k (Nat.xor (Nat.sub (Nat.pow 2 (kV k)) 1) (oy k n)))= .f∨ ∃y,(tR (x.ev t) QR.f fun k n=>j6 k (Nat.xor (Nat.sub (Nat.pow 2 (kV k)) 1) (oy k n)))= .v y);cases x.ev t with
  |i k n=>exact .inr ⟨_,fU _ _⟩
  |_=>exact .inl rfl
 |plus=>exact .inl rfl
def uf:Sh→Bool
 | .ptr=>false
 | .agg _=>false
 |_=>true
def rc:List (Nat×Sh)→Bool
 |[]=>true
 |(_,s)::r=>uf s&&rc r
def Ir:Sh→Bool
 | .ptr=>false
 | .agg ks=>rc ks
 |_=>true
theorem Rr{sh:Sh}(h:uf sh=true)(F':RO)(M M':Mem)(lit:Bool)(x y:V):Br F' M' sh lit x y=Br F M sh lit x y:=by
 cases sh<;>first|rfl|cases h
theorem tg(F':RO)(M M':Mem)(xs ys:List V):∀{ks:List (Nat×Sh)},rc ks=true→kT F' M' xs ys ks=kT F M xs ys ks
 |[],_=>rfl
 |(o,s)::r,h=>by
  have h':(uf s&&rc r)=true:=h;rw[aC]at h';rw[nU,nU,tg F' M M' xs ys h'.2]
  congr 1
  cases xs[o]? with
  |none=>rfl
  |some x=>
   cases ys[o]? with
   |none=>rfl
   |some y=>exact Rr h'.1 F' M M' false x y
theorem Rv{sh:Sh}(h:Ir sh=true)(F':RO)(M M':Mem)(lit:Bool)(x y:V):zh F' M' sh lit x y=zh F M sh lit x y:=by
 cases sh with
 |agg ks=>
  show vW F' M' ks x y=vW F M ks x y;unfold vW;cases x<;>first|rfl|skip
  cases y<;>first|rfl|skip
  exact tg F' M M' _ _ h
 |ptr=>cases h
 |_=>rfl
theorem bw9(neg:Bool)(sh:Sh)(lit:Bool)(x y:X)(M:Mem)(t:T)(h:Ir sh=true):lq (.eq neg sh lit x y) F M t=oV (X9 neg (zh F M sh lit (x.ev t) (y.ev t))):=by
 refine(fE ?_).trans (congrArg oV (bI9 (F:=F) neg sh lit x y M t))
 intro F' M'
 show ww neg (zh F' M' sh lit (x.ev t) (y.ev t))=oV (ww neg (zh [] .e sh lit (x.ev t) (y.ev t))).val
 rw[Rv (F:=[]) h F' .e M']
 refine jJ ?_
 cases zh [] .e sh lit (x.ev t) (y.ev t)with
 |none=>exact .inl rfl
 |some r=>exact .inr ⟨_,mH _⟩
theorem T5(ks:List (Nat×Sh)):Ir (.agg ks)=rc ks:=rfl
theorem Iw:rc []=true:=Eq.trans rfl (Eq.refl _)
theorem Ea(o:Nat)(s:Sh)(r:List (Nat×Sh)):rc ((o,s)::r)=(uf s&&rc r):=rfl
theorem Is:uf .int=true:=Eq.trans rfl (Eq.refl _)
theorem E9:uf .bool=true:=Eq.trans rfl (Eq.refl _)
theorem It:uf .str=true:=Eq.trans rfl (Eq.refl _)
theorem T6:Ir .int=true:=Eq.trans rfl (Eq.refl _)
theorem Iu:Ir .bool=true:=Eq.trans rfl (Eq.refl _)
theorem T7:Ir .str=true:=Eq.trans rfl (Eq.refl _)
theorem Ru(lit:Bool)(M:Mem)(a b:Bool):zh F M .bool lit (.b a) (.b b)=some (decide (a=b)):=zU (F:=F) lit M a b
theorem bx1(off:Nat)(x:X)(M:Mem)(t:T):lq (.fa off x) F M t=oV (match x.ev t with| .p b o=>some (.p b (o+off))|_=>none):=by
 refine(fE ?_).trans (congrArg oV (bJ1 (F:=F) off x M t))
 intro F' M'
 refine jJ ?_
 show((rL (x.ev t) QR.f fun b o=>uL b (Nat.add o off))= .f∨ ∃y,(rL (x.ev t) QR.f fun b o=>uL b (Nat.add o off))= .v y)
 cases x.ev t with
 |p b o=>exact .inr ⟨.p b (o+off),by show uL b (o+off)=_;unfold uL;rw[bA]⟩
 |_=>exact .inl rfl
theorem aQ6(x:X)(M:Mem)(t:T):lq (.ln .slice x) F M t=oV (uK (x.ev t)):=by
 refine(fE ?_).trans (congrArg oV ((aZ2 (F:=F) .slice x M t).trans (bB8 (F:=F) M _)))
 intro F' M'
 refine jJ ?_
 show(FM (Dr (x.ev t))= .f∨ ∃y,FM (Dr (x.ev t))= .v y)
 cases Dr (x.ev t)with
 |none=>exact .inl rfl
 |some n=>exact .inr ⟨_,rfl⟩
theorem aQ7(x:X)(M:Mem)(t:T):lq (.ln .str x) F M t=oV (lnV .str F M (x.ev t)):=by
 refine(fE ?_).trans (congrArg oV (aZ2 (F:=F) .str x M t))
 intro F' M'
 refine jJ ?_
 show((wh (x.ev t) QR.f fun n _=> .v (.i .i64 (.ofNat n)))= .f∨ ∃y,(wh (x.ev t) QR.f fun n _=>QR.v (.i .i64 (.ofNat n)))= .v y)
 cases x.ev t with
 |s n x=>exact .inr ⟨_,rfl⟩
 |_=>exact .inl rfl
theorem aQ3(x i:X)(M:Mem)(t:T):lq (.ixS x i) F M t=oV (rK (x.ev t) (i.ev t)):=by
 refine(fE ?_).trans (congrArg oV (aF8 (F:=F) x i M t))
 intro F' M'
 refine jJ ?_
 show((wh (x.ev t) QR.f fun n s=>Option.rec (motive:=fun _=>QR) .f (fun i=>o6 n s i) (rE (i.ev t)))= .f∨ ∃y,(wh (x.ev t) QR.f fun n s=>Option.rec (motive:=fun _=>QR) .f (fun i=>o6 n s i) (rE (i.ev t)))= .v y)
 cases x.ev t with
 |s n x=>
  show(Option.rec (motive:=fun _=>QR) .f (fun i=>o6 n x i) (rE (i.ev t))= .f∨ ∃y,(Option.rec (motive:=fun _=>QR) .f (fun i=>o6 n x i) (rE (i.ev t)):QR)= .v y);cases rE (i.ev t)with
  |none=>exact .inl rfl
  |some k=>
   show(Bool.rec (motive:=fun _=>QR) .f (fN (Nat.mod (Nat.div x (mf k)) 256) fun c=> .v (.i .u8 (.ofNat c))) (Nat.blt k n)= .f∨ ∃y,(Bool.rec (motive:=fun _=>QR) .f (fN (Nat.mod (Nat.div x (mf k)) 256) fun c=> .v (.i .u8 (.ofNat c))) (Nat.blt k n):QR)= .v y);cases Nat.blt k n with
   |false=>exact .inl rfl
   |true=>exact .inr ⟨_,by show fN _ _=_;rw[bA]⟩
 |_=>exact .inl rfl
def uO(u:List (Option V))(i:Nat):Option V:=(u[i]?).join
def jo(I:Nat→St→Prop)(n:Nat)(Q:Ex→St→Prop):Ex→St→Prop
 | .nrm,s=>∃m,m<n∧I m s
 |e,s=>Q e s
theorem E4(I:Nat→St→Prop)(n:Nat)(Q:Ex→St→Prop)(s:St):jo I n Q .nrm s=∃m,m<n∧I m s:=Eq.trans rfl (Eq.refl _)
theorem E5(I:Nat→St→Prop)(n:Nat)(Q:Ex→St→Prop)(s:St):jo I n Q .ret s=Q .ret s:=Eq.trans rfl (Eq.refl _)
theorem DZ(I:Nat→St→Prop)(n:Nat)(Q:Ex→St→Prop)(s:St)(id:Nat):jo I n Q (.ext id) s=Q (.ext id) s:=Eq.trans rfl (Eq.refl _)
theorem bw{b:CC}{Q:Ex→St→Prop}(I:Nat→St→Prop)(h:∀n s,I n s→Wp b (K Φ rd fn F) s (jo I n Q)):∀n s,I n s→Wp (.loop b) (K Φ rd fn F) s Q:=
 II I fun n s hs=>(h n s hs).mono fun e s' he=>by cases e<;>exact he
end
section
variable{Φ:Nat→Option CF}{rd:Option Nat}{fn:Nat}{F:RO}
theorem IB{M:Mem}{b o ty n fz:Nat}{ex str:Bool}{d vs:List V}{t:T}(hM:M.get b=some (.cells ty n ex fz str d t))(h1:o+vs.length≤n)(h2:fz≤o)(h3:aL vs=true):
 bS M b o vs=some (M.set b (.cells ty n ex fz str d (bP vs o t))):=by
 show Option.rec (motive:=fun _=>Option Mem) none (fun blk=>n7 M b o vs blk) (M.get b)=_
 rw[hM]
 show(Bool.rec (motive:=fun _=>Option Mem) none (Bool.rec (motive:=fun _=>Option Mem) none (Bool.rec (motive:=fun _=>Option Mem) none (eE M b o vs ty n ex fz str d t) (aL vs)) (Nat.ble fz o)) (Nat.ble (Nat.add o vs.length) n))=_
 rw[bb,bb,bb,cB,cB,ah (show Nat.add o vs.length≤n from h1),ah h2,h3]
 simp only[if_true]
 unfold eE
 rw[Tr.force_eq,Tr.force_eq]
def ck2(M:Mem)(c0 c b ty sz cap:Nat)(v:V)(es:List (List V)):Prop:=
 (∀e∈es,e.length=sz)∧es.length≤cap∧c0≤b∧b<c∧v= .l b 0 es.length cap∧ ∃d t,M.get b=some (.cells ty (cap*sz) true 0 false d t)∧ ∀k,k<es.flatten.length→cell (cap*sz) d t k=es.flatten[k]?
def bY1(ty sz bytes:Nat)(zero:List V)(l c:V)(b:Nat):Option (V×bJ):=ju (.mks ty sz bytes zero (.c l) (.c c)) b .e
theorem VS(ty sz bytes:Nat)(zero:List V)(l c:X)(b:Nat)(t:T):ju (.mks ty sz bytes zero l c) b t=bY1 ty sz bytes zero (l.ev t) (c.ev t) b:=Eq.trans rfl (Eq.refl _)
def lD(F:RO)(M:Mem)(lo c sz:Nat)(v:V)(es:List (List V)):Prop:=∀M':Mem,(∀b,lo≤b→b<c→M'.get b=M.get b)→cA F M' c sz v es
theorem lD.sl{M:Mem}{lo c sz:Nat}{v:V}{es:List (List V)}(h:lD F M lo c sz v es):cA F M c sz v es:=h M fun _ _ _=>rfl
theorem lD.up{M M':Mem}{lo lo' c c' sz:Nat}{v:V}{es:List (List V)}(h:lD F M lo c sz v es)(hc:c≤c')(hl:lo'≤lo)(hM:∀b,lo≤b→b<c→M'.get b=M.get b):lD F M' lo' c' sz v es:=by
 intro M2 h2
 have h3:=h M2 fun b h1 h4=>(h2 b (by omega) (by omega)).trans (hM b h1 h4)
 rcases h3 with⟨a,b|⟨b,o,hv,hb,hcs⟩⟩
 ·exact⟨a,.inl b⟩
 ·exact⟨a,.inr ⟨b,o,hv,by omega,hcs⟩⟩
theorem lD.gr{M M':Mem}{lo c c' sz:Nat}{v:V}{es:List (List V)}(h:lD F M lo c sz v es)(hg:Gr c M c' M'):lD F M' lo c' sz v es:=h.up hg.le (aj _) fun b _ hb=>hg.old b hb
theorem bm.own{M:Mem}{c0 c b ty sz:Nat}{v:V}{es:List (List V)}(h:bm M c0 c b ty sz v es):lD F M c0 c sz v es:=by
 intro M' hM
 refine bm.sl (c0:=c0) (b:=b) (ty:=ty) (M:=M') ?_
 rcases h with⟨h0,h|⟨h1,h2,rfl,h3⟩⟩
 ·exact⟨h0,.inl h⟩
 ·exact⟨h0,.inr ⟨h1,h2,rfl,by rw[hM b h1 h2];exact h3⟩⟩
theorem cK.put{M:Mem}{c b:Nat}{x y:bJ}(h:cK F M c)(hb:b<c)(hx:M.get b=some x):cK F (M.set b y) c:=by
 refine⟨fun b' hb'=>?_,h.hiF,fun b' hb'=>?_,h.ge⟩
 ·rw[ak _ _ (by omega)];exact h.hiM b' hb'
 ·have:b'≠b:=by
   intro e;subst e;rw[h.ap b' hb']at hx;cases hx
  rw[ak _ _ this];exact h.ap b' hb'
theorem aJ{M:Mem}{b ty:Nat}{l:List V}(h:M.get b=some (af ty l))(o:Nat)(vs:List V)(h1:o+vs.length≤l.length)(h2:aL vs=true):bS M b o vs=some (M.set b (af ty (over l o vs))):=by
 have:=rg M b o ty l vs h1 h2
 rwa [←cO h]at this
theorem au{M:Mem}{b ty:Nat}{l:List V}(h:M.get b=some (af ty l))(o:Nat):load1 F M b o=l[o]?:=by
 rw[cO h];exact tM M b o ty l
theorem aY{M:Mem}{b ty:Nat}{l:List V}(h:M.get b=some (af ty l))(n:Nat)(hn:l.length=n):loadN F M b 0 n=some l:=by
 rw[cO h,bW M b 0 n ty l (by omega),List.drop_zero,←hn,List.take_length]
theorem IH(a b:CC)(k:Kn)(t:T)(d:List Nat)(M:Mem)(c:Nat)(Q:Ex→St→Prop):Wp (.cond (.c (.b true)) a b) k (.mk t d M c) Q=Wp a k (.mk t d M c) Q:=Ba rfl
theorem IG(a b:CC)(k:Kn)(t:T)(d:List Nat)(M:Mem)(c:Nat)(Q:Ex→St→Prop):Wp (.cond (.c (.b false)) a b) k (.mk t d M c) Q=Wp b k (.mk t d M c) Q:=B9 rfl
end
theorem ai{a b:Prop}(x:a)(y:b):a∧b:=⟨x,y⟩
def WL:=ai @Y1 (ai @QI (ai @vL (ai @aC2 (ai @DY (ai @dP (ai @ak (ai @Tr.get_e (ai @yd (ai @Ri (ai @ii (ai @bl6 (ai @cg8 (ai @aV9 (ai @aV8 (ai @Xd (ai @bx2 (ai @bw8 (ai @aQ1 (ai @bu0 (ai @bx0 (ai @aQ4 (ai @bB2 (ai @S0 (ai @aQ2 (ai @bJ3 (ai @bB8 (ai @aB7 (ai @S2 (ai @Dv (ai @S3 (ai @EG (ai @AE (ai @SZ (ai @SY (ai @bm0 (ai @bm1 (ai @Gx (ai @Y2 (ai @V2 (ai @CP (ai @CQ (ai @CM (ai @HO (ai @HP (ai @HN (ai @bl9 (ai @ch4 (ai @ch2 (ai @ch3 (ai @bQ8 (ai @bP7 (ai @bP6 (ai @bP8 (ai @Ba (ai @B9 (ai @ce0 (ai @cd8 (ai @cd9 (ai @bE4 (ai @jL (ai @Iq (ai @cf7 (ai @bJ8 (ai @bE0 (ai @bD9 (ai @bI7 (ai @xL (ai @aN7 (ai @aN5 (ai @aN6 (ai @aN4 (ai @aN3 (ai @aN9 (ai @bJ9 (ai @aZ0 (ai @aZ2 (ai @lnS (ai @aF8 (ai @bJ4 (ai @bJ5 (ai @bB1 (ai @bB6 (ai @tM (ai @bJ1 (ai @xR (ai @WA (ai @Y9 (ai @He (ai @ev_t (ai @ev_c (ai @WC (ai @Rx (ai @Tr.setP_h (ai @Tr.setP_l (ai @Tr.setP_r (ai @aR9 (ai @aS1 (ai @aS0 (ai @aS2 (ai @Ro (ai @Rq (ai @bX5 (ai @Ii (ai @aX0 (ai @CW (ai @Se (ai @Sf (ai @Bool.not_true (ai @Bool.not_false (ai @Bool.false_eq_true (ai @Bool.true_eq_false (ai @decide_true (ai @decide_false (ai @SB (ai @Sa (ai @Hs (ai @Hv (ai @Hz (ai @Hy (ai @Db (ai @Hw (ai @HA (ai @D9 (ai @Hx (ai @Da (ai @Ht (ai @D8 (ai @Hu (ai @bZ (ai @aw (ai @WN (ai @WP (ai @WU (ai @WT (ai @RN (ai @WQ (ai @WV (ai @RM (ai @WR (ai @WO (ai @RL (ai @Bool.and_true (ai @Bool.true_and (ai @WB (ai @zZ (ai @Hq (ai @ti (ai @Sj (ai @HW (ai @Nat.zero_add (ai @and_self (ai @and_true (ai @true_and (ai @aF6 (ai @o7 (ai @aF7 (ai @bJ2 (ai @bJ0 (ai @bI8 (ai @H3 (ai @Hn (ai @Hm (ai @nU (ai @aU0 (ai @aU1 (ai @bI9 (ai @Wx (ai @Wy (ai @Wv (ai @zU (ai @bQ7 (ai @Wb (ai @bJ6 (ai @XE (ai @XD (ai @Ah (ai @S5 (ai @bW (ai @rg (ai @Ee (ai @HQ (ai @VM (ai @VQ (ai @TI (ai @pU (ai @X6 (ai @X7 (ai @aT9 (ai @Nat.add_assoc (ai @V7 (ai @aF9 (ai @cf4 (ai @VP (ai @Rw (ai @pQ (ai @DD (ai @mg (ai @Ha (ai @aG0 (ai @aT5 (ai @cG (ai @nR (ai @Fg (ai @Wz (ai @bP2 (ai @bP1 (ai @bP3 (ai @Wo (ai @aT2 (ai @HJ (ai @bx3 (ai @aQ6 (ai @aQ7 (ai @aQ3 (ai @bx4 (ai @bw9 (ai @T5 (ai @Iw (ai @Ea (ai @Is (ai @E9 (ai @It (ai @Ru (ai @T6 (ai @Iu (ai @T7 (ai @bx1 (ai @bE3 (ai @VS (ai @IH (ai @IG (ai @E4 (ai @E5 (ai @DZ (ai @decide_eq_true_eq (ai @or_self (ai @or_true (ai @or_false (ai @true_or (ai @false_or (ai @and_false (@false_and))))))))))))))))))))))))))))))))))))))))))))))))))))))))))))))))))))))))))))))))))))))))))))))))))))))))))))))))))))))))))))))))))))))))))))))))))))))))))))))))))))))))))))))))))))))))))))))))))))))))))))))))))))))))))))))))))))))))))))))))))
def WM:=ai @cond_true.{1} (ai @cond_false.{1} (ai @List.getElem?_cons_zero.{0} (ai @List.getElem?_cons_succ.{0} (ai @Option.getD_some.{0} (ai @if_true.{1} (ai @if_false.{1} (ai @ite_true.{1} (ai @ite_false.{1} (ai @List.set_cons_zero.{0} (ai @List.set_cons_succ.{0} (ai @List.length_cons.{0} (ai @List.length_nil.{0} (ai @List.nil_append.{0} (ai @List.append_nil.{0} (ai @List.cons_append.{0} (ai @List.drop_zero.{0} (ai @List.take_succ_cons.{0} (ai @List.take_zero.{0} (ai @List.take_nil.{0} (ai @List.drop_succ_cons.{0} (ai @Option.map_some.{0,0} (ai @Option.isSome_some.{0} (@Option.map_none.{0,0})))))))))))))))))))))))
def WX:=ai @WL @WM
abbrev a0:aR:= .h
abbrev z0:X:= .t a0
abbrev a1:aR:= .l a0
abbrev z1:X:= .t a1
abbrev a2:aR:= .r a0
abbrev z2:X:= .t a2
abbrev a3:aR:= .l a1
abbrev z3:X:= .t a3
abbrev a4:aR:= .r a1
abbrev z4:X:= .t a4
abbrev a5:aR:= .l a2
abbrev z5:X:= .t a5
abbrev a6:aR:= .r a2
abbrev z6:X:= .t a6
abbrev a7:aR:= .l a3
abbrev z7:X:= .t a7
abbrev a8:aR:= .r a3
abbrev z8:X:= .t a8
abbrev a9:aR:= .l a4
abbrev z9:X:= .t a9
abbrev dT:aR:= .r a4
abbrev ft:X:= .t dT
abbrev eP:aR:= .l a5
abbrev dL:X:= .t eP
abbrev fg:aR:= .r a5
abbrev eN:X:= .t fg
abbrev eQ:aR:= .l a6
abbrev ed:X:= .t eQ
abbrev fh:aR:= .r a6
abbrev gb:X:= .t fh
abbrev dM:aR:= .l a7
abbrev gK:X:= .t dM
abbrev fu:aR:= .r a7
abbrev iA:X:= .t fu
abbrev gL:aR:= .l a8
abbrev iB:X:= .t gL
abbrev fy:aR:= .r a8
abbrev iC:X:= .t fy
abbrev jr:aR:= .l a9
abbrev l8:X:= .t jr
abbrev gH:aR:= .r a9
abbrev la:X:= .t gH
abbrev fY:aR:= .l dT
abbrev kL:X:= .t fY
abbrev jt:aR:= .r dT
abbrev lA:X:= .t jt
abbrev gU:aR:= .l eP
abbrev lg:X:= .t gU
abbrev jX:aR:= .r eP
abbrev kM:X:= .t jX
abbrev gv:aR:= .l fg
abbrev lB:X:= .t gv
abbrev kd:aR:= .r fg
abbrev nl:X:= .t kd
abbrev gV:aR:= .l eQ
abbrev nn:X:= .t gV
abbrev lE:aR:= .r eQ
abbrev nK:X:= .t lE
abbrev ip:aR:= .l fh
abbrev ot:X:= .t ip
abbrev ke:aR:= .r fh
abbrev oz:X:= .t ke
abbrev lj:aR:= .l dM
abbrev pq:X:= .t lj
abbrev np:aR:= .r dM
abbrev pz:X:= .t np
abbrev nM:aR:= .l fu
abbrev ru:X:= .t nM
abbrev jY:aR:= .r fu
abbrev rv:X:= .t jY
abbrev jZ:aR:= .l gL
abbrev rx:X:= .t jZ
abbrev nN:aR:= .r gL
abbrev sC:X:= .t nN
abbrev k8:aR:= .l fy
abbrev qF:X:= .t k8
abbrev nq:aR:= .r fy
abbrev rU:X:= .t nq
abbrev mN:aR:= .l jr
abbrev rV:X:= .t mN
abbrev pC:aR:= .r jr
abbrev sD:X:= .t pC
abbrev js:aR:= .l gH
abbrev ry:X:= .t js
abbrev lF:aR:= .r gH
abbrev sE:X:= .t lF
abbrev pD:aR:= .l fY
abbrev sF:X:= .t pD
abbrev ng:aR:= .r fY
abbrev rW:X:= .t ng
abbrev pE:aR:= .l jt
abbrev rX:X:= .t pE
abbrev lG:aR:= .r jt
abbrev vm:X:= .t lG
abbrev pF:aR:= .l gU
abbrev sG:X:= .t pF
abbrev kQ:aR:= .r gU
abbrev uE:X:= .t kQ
abbrev nh:aR:= .l jX
abbrev vn:X:= .t nh
abbrev px:aR:= .r jX
abbrev vp:X:= .t px
abbrev rA:aR:= .l gv
abbrev uM:X:= .t rA
abbrev oD:aR:= .r gv
abbrev vq:X:= .t oD
abbrev sP:aR:= .l kd
abbrev wM:X:= .t sP
abbrev pG:aR:= .r kd
abbrev za:X:= .t pG
abbrev pH:aR:= .l gV
abbrev zl:X:= .t pH
abbrev uI:aR:= .r gV
abbrev wN:X:= .t uI
abbrev vw:aR:= .l lE
abbrev Bx:X:= .t vw
abbrev vz:aR:= .r lE
abbrev Bd:X:= .t vz
abbrev rZ:aR:= .l ip
abbrev Be:X:= .t rZ
abbrev vA:aR:= .r ip
abbrev Bf:X:= .t vA
abbrev s5:aR:= .l ke
abbrev Bz:X:= .t s5
abbrev sQ:aR:= .r ke
abbrev Bg:X:= .t sQ
abbrev ou:aR:= .l lj
abbrev zm:X:= .t ou
abbrev vC:aR:= .r lj
abbrev BA:X:= .t vC
abbrev uT:aR:= .l np
abbrev zb:X:= .t uT
abbrev oE:aR:= .r np
abbrev zn:X:= .t oE
abbrev qJ:aR:= .l nM
abbrev wO:X:= .t qJ
abbrev uU:aR:= .r nM
abbrev zo:X:= .t uU
abbrev uV:aR:= .l jY
abbrev zp:X:= .t uV
abbrev vD:aR:= .r jY
abbrev BB:X:= .t vD
abbrev py:aR:= .l jZ
abbrev Bh:X:= .t py
abbrev vE:aR:= .r jZ
abbrev BC:X:= .t vE
abbrev fA:aR:= .l nN
abbrev uF:X:= .t fA
abbrev qK:aR:= .r nN
abbrev BD:X:= .t qK
abbrev uJ:aR:= .l k8
abbrev BE:X:= .t uJ
abbrev wW:aR:= .r k8
abbrev BF:X:= .t wW
abbrev zc:aR:= .l nq
abbrev EK:X:= .t zc
abbrev zd:aR:= .r nq
abbrev EL:X:= .t zd
abbrev ze:aR:= .l mN
abbrev EM:X:= .t ze
abbrev vF:aR:= .r mN
abbrev GB:X:= .t vF
abbrev zx:aR:= .l pC
abbrev GC:X:= .t zx
abbrev pI:aR:= .r pC
abbrev GD:X:= .t pI
abbrev uW:aR:= .l js
abbrev GE:X:= .t uW
abbrev BJ:aR:= .r js
abbrev GF:X:= .t BJ
abbrev wX:aR:= .l lF
abbrev GG:X:= .t wX
abbrev BK:aR:= .r lF
abbrev IK:X:= .t BK
abbrev BL:aR:= .l pD
abbrev GH:X:= .t BL
abbrev sR:aR:= .r pD
abbrev IL:X:= .t sR
abbrev EU:aR:= .l ng
abbrev IM:X:= .t EU
abbrev GT:aR:= .r ng
abbrev J1:X:= .t GT
abbrev EV:aR:= .l pE
abbrev J2:X:= .t EV
abbrev EW:aR:= .r pE
abbrev J3:X:= .t EW
abbrev BM:aR:= .l lG
abbrev J4:X:= .t BM
abbrev GU:aR:= .r lG
abbrev J5:X:= .t GU
abbrev Jp:aR:= .l pF
abbrev Vr:X:= .t Jp
abbrev zy:aR:= .r pF
abbrev Vs:X:= .t zy
abbrev Jq:aR:= .l kQ
abbrev Vt:X:= .t Jq
abbrev Jr:aR:= .r kQ
abbrev Vu:X:= .t Jr
abbrev Js:aR:= .l nh
abbrev Vv:X:= .t Js
abbrev rz:aR:= .r nh
abbrev uD:X:= .t rz
abbrev iX:aR:= .l px
abbrev EJ:X:= .t iX
abbrev uN:aR:= .r px
abbrev yX:X:= .t uN
abbrev uP:aR:= .l rA
abbrev yY:X:= .t uP
abbrev uQ:aR:= .r rA
abbrev yZ:X:= .t uQ
abbrev GP:aR:= .l oD
abbrev Vb:X:= .t GP
abbrev wV:aR:= .r oD
abbrev Vc:X:= .t wV
abbrev GQ:aR:= .l sP
abbrev Vd:X:= .t GQ
abbrev GR:aR:= .r sP
abbrev Ve:X:= .t GR
abbrev Jf:aR:= .l pG
abbrev Yc:X:= .t Jf
abbrev Jg:aR:= .r pG
abbrev Yd:X:= .t Jg
abbrev uR:aR:= .l pH
abbrev Ye:X:= .t uR
abbrev Jh:aR:= .r pH
abbrev Yf:X:= .t Jh
abbrev Ji:aR:= .l uI
abbrev Yg:X:= .t Ji
abbrev Jj:aR:= .r uI
abbrev Yh:X:= .t Jj
abbrev Jk:aR:= .l vw
abbrev Yi:X:= .t Jk
abbrev Jl:aR:= .r vw
abbrev Yj:X:= .t Jl
abbrev Jm:aR:= .l vz
abbrev Yk:X:= .t Jm
abbrev sO:aR:= .r vz
abbrev Yl:X:= .t sO
abbrev Jn:aR:= .l rZ
abbrev Ym:X:= .t Jn
abbrev VF:aR:= .r rZ
abbrev bn0:X:= .t VF
abbrev VG:aR:= .l vA
abbrev bn1:X:= .t VG
abbrev VH:aR:= .r vA
abbrev bn2:X:= .t VH
abbrev VI:aR:= .l s5
abbrev bn3:X:= .t VI
abbrev VJ:aR:= .r s5
abbrev bn4:X:= .t VJ
abbrev VK:aR:= .l sQ
abbrev bn5:X:= .t VK
abbrev uS:aR:= .r sQ
abbrev bn6:X:= .t uS
abbrev VL:aR:= .l ou
abbrev bn7:X:= .t VL
abbrev aL3:aR:= .r ou
abbrev bQ9:X:= .t aL3
abbrev aL4:aR:= .l vC
abbrev bR0:X:= .t aL4
abbrev aL5:aR:= .r vC
abbrev bR1:X:= .t aL5
abbrev aL6:aR:= .l uT
abbrev bR2:X:= .t aL6
abbrev aL7:aR:= .r uT
abbrev bR3:X:= .t aL7
abbrev aL8:aR:= .l oE
abbrev bR4:X:= .t aL8
abbrev GS:aR:= .r oE
abbrev bR5:X:= .t GS
abbrev aL9:aR:= .l qJ
abbrev bR6:X:= .t aL9
abbrev aM0:aR:= .r qJ
abbrev bR7:X:= .t aM0
abbrev aM1:aR:= .l uU
abbrev bR8:X:= .t aM1
abbrev aM2:aR:= .r uU
abbrev bR9:X:= .t aM2
abbrev Jo:aR:= .l uV
abbrev bS0:X:= .t Jo
abbrev aM3:aR:= .r uV
abbrev bS1:X:= .t aM3
abbrev aM4:aR:= .l vD
abbrev bS2:X:= .t aM4
abbrev aM5:aR:= .r vD
abbrev bS3:X:= .t aM5
abbrev bp9:aR:= .l py
abbrev ch5:X:= .t bp9
abbrev bq0:aR:= .r py
abbrev ch6:X:= .t bq0
abbrev bq1:aR:= .l vE
abbrev ch7:X:= .t bq1
abbrev bq2:aR:= .r vE
abbrev ch8:X:= .t bq2
abbrev bq3:aR:= .l fA
abbrev ch9:X:= .t bq3
abbrev bq4:aR:= .r fA
abbrev ci0:X:= .t bq4
abbrev bq5:aR:= .l qK
abbrev ci1:X:= .t bq5
abbrev bq6:aR:= .r qK
abbrev ci2:X:= .t bq6
abbrev bq7:aR:= .l uJ
abbrev ci3:X:= .t bq7
abbrev bq8:aR:= .r uJ
abbrev ci4:X:= .t bq8
abbrev bq9:aR:= .l wW
abbrev ci5:X:= .t bq9
abbrev br0:aR:= .r wW
abbrev ci6:X:= .t br0
abbrev br1:aR:= .l zc
abbrev ci7:X:= .t br1
abbrev br2:aR:= .r zc
abbrev ci8:X:= .t br2
abbrev br3:aR:= .l zd
abbrev ci9:X:= .t br3
abbrev br4:aR:= .r zd
abbrev cj0:X:= .t br4
abbrev br5:aR:= .l ze
abbrev cj1:X:= .t br5
abbrev br6:aR:= .r ze
abbrev cj2:X:= .t br6
abbrev br7:aR:= .l vF
abbrev cj3:X:= .t br7
abbrev br8:aR:= .r vF
abbrev cj4:X:= .t br8
abbrev br9:aR:= .l zx
abbrev cj5:X:= .t br9
abbrev bs0:aR:= .r zx
abbrev cj6:X:= .t bs0
abbrev bs1:aR:= .l pI
abbrev cj7:X:= .t bs1
abbrev bs2:aR:= .r pI
abbrev cj8:X:= .t bs2
abbrev sk1:T:= .n .e none .e
abbrev re:T:= .n sk1 none sk1
abbrev jp:T:= .n re none re
abbrev ow:T:= .n jp none jp
abbrev qw:T:= .n ow none ow
abbrev vg:T:= .n qw none qw
abbrev sk7:T:= .n vg none vg
abbrev gq(u:List (Option V))(a:Nat):T:= .n .e (uO u a) .e
abbrev fq(u:List (Option V))(a b c:Nat):T:= .n (gq u a) (uO u b) (gq u c)
abbrev aq(u:List (Option V))(a b c d e f g:Nat):T:= .n (fq u a b c) (uO u d) (fq u e f g)
abbrev qq(d:aR)(o:QO):CO:=⟨some d,.q o,none⟩
abbrev lV(d:aR)(o:EO)(g:aR):CO:=⟨some d,.e o,some (g,false)⟩
abbrev lW(d:aR)(o:EO)(g:aR):CO:=⟨some d,.e o,some (g,true)⟩
abbrev aA(d:aR)(o:QO)(g:aR):CO:=⟨some d,.q o,some (g,false)⟩
abbrev aF(d:aR)(o:QO)(g:aR):CO:=⟨some d,.q o,some (g,true)⟩
abbrev aa(d:aR)(o:AO):CO:=⟨some d,.a o,none⟩
abbrev ee(d:aR)(o:EO):CO:=⟨some d,.e o,none⟩
abbrev ez(o:EO):CO:=⟨none,.e o,none⟩
abbrev x6(n:Int):X:= .c (.i .i64 n)
abbrev xT:X:= .c (.b true)
abbrev xF:X:= .c (.b false)
theorem wu{b b1:CC}(h:b=b1)(k:Kn)(s:St)(R:Ex→St→Prop):Wp b k s R=Wp b1 k s R:=congrArg (fun x=>Wp x k s R) h
def X1{x0:Option V}(l:List (Option V)):List (Option V):=x0::l
def G1(l:List (Option V)):List (Option V):=none::l
def X2{x0 x1:Option V}(l:List (Option V)):List (Option V):=x0::x1::l
def G2(l:List (Option V)):List (Option V):=none::none::l
def X4{x0 x1 x2 x3:Option V}(l:List (Option V)):List (Option V):=x0::x1::x2::x3::l
def G4(l:List (Option V)):List (Option V):=none::none::none::none::l
def X8{x0 x1 x2 x3 x4 x5 x6 x7:Option V}(l:List (Option V)):List (Option V):=x0::x1::x2::x3::x4::x5::x6::x7::l
def G8(l:List (Option V)):List (Option V):=none::none::none::none::none::none::none::none::l
def bB{x0 x1 x2 x3 x4 x5 x6 x7 x8 x9 x10 x11 x12 x13 x14 x15:Option V}(l:List (Option V)):List (Option V):=x0::x1::x2::x3::x4::x5::x6::x7::x8::x9::x10::x11::x12::x13::x14::x15::l
def bK{x0 x1 x2 x3 x4 x5 x6 x7 x8 x9 x10 x11 x12 x13 x14 x15 x16 x17 x18 x19 x20 x21 x22 x23 x24 x25 x26 x27 x28 x29 x30 x31:Option V}(l:List (Option V)):List (Option V):=x0::x1::x2::x3::x4::x5::x6::x7::x8::x9::x10::x11::x12::x13::x14::x15::x16::x17::x18::x19::x20::x21::x22::x23::x24::x25::x26::x27::x28::x29::x30::x31::l
def bD{x0 x1 x2 x3 x4 x5 x6 x7 x8 x9 x10 x11 x12 x13 x14 x15 x16 x17 x18 x19 x20 x21 x22 x23 x24 x25 x26 x27 x28 x29 x30 x31 x32 x33 x34 x35 x36 x37 x38 x39 x40 x41 x42 x43 x44 x45 x46 x47 x48 x49 x50 x51 x52 x53 x54 x55 x56 x57 x58 x59 x60 x61 x62 x63:Option V}(l:List (Option V)):List (Option V):=x0::x1::x2::x3::x4::x5::x6::x7::x8::x9::x10::x11::x12::x13::x14::x15::x16::x17::x18::x19::x20::x21::x22::x23::x24::x25::x26::x27::x28::x29::x30::x31::x32::x33::x34::x35::x36::x37::x38::x39::x40::x41::x42::x43::x44::x45::x46::x47::x48::x49::x50::x51::x52::x53::x54::x55::x56::x57::x58::x59::x60::x61::x62::x63::l
section
variable{Φ:Nat→Option CF}{rd:Option Nat}{fn:Nat}{F:RO}
def aT8:V→Option V
 | .p b o=>some (.p b o)
 | .f g h c=>some (.f g h c)
 | .y l=>some (.y l)
 | .a t v=>some (.a t v)
 |_=>none
theorem wJ(x:X)(M:Mem)(t:T):(cS (.nck x) F M t).val=aT8 (x.ev t):=by
 show(ml x F M t).val=_
 unfold ml
 cases x.ev t<;>rfl
theorem jj(b o:Nat):aT8 (.p b o)=some (.p b o):=Eq.trans rfl (Eq.refl _)
theorem pP(x:X)(M:Mem)(t:T):lq (.nck x) F M t=oV (aT8 (x.ev t)):=by
 refine(fE ?_).trans (congrArg oV (wJ (F:=F) x M t))
 intro F' M'
 refine jJ ?_
 show(ml x F' M' t= .f∨ ∃y,ml x F' M' t= .v y)
 unfold ml
 cases x.ev t<;>first|exact .inl rfl|exact .inr ⟨_,rfl⟩
def cpV:V→Option V
 | .l0=>some (.i .i64 0)
 | .l _ _ _ c=>some (.i .i64 (c:Int))
 |_=>none
theorem cf5(x:X)(M:Mem)(t:T):(cS (.cp x) F M t).val=cpV (x.ev t):=by
 show(u0 x F M t).val=_
 unfold u0
 cases x.ev t<;>rfl
theorem CX:cpV .l0=some (.i .i64 0):=Eq.trans rfl (Eq.refl _)
theorem Rf(x:X)(M:Mem)(t:T):lq (.cp x) F M t=oV (cpV (x.ev t)):=by
 refine(fE ?_).trans (congrArg oV (cf5 (F:=F) x M t))
 intro F' M'
 refine jJ ?_
 show(u0 x F' M' t= .f∨ ∃y,u0 x F' M' t= .v y)
 unfold u0
 cases x.ev t<;>first|exact .inl rfl|exact .inr ⟨_,rfl⟩
def sdV:V→Option V
 | .l0=>some .p0
 | .l b o _ c=>if c=0 then none else some (.p b o)
 | .u b o _ el kn=>if el<kn then some (.p b o)else none
 |_=>none
theorem yw(x:X)(M:Mem)(t:T):u2 x F M t=oV (sdV (x.ev t)):=by
 unfold u2
 cases x.ev t with
 |l b o n c=>
  show(bif Nat.beq c 0 then QR.f else .v (.p b o))=oV (if c=0 then none else some (.p b o));rw[bR];by_cases h:c=0
  ·rw[ah h,ac h];rfl
  ·rw[ag h,ab h];rfl
 |u b o n el kn=>
  show(bif Nat.blt el kn then QR.v (.p b o)else .f)=oV (if el<kn then some (.p b o)else none);rw[gg];by_cases h:el<kn
  ·rw[ah h,ac h];rfl
  ·rw[ag h,ab h];rfl
 |_=>rfl
theorem S9(o:Option V):(oV o).val=o:=by cases o<;>rfl
theorem cf8(x:X)(M:Mem)(t:T):(cS (.sd x) F M t).val=sdV (x.ev t):=by
 show(u2 x F M t).val=_
 rw[yw,S9]
theorem Rg(x:X)(M:Mem)(t:T):lq (.sd x) F M t=oV (sdV (x.ev t)):=by
 refine(fE ?_).trans (congrArg oV (cf8 (F:=F) x M t))
 intro F' M'
 show u2 x F' M' t=oV (u2 x [] .e t).val
 rw[yw,yw,S9]
theorem aX2:sdV .l0=some .p0:=Eq.trans rfl (Eq.refl _)
theorem aC8{b o n el kn:Nat}(h:el<kn):sdV (.u b o n el kn)=some (.p b o):=ac h
def upV(F:RO)(M:Mem)(x:V):Option V:=(cS (.up (.c x)) F M .e).val
theorem cf9(x:X)(M:Mem)(t:T):(cS (.up x) F M t).val=upV F M (x.ev t):=Eq.trans rfl (Eq.refl _)
theorem XX{M:Mem}{b o ty n:Nat}{ex str:Bool}{fz:Nat}{d:List V}{t:T}(h:M.get b=some (.cells ty n ex fz str d t))(ho:o<n):upV F M (.p b o)=some (.p b o):=by
 show(kg (look F M b) QR.f fun n _ _=>bif Nat.blt o n then QR.r (.p b o) b else .f).val=_
 rw[az h]
 show(bif Nat.blt o n then QR.r (.p b o) b else .f).val=_
 rw[gg,ah ho];rfl
def dnV(ty sz:Nat)(F:RO)(M:Mem)(x:V):Option V:=(cS (.dn ty sz (.c x)) F M .e).val
theorem cf6(ty sz:Nat)(x:X)(M:Mem)(t:T):(cS (.dn ty sz x) F M t).val=dnV ty sz F M (x.ev t):=Eq.trans rfl (Eq.refl _)
theorem Wm{M:Mem}{b ty n:Nat}{str:Bool}{fz:Nat}{d:List V}{t:T}(h:M.get b=some (.cells ty n true fz str d t)):dnV ty n F M (.p b 0)=some (.p b 0):=by
 show(aQ0 ty n b (look F M b)).val=_
 rw[az h]
 show(bif Nat.beq ty ty&&Nat.beq n n then QR.r (.p b 0) b else .f).val=_
 rw[Nat.beq_refl,Nat.beq_refl];rfl
def QV(r:QR):Prop:=r= .f∨ ∃y,r= .v y
theorem qi{r:QR}(b:Bool)(h:QV r):QV (bif b then r else .f):=by
 cases b with
 |false=>exact .inl rfl
 |true=>exact h
theorem FS{r s:QR}(b:Bool)(h:QV r)(h':QV s):QV (bif b then r else s):=by
 cases b with
 |false=>exact h'
 |true=>exact h
theorem SH(b o n c:Nat):QV (mkL b o n c):= .inr ⟨_,S7 b o n c⟩
theorem SI(b o n e k:Nat):QV (mkU b o n e k):= .inr ⟨_,yi b o n e k⟩
theorem XN(sz:Nat)(v:V)(a b d:Option Nat):QV (rR sz v a b d):=by
 unfold rR
 refine qi _ ?_
 cases v with
 |l b0 o len cap=>exact qi _ (SH _ _ _ _)
 |l0=>exact qi _ (.inr ⟨_,rfl⟩)
 |u b0 o len el kn=>
  cases d with
  |none=>exact qi _ (FS _ (SI _ _ _ _ _) (FS _ (SI _ _ _ _ _) (.inr ⟨_,by rw[bA]⟩)))
  |some m=>exact qi _ (SH _ _ _ _)
 |ue b0 o0 o=>exact qi _ (.inr ⟨_,rfl⟩)
 |_=>exact .inl rfl
theorem aQ8(sz:Nat)(x:X)(lo hi mx:Option X)(M:Mem)(t:T):lq (.slL sz x lo hi mx) F M t=oV (vh sz (x.ev t) (lo.map fun x=>x.ev t) (hi.map fun x=>x.ev t) (mx.map fun x=>x.ev t)):=by
 refine(fE ?_).trans (congrArg oV (aF9 (F:=F) sz x lo hi mx M t))
 intro F' M'
 refine jJ ?_
 show QV (qh sz (x.ev t) (optNN t lo) (optNN t hi) (optNN t mx))
 cases optNN t lo with
 |none=>exact .inl rfl
 |some a=>
  cases optNN t hi with
  |none=>exact .inl rfl
  |some b=>
   cases optNN t mx with
   |none=>exact .inl rfl
   |some d=>exact XN _ _ _ _ _
def Ys(o:Option (V×bJ))(base i:Nat)(p:aR)(r:List (Nat×Nat×CO))(k:Kn)(t:T)(M:Mem)(c:Nat)(pend:List (Nat×Nat×bJ))(reads:List (Nat×Nat))(R:DS→Prop):Prop:=match o with
 |some x=>ly base r k (.mk (t.setP p x.1) M c ((i,base+i,x.2)::pend) reads) R
 |none=>False
theorem mj(v:V)(b:bJ)(base i:Nat)(p:aR)(r:List (Nat×Nat×CO))(k:Kn)(t:T)(M:Mem)(c:Nat)(pend:List (Nat×Nat×bJ))(reads:List (Nat×Nat))(R:DS→Prop):
 Ys (some (v,b)) base i p r k t M c pend reads R=ly base r k (.mk (t.setP p v) M c ((i,base+i,b)::pend) reads) R:=Eq.trans rfl (Eq.refl _)
theorem uw(base i mask:Nat)(p:aR)(o:AO)(r:List (Nat×Nat×CO))(t:T)(M:Mem)(c:Nat)(pend:List (Nat×Nat×bJ))(reads:List (Nat×Nat))(R:DS→Prop)(hl:(look F M (base+i)).isNone=true)(hr:bU (base+i) reads=true):
 ly base ((i,mask,.mk (some p) (.a o) none)::r) (K Φ rd fn F) (.mk t M c pend reads) R=Ys (ju o (base+i) t) base i p r (K Φ rd fn F) t M c pend reads R:=by
 have he:rG (K Φ rd fn F) base (i,mask,.mk (some p) (.a o) none) (.mk t M c pend reads)=CZ i (base+i) (some p) t M c pend reads (ju o (base+i) t):=by
  show(fN (Nat.add base i) fun b=>bif (look F M b).isNone&&bU b reads then CZ i b (some p) t M c pend reads (ju o b t)else none)=_;rw[bA];show(bif (look F M (base+i)).isNone&&bU (base+i) reads then CZ i (base+i) (some p) t M c pend reads (ju o (base+i) t)else none)=_;rw[hl,hr];rfl
 apply propext
 rw[eM,he]
 cases ju o (base+i) t with
 |none=>exact⟨fun⟨s',h,_⟩=>(by cases h),False.elim⟩
 |some x=>
  have h2:CZ i (base+i) (some p) t M c pend reads (some x)=some (.mk (t.setP p x.1) M c ((i,base+i,x.2)::pend) reads):=by
   show((setT t (some p) x.1).force fun t=>some (DS.mk t M c ((i,base+i,x.2)::pend) reads))=_;rw[Tr.force_eq];rfl
  rw[h2];constructor
  ·rintro⟨s',h,q⟩;obtain rfl:=ae h;exact q
  ·exact fun q=>⟨_,rfl,q⟩
theorem eW(i b:Nat)(x:bJ)(r:List (Nat×Nat×bJ))(M:Mem):d9 ((i,b,x)::r) M=d9 r (M.set b x):=by
 show(M.set b x).force (fun M=>d9 r M)=_
 rw[Tr.force_eq]
theorem cF(b:Nat):bU b []=true:=Eq.trans rfl (Eq.refl _)
theorem aU(b i b':Nat)(r:List (Nat×Nat))(h:b'≠b):bU b ((i,b')::r)=bU b r:=by
 show(bif Nat.beq b' b then false else bU b r)=_
 rw[bR,ag h];rfl
def qm(ty n:Nat)(row:List V):bJ:= .cells ty n false 0 false [] (il row)
def nzA(ty:Nat)(l:V)(b:Nat):Option (V×bJ):=ju (.nz ty (.c l)) b .e
theorem aM7(ty:Nat)(l:X)(b:Nat)(t:T):ju (.nz ty l) b t=nzA ty (l.ev t) b:=Eq.trans rfl (Eq.refl _)
theorem bD0(ty n b:Nat)(h:n≤1099511627776):nzA ty (.i .i64 (n:Int)) b=some (.u b 0 n 0 n,qm ty n []):=by
 show(match F3 (.i .i64 (n:Int))with|some n=>bif Nat.ble n 1099511627776 then some (V.u b 0 n 0 n,bJ.cells ty n false 0 false [] .e)else none|none=>none)=_
 show(bif Nat.ble n 1099511627776 then some (V.u b 0 n 0 n,bJ.cells ty n false 0 false [] .e)else none)=_
 rw[cB,ah h];rfl
theorem Im{n:Nat}{row:List V}(h:row.length≤n)(i:Nat)(hi:i<row.length):cell n [] (il row) i=row[i]?:=by
 rw[cV,ac (by omega)]
 unfold il
 rw[dt,ac (by omega)]
 simp only[Nat.sub_zero]
 rw[List.getElem?_eq_getElem hi]
theorem u6{M:Mem}{b ty n:Nat}{row:List V}(h:M.get b=some (qm ty n row))(hn:row.length≤n):cZ F M b 0 row:=fun k hk=>by
 rw[Nat.zero_add]
 unfold Ev.load1
 rw[az h]
 exact Im hn k hk
theorem E6{M:Mem}{b ty n:Nat}{row vs:List V}(h:M.get b=some (qm ty n row))(hn:row.length+vs.length≤n)(h1:aL vs=true):bS M b row.length vs=some (M.set b (qm ty n (row++vs))):=by
 rw[IB h hn (ax _) h1]
 unfold qm il
 have:=m8 row vs 0 .e
 rw[Nat.zero_add]at this
 rw[this]
def qG(M:Mem)(c0 c b:Nat)(v:V)(l:List UInt8):Prop:=
 (l=[]∧v= .l0)∨(c0≤b∧b<c∧ ∃n,(l.length≤n∧0<n)∧v= .u b 0 l.length 0 n∧M.get b=some (qm 5 n (l.map bV)))
theorem qG.up{M M':Mem}{c0 c c' b:Nat}{v:V}{l:List UInt8}(h:qG M c0 c b v l)(hc:c≤c')(hb:b<c→M'.get b=M.get b):qG M' c0 c' b v l:=by
 rcases h with h|⟨h1,h2,n,h3,h4,h5⟩
 ·exact .inl h
 ·exact .inr ⟨h1,by omega,n,h3,h4,by rw[hb h2];exact h5⟩
theorem aO2{M0 M:Mem}{c0 c b:Nat}{v:V}{l s:List UInt8}(h:qG M c0 c b v l)(hg:Gr c0 M0 c M)(hr:mA (l.length+s.length) 1=true):
 lw (rB F M c 5 1 1 v (sV s)) fun v' M' c'=>∃b',qG M' c0 c' b' v' (l++s)∧Gr c0 M0 c' M'∧c≤c'∧(∀x,x<c→x≠b→M'.get x=M.get x)∧(b'=b∨c≤b'):=by
 unfold rB
 rw[Gd]
 have e1:nT F M c 5 1 1 v (some (s.length,s.map bV))=app F M c 5 1 1 v s.length (s.map bV):=by
  show(bif aL (s.map bV)&&Nat.beq (s.map bV).length (Nat.mul s.length 1)then _ else _)=_;rw[gW,bR,ah (show(s.map bV).length=Nat.mul s.length 1 by rw[List.length_map];exact(Nat.mul_one _).symm)];rfl
 rw[e1]
 have hmap:(l++s).map bV=l.map bV++s.map bV:=List.map_append
 by_cases hz:s=[]
 ·subst hz;have e2:app F M c 5 1 1 v 0 []= .k v M c:=by
   show(bif Nat.beq 0 0 then(bif wb v then RC.k v M c else .f)else _)=_;have:wb v=true:=by
    rcases h with⟨_,rfl⟩|⟨_,_,n,⟨hn,_⟩,rfl,_⟩
    ·rfl
    ·show Nat.ble l.length (Nat.sub n 0)=true;rw[cB];exact ah hn
   rw[this];rfl
  exact⟨v,M,c,e2,b,by rw[bF];exact h,hg,aj _,fun _ _ _=>rfl,.inl rfl⟩
 ·have hn0:s.length≠0:=fun e=>hz (List.length_eq_zero_iff.1 e);have grownEq:∀(N:Mem) (vs:List V) (k:Nat),mA k 1=true→vs.length=k→gO N c 5 1 k 0 false vs= .k (.u c 0 k 0 k) (N.set c (qm 5 k vs)) (c+1):=by
   intro N vs k hk hv;rw[oP N c 5 1 k vs hk];unfold qo qm;rw[hv]
  rcases h with⟨rfl,rfl⟩|⟨ha,hb,n,⟨hn,hn1⟩,rfl,hM⟩
  ·rw[aM,Nat.zero_add]at hr;refine⟨_,_,_,(F2 hn0).trans (grownEq M (s.map bV) s.length hr (List.length_map ..)),c,.inr ⟨hg.le,by omega,s.length,⟨aj _,by omega⟩,rfl,?_⟩,hg.set c _ hg.le (by omega) (by omega),by omega,fun x hx _=>ak _ _ (by omega),.inr (aj _)⟩;rw[Tr.get_set,ac rfl];rfl
  ·by_cases hfit:l.length+s.length≤n
   ·have hst:=E6 hM (vs:=s.map bV) (by rw[List.length_map,List.length_map];exact hfit) (gW s);rw[List.length_map]at hst;have e3:nr F M c 5 1 1 b 0 l.length 0 n s.length (s.map bV)= .k (.u b 0 (l.length+s.length) 0 n) (M.set b (qm 5 n (l.map bV++s.map bV))) c:=by
     unfold nr;rw[cB,ah (show Nat.add (Nat.add 0 l.length) s.length≤n by show 0+l.length+s.length≤n;omega),cond_true];unfold zF;rw[show Nat.add 0 (Nat.mul l.length 1)=l.length by show 0+l.length*1=l.length;omega,hst];show fN (l.length+s.length) (fun len=>RC.k (.u b 0 len 0 n) _ c)=_;rw[bA]
    refine⟨_,_,_,(BQ hn0).trans e3,b,.inr ⟨ha,hb,n,⟨by rw[aG];exact hfit,hn1⟩,by rw[aG],?_⟩,hg.set b _ ha hb (aj _),aj _,fun x _ hxb=>ak _ _ hxb,.inl rfl⟩;rw[Tr.get_set,ac rfl,hmap]
   ·have hcl:=(u6 (F:=F) hM (by rw[List.length_map];exact hn))
    have hcl2:cZ F M b 0 (l.map fun x=>[bV x]).flatten:=by rw[iK];exact hcl
    obtain⟨r,hrd⟩:=mq Nat.one_pos (es:=l.map fun x=>[bV x]) (fun e he=>by obtain⟨x,_,rfl⟩:=List.mem_map.1 he;rfl) hcl2;rw[List.length_map,iK]at hrd;have hmw:fJ M b 5 (Nat.add 0 (Nat.mul l.length 1)) (Nat.add 0 (Nat.mul (Nat.sub n 0) 1))=some (0,false):=by
     unfold fJ;rw[hM];show(bif Nat.beq 5 5&&Nat.beq n (0+(n-0)*1)&&Nat.ble 0 (0+l.length*1)&&Nat.ble (0+l.length*1) (0+(n-0)*1)then some (0,false)else none)=_;rw[bR,bR,cB,cB,ah (show 5=5 from rfl),ah (show n=0+(n-0)*1 by omega),ah (ax _),ah (show 0+l.length*1≤0+(n-0)*1 by omega)];rfl
    have e3:nr F M c 5 1 1 b 0 l.length 0 n s.length (s.map bV)=gO (M.del b) c 5 1 (l.length+s.length) 0 false (l.map bV++s.map bV):=by
     unfold nr;rw[cB,ag (show¬Nat.add (Nat.add 0 l.length) s.length≤n by show¬0+l.length+s.length≤n;omega),cond_false,hmw];show pT (M.del b) c 5 1 (l.length+s.length) 0 false (s.map bV) (readB F M 1 l.length b 0)=_;rw[hrd];rfl
    refine⟨_,_,_,((BQ hn0).trans e3).trans (grownEq _ _ _ hr (by rw[aG,List.length_map,List.length_map])),c,.inr ⟨by omega,by omega,l.length+s.length,⟨by rw[aG];exact aj _,by omega⟩,by rw[aG],?_⟩,(hg.del b ha).set c _ (by omega) (by omega) (by omega),by omega,fun x hx hxb=>?_,.inr (aj _)⟩
    ·rw[Tr.get_set,ac rfl,hmap]
    ·rw[ak _ _ (by omega),Tr.get_del,ab hxb]
def bw1(F:RO)(M:Mem)(c sz:Nat)(x y:V):RC:=zT sz (.c x) (.c y) F M c .e
theorem V8(sz:Nat)(x y:X)(M:Mem)(c:Nat)(t:T):eU (.cpy sz x y) (K Φ rd fn F) M c t=bw1 F M c sz (x.ev t) (y.ev t):=Eq.trans rfl (Eq.refl _)
theorem aP5(M:Mem)(c sz b o e k:Nat):bw1 F M c sz (.u b o 0 e k) .l0= .k (.i .i64 0) M c:=by
 show fN (bif Nat.ble 0 0 then 0 else 0) (fun n=>bif Nat.beq n 0 then RC.k (.i .i64 0) M c else bw2 M c n (.u b o 0 e k) (t7 F M sz n .l0))=_
 rw[bA];rfl
end
theorem rq{Φ:Nat→Option CF}{rd:Option Nat}{fn:Nat}{F:RO}(base i mask j b:Nat)(blk:bJ)(dst:Option aR)(o:EO)(r:List (Nat×Nat×CO))(t:T)(M:Mem)(c:Nat)(reads:List (Nat×Nat))(R:DS→Prop)(hj:(mask/2^j%2==1)=true)(hb:zI mask reads=true):
 ly base ((i,mask,.mk dst (.e o) none)::r) (K Φ rd fn F) (.mk t M c [(j,b,blk)] reads) R=ER (eU o (K Φ rd fn F) (M.set b blk) c t) F dst base r (K Φ rd fn F) t reads R:=by
 have hp:=ib hb
 have hj':testBit mask j=true:=by
  show Nat.beq (Nat.mod (Nat.div mask (Nat.pow 2 j)) 2) 1=true;rw[bR];exact ah (show mask/2^j%2=1 by simpa using hj)
 have hmg:eb mask [(j,b,blk)] M=(M.set b blk,[]):=by
  show(bif testBit mask j then(M.set b blk).force (fun M=>eb mask [] M)else _)=_;rw[hj',cond_true,Tr.force_eq];rfl
 have he:rG (K Φ rd fn F) base (i,mask,.mk dst (.e o) none) (.mk t M c [(j,b,blk)] reads)=nj F dst t [] reads [] (eU o (K Φ rd fn F) (M.set b blk) c t):=by
  show uZ o (K Φ rd fn F) mask dst t c reads (eb mask [(j,b,blk)] M)=_;rw[hmg];show pO o (K Φ rd fn F) dst t c [] reads (bN mask reads F (M.set b blk) [])=_;rw[hp];rfl
 apply propext
 rw[eM,he]
 cases hd:eU o (K Φ rd fn F) (M.set b blk) c t with
 |f=>exact⟨fun⟨s',h,_⟩=>(by cases h),False.elim⟩
 |k v M' c'=>
  have h2:nj F dst t [] reads [] (.k v M' c')=if bQ M' F=true then some (DS.mk (setT t dst v) M' c' [] reads)else none:=by
   show(bif bQ M' F&&cq F M' []then(b8 [] M').force fun M=>(setT t dst v).force fun t=>some (DS.mk t M c' [] reads)else none)=_;cases hr:bQ M' F with
   |false=>rfl
   |true=>
    show((b8 [] M').force fun M=>(setT t dst v).force fun t=>some (DS.mk t M c' [] reads))=_;rw[Tr.force_eq,Tr.force_eq];rfl
  rw[h2];show _↔(bQ M' F=true∧ly base r (K Φ rd fn F) (.mk (setT t dst v) M' c' [] reads) R);cases hr:bQ M' F with
  |false=>exact⟨fun⟨s',h,_⟩=>(by simp at h),fun h=>(by cases h.1)⟩
  |true=>
   constructor
   ·rintro⟨s',h,q⟩;simp only[if_true]at h;obtain rfl:=ae h;exact⟨rfl,q⟩
   ·exact fun h=>⟨_,rfl,h.2⟩
section
variable{Φ:Nat→Option CF}{rd:Option Nat}{fn:Nat}{F:RO}
def kF(I:Nat→Nat→St→Prop)(n:Nat)(Q:Ex→St→Prop):Ex→St→Prop
 | .gto l,s=>∃m,m<n∧I m l s
 |e,s=>Q e s
theorem kG(I:Nat→Nat→St→Prop)(n:Nat)(Q:Ex→St→Prop)(l:Nat)(s:St):kF I n Q (.gto l) s=∃m,m<n∧I m l s:=Eq.trans rfl (Eq.refl _)
theorem dR(I:Nat→Nat→St→Prop)(n:Nat)(Q:Ex→St→Prop)(s:St):kF I n Q .ret s=Q .ret s:=Eq.trans rfl (Eq.refl _)
theorem oa(I:Nat→Nat→St→Prop)(n:Nat)(Q:Ex→St→Prop)(id:Nat)(s:St):kF I n Q (.ext id) s=Q (.ext id) s:=Eq.trans rfl (Eq.refl _)
theorem gE(b:CC)(k:Kn)(Q:Ex→St→Prop)(l:Nat)(s:St):gJ b k Q (.gto l) s=Q (.gto l) s:=Eq.trans rfl (Eq.refl _)
theorem CN(id:Nat)(Q:Ex→St→Prop)(l:Nat)(s:St):dF id Q (.gto l) s=Q (.gto l) s:=Eq.trans rfl (Eq.refl _)
theorem je(l:Nat)(k:Kn)(s:St)(Q:Ex→St→Prop):Wp (.goto l) k s Q=Q (.gto l) s:=by
 apply propext;constructor
 ·rintro⟨e,s',h,q⟩;have h':Rs.k (.gto l) s= .k e s':=h;injection h' with h1 h2
  subst h1 h2;exact q
 ·exact fun h=>⟨_,_,rfl,h⟩
theorem wL{tbl:CC}{Q:Ex→St→Prop}(I:Nat→Nat→St→Prop)(h:∀n l s,I n l s→ ∃c,gM l tbl=some c∧Wp c (K Φ rd fn F) s (kF I n Q)):
 ∀n b s,Wp b (K Φ rd fn F) s (kF I n Q)→Wp (.scope b tbl) (K Φ rd fn F) s Q:=by
 intro n
 induction n using Nat.strongRecOn with
 |_ n ih=>
  rintro b s ⟨e,s',he,q⟩;have h0:bg (.scope b tbl) (K Φ rd fn F) s=gC tbl (K Φ rd fn F) (bg b (K Φ rd fn F) s):=rfl;cases e with
  |gto l=>
   obtain⟨m,hm,hI⟩:=q;obtain⟨c,hc,hw⟩:=h m l s' hI;obtain⟨e2,s2,h2,q2⟩:=ih m hm c s' hw;refine⟨e2,s2,?_,q2⟩;rw[h0,he];show o9 tbl (K Φ rd fn F) s' (gM l tbl)=_;rw[hc];show oF (K Φ rd fn F) (.scope c tbl) s'=_;rw[←h2];exact xP Φ rd fn F (.scope c tbl) s'
  |nrm=>exact⟨_,_,by rw[h0,he];rfl,q⟩
  |ret=>exact⟨_,_,by rw[h0,he];rfl,q⟩
  |ext id=>exact⟨_,_,by rw[h0,he];rfl,q⟩
end
end
end Go.Proofs.YtmbpllipombieaaDoor.Ev
