/- What is proved here: pieces of the evaluator's soundness: if the evaluator comes to a value, the model's run comes to it, for every world and tape; no conditions beyond the hypotheses of each theorem. -/
import Derived.Test.YtmbpllipombieaaDoorEv3
import GoSem.ClaimChange
import Derived.Stop.LaidErr
set_option linter.unusedSimpArgs false
set_option linter.unusedVariables false
set_option linter.defProp false
set_option maxRecDepth 100000
namespace Go.Proofs.YtmbpllipombieaaDoor.Ev
open Go Go.RowKit Go.ChangeShapes
noncomputable section
inductive Ty where
 |bool|int (k:IntKind)|str|sl (e:Ty)|nil|cons (a b:Ty)
def Ty.D:Ty→Type
 | .bool=>Bool
 | .int _=>Int
 | .str=>List UInt8
 | .sl e=>List e.D
 | .nil=>Unit
 | .cons a b=>a.D×b.D
def Ty.size:Ty→Nat
 | .nil=>0
 | .cons a b=>a.size+b.size
 |_=>1
def Ty.hasSl:Ty→Bool
 | .sl _=>true
 | .cons a b=>a.hasSl||b.hasSl
 |_=>false
def Ty.deep:Ty→Bool
 | .sl e=>e.hasSl
 | .cons a b=>a.deep||b.deep
 |_=>false
def Rp(F:RO)(M:Mem)(c:Nat):(t:Ty)→List V→t.D→Prop
 | .bool,vs,x=>vs=[.b x]
 | .int k,vs,n=>(fun z:Int=>vs=[.i k z]∧k.min≤z∧z≤k.max) n
 | .str,vs,x=>(fun l:List UInt8=>vs=[sV l]∧l.length≤Go.maxLen) x
 | .sl e,vs,x=>(fun l:List e.D=>∃v es,vs=[v]∧cB F M c e.size v es∧l.length≤Go.maxLen∧es.length=l.length∧ ∀i (h:i<es.length) (h':i<l.length),Rp F M c e es[i] l[i]) x
 | .nil,vs,_=>vs=[]
 | .cons a b,vs,x=>∃v1 v2,vs=v1++v2∧Rp F M c a v1 x.1∧Rp F M c b v2 x.2
theorem Rp.len{F:RO}{M:Mem}{c:Nat}:∀{t:Ty} {vs:List V} {x:t.D},Rp F M c t vs x→vs.length=t.size
 | .bool,vs,x,h=>by obtain rfl:vs=[.b x]:=h;rfl
 | .int k,vs,x,h=>by obtain⟨rfl,_⟩:=h;rfl
 | .str,vs,x,h=>by obtain⟨rfl,_⟩:=h;rfl
 | .sl e,vs,x,h=>by obtain⟨v,es,rfl,_⟩:=h;rfl
 | .nil,vs,x,h=>by obtain rfl:vs=[]:=h;rfl
 | .cons a b,vs,x,h=>by
   obtain⟨v1,v2,rfl,h1,h2⟩:=h;rw[aO,h1.len,h2.len];rfl
def Sz(B:Nat):(t:Ty)→t.D→Prop
 | .str,x=>(fun l:List UInt8=>l.length≤B) x
 | .sl e,x=>(fun l:List e.D=>l.length≤B∧ ∀y∈l,Sz B e y) x
 | .cons a b,x=>Sz B a x.1∧Sz B b x.2
 |_,_=>True
mutual
def pK(P:Program):Ty→TypeId→Bool
 | .bool,t=>match P.underlying t with|some .bool=>true|_=>false
 | .int k,t=>match P.underlying t with|some (.int k')=>decide (k'=k)|_=>false
 | .str,t=>match P.underlying t with|some .string=>true|_=>false
 | .sl e,t=>match P.underlying t with|some (.slice te)=>decide (P.cellsOf te=e.size∧0<P.bytesOf te)&&pK P e te|_=>false
 | .nil,_=>false
 | .cons a b,t=>match P.underlying t with
   |some (.struct fs)=>decide (P.cellsOf t=a.size+b.size)&&match fs.toList with
    |f::r=>decide (f.offset=0)&&(decide (P.cellsOf f.type=a.size)&&(pK P a f.type&&EC P b r a.size))
    |[]=>false
   |_=>false
def EC(P:Program):Ty→List Field→Nat→Bool
 | .nil,[],_=>true
 | .cons a b,f::r,o=>decide (f.offset=o)&&(decide (P.cellsOf f.type=a.size)&&(pK P a f.type&&EC P b r (o+a.size)))
 |_,_,_=>false
end
theorem dX{α β:Type}{f:α→Option β}:∀{l:List α} {r:List β},l.mapM f=some r→r.length=l.length∧ ∀i (h:i<l.length) (h':i<r.length),f l[i]=some r[i]
 |[],r,h=>by
  rw[List.mapM_nil]at h;obtain rfl:[]=r:=ae h;exact⟨rfl,fun i h=>by cases h⟩
 |a::l,r,h=>by
  rw[List.mapM_cons]at h;cases h1:f a with
  |none=>rw[h1]at h;cases h
  |some b=>
   rw[h1]at h;have h':(l.mapM f).bind (fun bs=>some (b::bs))=some r:=h;cases h2:l.mapM f with
   |none=>rw[h2]at h';cases h'
   |some bs=>
    rw[h2]at h';obtain rfl:b::bs=r:=ae h';obtain⟨h3,h4⟩:=dX h2;refine⟨by simp[h3],fun i hi hi'=>?_⟩;cases i with
    |zero=>exact h1
    |succ i=>exact h4 i (by simpa using hi) (by simpa using hi')
def EU(C:Nat):Value→Prop
 | .slice (some a) 0 0=>(a.spot=none∧a.block<C)∨wn a<C
 |_=>True
def wa(C:Nat)(cs:List Value)(vs:List V):Prop:=cs.map (yi C)=vs.map some
theorem wa.conc{C:Nat}:∀{cs:List Value} {vs:List V},wa C cs vs→aB E0 vs=cs∧eU (· <C) vs
 |[],[],_=>⟨rfl,trivial⟩
 |[],_::_,h=>by cases h
 |_::_,[],h=>by cases h
 |c::cs,v::vs,h=>by
  have h':yi C c::cs.map (yi C)=some v::vs.map some:=h;injection h' with h1 h2
  obtain⟨a1,a2⟩:=wa.conc (cs:=cs) (vs:=vs) h2;obtain⟨b1,b2⟩:=rU h1;exact⟨by rw[aB,a1,b1],b2,a2⟩
theorem wa.append{C:Nat}{cs cs':List Value}{vs vs':List V}(h:wa C cs vs)(h':wa C cs' vs'):wa C (cs++cs') (vs++vs'):=by
 unfold wa at *
 rw[List.map_append,List.map_append,h,h']
theorem wa.len{C:Nat}{cs:List Value}{vs:List V}(h:wa C cs vs):cs.length=vs.length:=by
 have:=congrArg List.length h
 simpa using this
theorem wa.get{C:Nat}{cs:List Value}{vs:List V}(h:wa C cs vs)(i:Nat)(hi:i<cs.length):yi C cs[i]=vs[i]?:=by
 have:=congrArg (fun l:List (Option V)=>l[i]?) h
 simp only[List.getElem?_map]at this
 rw[List.getElem?_eq_getElem hi,List.getElem?_eq_getElem (by rw[←h.len];exact hi)]at this
 rw[List.getElem?_eq_getElem (by rw[←h.len];exact hi)]
 simpa using this
section
variable{H:Type}{enc:TypeId×Value→H}{P:Program}{W:World}{C:Nat}{sp:Nat→Bool}{held:Bool}
theorem MX{r o:Nat}{cs:List Value}{vs:List V}(h:wa C cs vs)(hc:∀i (hi:i<cs.length),W.cell? ⟨r,o+i,none⟩=some cs[i]):cM (dR W C) .e r o vs:=by
 intro k hk
 have hk':k<cs.length:=by rw[h.len];exact hk
 have:=h.get k hk'
 rw[List.getElem?_eq_getElem hk]at this⊢
 exact EF (hc k hk') this
theorem tZ{t:TypeId}{cs:List Value}{fuel:Nat}{r:DataW H×List MemPlace}(hu:P.underlying t=some .bool)(h:DataW.trod enc P W 0 sp held fuel t cs=some r):∃b,cs=[.bool b]:=by
 cases fuel with
 |zero=>cases h
 |succ fuel=>
  unfold DataW.trod at h;rw[hu]at h;split at h<;>first|(rename_i e;cases e;done)|cases h|skip
  all_goals simp_all
theorem yg{t:TypeId}{k:IntKind}{cs:List Value}{fuel:Nat}{r:DataW H×List MemPlace}(hu:P.underlying t=some (.int k))(h:DataW.trod enc P W 0 sp held fuel t cs=some r):∃n,cs=[.int k n]∧k.min≤n∧n≤k.max:=by
 cases fuel with
 |zero=>cases h
 |succ fuel=>
  unfold DataW.trod at h;rw[hu]at h;split at h<;>first|(rename_i e;cases e;done)|cases h|skip
  rename_i k0 k' n e;simp only[Option.some.injEq,TypeDesc.int.injEq]at e;subst e;split at h
  ·rename_i hk;obtain⟨rfl,hw⟩:=hk;have hw':(decide (k'.min≤n)&&decide (n≤k'.max))=true:=hw;simp only[aX,decide_eq_true_eq]at hw';exact⟨n,rfl,hw'⟩
  ·cases h
theorem yh{t:TypeId}{cs:List Value}{fuel:Nat}{r:DataW H×List MemPlace}(hu:P.underlying t=some .string)(h:DataW.trod enc P W 0 sp held fuel t cs=some r):∃s:ByteArray,cs=[.string s]∧s.data.toList.length≤Go.maxLen∧r.1= .lit (.string s.data.toList):=by
 cases fuel with
 |zero=>cases h
 |succ fuel=>
  unfold DataW.trod at h;rw[hu]at h;split at h<;>first|(rename_i e;cases e;done)|cases h|skip
  rename_i s e;split at h
  ·rename_i hk;injection h with h
   exact⟨s,rfl,by simpa using hk,by rw[←h]⟩
  ·cases h
def BF(P:Program)(B:Nat)(t:TypeId)(d:DataW H):Prop:=∀n∈d.weights P t,n≤B
theorem Cm{P:Program}{e:TypeId}{n:Nat}:∀{l:List (DataW H)} {d:DataW H},d∈l→n∈d.weights P e→n∈DataW.weightsAll P e l
 |[],_,h,_=>by cases h
 |x::l,d,h,hn=>by
  rw[DataW.weightsAll,List.mem_append];rcases be.1 h with rfl|h
  ·exact .inl hn
  ·exact .inr (Cm h hn)
theorem wX{P:Program}{n:Nat}:∀{ts:List TypeId} {l:List (DataW H)} {i:Nat} {t:TypeId} {d:DataW H},ts[i]?=some t→l[i]?=some d→n∈d.weights P t→n∈DataW.weightsEach P ts l
 |[],_,i,_,_,h,_,_=>by cases i<;>cases h
 |_::_,[],i,_,_,_,h,_=>by cases i<;>cases h
 |t::ts,d::l,0,_,_,h1,h2,hn=>by
  cases h1;cases h2;rw[DataW.weightsEach,List.mem_append];exact .inl hn
 |t::ts,d::l,i+1,_,_,h1,h2,hn=>by
  rw[DataW.weightsEach,List.mem_append];exact .inr (wX (i:=i) h1 h2 hn)
theorem Db{B:Nat}{t te:TypeId}{cs:List Value}{fuel:Nat}{r:DataW H×List MemPlace}(hu:P.underlying t=some (.slice te))(h:DataW.trod enc P W 0 sp held fuel t cs=some r):
 cs=[.slice none 0 0]∨ ∃a len cap fuel',cs=[.slice (some a) len cap]∧len≤cap∧cap≤Go.maxLen∧
  (∀i,i<len→ ∃es x,W.cells? 0 (a.add (i*P.cellsOf te)) (P.cellsOf te)=some es∧DataW.trod enc P W 0 sp held fuel' te es=some x∧(BF P B t r.1→BF P B te x.1))∧(BF P B t r.1→len*P.bytesOf te≤B)∧
  (sp a.block=true→0<cap→ ∃es,W.cells? 0 a (P.cellsOf te)=some es):=by
 cases fuel with
 |zero=>cases h
 |succ fuel=>
  unfold DataW.trod at h;rw[hu]at h;split at h<;>first|(rename_i e;cases e;done)|cases h|skip
  ·exact .inl rfl
  ·rename_i e0 a len cap e;simp only[Option.some.injEq,TypeDesc.slice.injEq]at e;subst e;simp only at h;split at h
   ·rename_i hk;obtain⟨_,h1,h2⟩:=hk;cases hm:(List.range len).mapM fun i=>(W.cells? 0 (a.add (i*P.cellsOf te)) (P.cellsOf te)).bind (DataW.trod enc P W 0 sp held fuel te)with
    |none=>rw[hm]at h;cases h
    |some elems=>
     obtain⟨hl,hget⟩:=dX hm;obtain⟨rest,hr⟩:∃rest,r.1= .slice (elems.map (·.1)) rest:=by
      rw[hm]at h;simp only[Option.bind_some]at h;rw[bf]at h;obtain⟨rs,_,h⟩:=h;exact⟨_,by rw[←h]⟩
     have hw:r.1.weights P t=((elems.map (·.1)).length+rest.length)*P.bytesOf te::(DataW.weightsAll P te (elems.map (·.1))++DataW.weightsAll P te rest):=by
      rw[hr,DataW.weights,hu]
     rw[List.length_range]at hl
     have hlen':BF P B t r.1→len*P.bytesOf te≤B:=fun hW=>by
      have:=hW _ (by rw[hw];exact bJ ..);rw[List.length_map,hl]at this;exact aY (Nat.mul_le_mul (Nat.le_add_right _ _) (ah _)) this
     have hel:∀i,i<len→ ∃es x,W.cells? 0 (a.add (i*P.cellsOf te)) (P.cellsOf te)=some es∧DataW.trod enc P W 0 sp held fuel te es=some x∧(BF P B t r.1→BF P B te x.1):=fun i hi=>by
      have:=hget i (by simpa using hi) (by rw[hl];exact hi);simp only[List.getElem_range]at this;cases hc:W.cells? 0 (a.add (i*P.cellsOf te)) (P.cellsOf te)with
      |none=>rw[hc]at this;cases this
      |some es=>
       rw[hc]at this;refine⟨es,_,rfl,this,fun hW n hn=>hW n ?_⟩;rw[hw];exact br _ (List.mem_append_left _ (Cm (List.mem_map.2 ⟨_,List.getElem_mem _,rfl⟩) hn))
     refine .inr ⟨a,len,cap,fuel,rfl,h1,h2,hel,hlen',fun hsp h0=>?_⟩;by_cases hlen:0<len
     ·obtain⟨es,_,he,_⟩:=hel 0 hlen;rw[Nat.zero_mul]at he;exact⟨es,by simpa [Addr.add]using he⟩
     ·rw[hm]at h;simp only[Option.bind_some,ac hsp]at h;cases hm2:(List.range (cap-len)).mapM fun j=>(W.cells? 0 (a.add ((len+j)*P.cellsOf te)) (P.cellsOf te)).bind (DataW.trod enc P W 0 sp held fuel te)with
      |none=>rw[hm2]at h;cases h
      |some rest=>
       obtain⟨g1,g2⟩:=dX hm2;rw[List.length_range]at g1;have:=g2 0 (by rw[List.length_range];omega) (by omega);simp only[List.getElem_range]at this;rw[show(len+0)*P.cellsOf te=0 by rw[show len=0 by omega];simp]at this;cases hc:W.cells? 0 (a.add 0) (P.cellsOf te)with
       |none=>rw[hc]at this;cases this
       |some es=>exact⟨es,by simpa [Addr.add]using hc⟩
   ·cases h
theorem Dc{B:Nat}{t:TypeId}{fs:Array Field}{cs:List Value}{fuel:Nat}{r:DataW H×List MemPlace}(hu:P.underlying t=some (.struct fs))(h:DataW.trod enc P W 0 sp held fuel t cs=some r):
 cs.length=P.cellsOf t∧ ∃fuel',∀f∈fs.toList,∃x,DataW.trod enc P W 0 sp held fuel' f.type ((cs.drop f.offset).take (P.cellsOf f.type))=some x∧(BF P B t r.1→BF P B f.type x.1):=by
 cases fuel with
 |zero=>cases h
 |succ fuel=>
  have key:(if cs.length=P.cellsOf t then(fs.toList.mapM fun f=>DataW.trod enc P W 0 sp held fuel f.type ((cs.drop f.offset).take (P.cellsOf f.type))).map fun xs=>(DataW.agg (xs.map (·.1)),xs.flatMap (·.2))else none)=some r:=by
   unfold DataW.trod at h;rw[hu]at h;split at h<;>first|(rename_i e;cases e;done)|cases h|skip
   ·rename_i e;simp only[Option.some.injEq,TypeDesc.struct.injEq]at e;subst e;exact h
   ·exact(‹∀fs_1:Array Field,some (TypeDesc.struct fs)=some (TypeDesc.struct fs_1)→False› fs rfl).elim
  split at key
  ·rename_i hk;refine⟨hk,fuel,fun f hf=>?_⟩;rw[bf]at key;obtain⟨xs,hm,hr⟩:=key;obtain⟨hl,hget⟩:=dX hm;obtain⟨i,hi,rfl⟩:=List.getElem_of_mem hf;refine⟨_,hget i hi (by rw[hl];exact hi),fun hW n hn=>hW n ?_⟩;rw[←hr,DataW.weights,hu];refine wX (i:=i) (t:=fs.toList[i].type) (d:=(xs[i]'(by rw[hl];exact hi)).1) ?_ ?_ hn
   ·rw[List.getElem?_map,List.getElem?_eq_getElem hi];rfl
   ·rw[List.getElem?_map,List.getElem?_eq_getElem (by rw[hl];exact hi)];rfl
  ·cases key
theorem FC{a:Addr}{n c:Nat}(h1:a.spot=none)(h2:a.block<C):yi C (.slice (some a) n c)=some (.l a.block a.off n c):=by
 show(if a.spot=none∧a.block<C then some (V.l a.block a.off n c)else _)=_
 rw[ac ⟨h1,h2⟩]
theorem wA{a:Addr}{n:Nat}{cs:List Value}(hc:W.cells? 0 a n=some cs)(hn:0<n):a.spot=none∧a.block<W.heap.size:=by
 unfold World.cells? at hc
 rw[ac (az _)]at hc
 obtain⟨h1,h2⟩:=dX hc
 rw[List.length_range]at h1
 have:=h2 0 (by rw[List.length_range];exact hn) (by omega)
 rw[List.getElem_range,show a.add 0=a from rfl]at this
 unfold World.cell? at this
 split at this
 ·rename_i hh;split at this
  ·cases this
  ·rename_i hs;refine⟨?_,(Array.getElem?_eq_some_iff.1 hh).1⟩;cases hsp:a.spot with
   |none=>rfl
   |some k=>rw[hsp]at hs;simp at hs
 ·cases this
theorem Nn{sz:Nat}{a:Addr}{len cap:Nat}{Q:List Value→List V→Prop}(hs:a.spot=none)(hb:a.block<C)(hlc:len≤cap)
 (h:∀i,i<len→ ∃cs vs,W.cells? 0 (a.add (i*sz)) sz=some cs∧wa C cs vs∧Q cs vs):
 ∃es:List (List V),es.length=len∧cB (dR W C) .e C sz (.l a.block a.off len cap) es∧ ∀i (hi:i<es.length),∃cs,Q cs es[i]:=by
 obtain⟨b,o,sp⟩:=a
 obtain rfl:sp=none:=hs
 have hget:∀i,i<len→ ∃cs vs,wa C cs vs∧Q cs vs∧cs.length=sz∧ ∀k (hk:k<cs.length),W.cell? ⟨b,o+i*sz+k,none⟩=some cs[k]:=by
  intro i hi;obtain⟨cs,vs,h1,h2,h3⟩:=h i hi;rw[Addr.add_eq]at h1;unfold World.cells? at h1;rw[ac (az _)]at h1;obtain⟨h4,h5⟩:=dX h1;rw[List.length_range]at h4;refine⟨cs,vs,h2,h3,h4,fun k hk=>?_⟩;have:=h5 k (by rw[List.length_range];omega) hk;rw[List.getElem_range,Addr.add_eq]at this;exact this
 have key:∀n,n≤len→ ∃es:List (List V),es.length=n∧(∀e∈es,e.length=sz)∧cM (dR W C) .e b o es.flatten∧ ∀i (hi:i<es.length),∃cs,Q cs es[i]:=by
  intro n
  induction n with
  |zero=>intro _;exact⟨[],rfl,fun e he=>(by cases he),fun k hk=>(by simp at hk),fun i hi=>(by simp at hi)⟩
  |succ n ih=>
   intro hn;obtain⟨es,h1,h2,h3,h4⟩:=ih (by omega);obtain⟨cs,vs,g1,g2,g3,g4⟩:=hget n (by omega);have hvl:vs.length=sz:=by rw[←g1.len];exact g3
   have h2':∀e∈es++[vs],e.length=sz:=by
    intro e he;rw[List.mem_append,List.mem_singleton]at he;rcases he with he|rfl
    ·exact h2 e he
    ·exact hvl
   have hfl:es.flatten.length=n*sz:=by rw[ey h2,h1]
   refine⟨es++[vs],by simp[h1],h2',?_,fun i hi=>?_⟩
   ·intro k hk;rw[List.flatten_append]at hk⊢;simp only[List.flatten_cons,List.flatten_nil,bP,aO]at hk⊢;by_cases hk1:k<es.flatten.length
    ·rw[List.getElem?_append_left hk1];exact h3 k hk1
    ·rw[List.getElem?_append_right (by omega),hfl];have hr:=MX (o:=o+n*sz) g1 g4 (k-n*sz) (by omega);rw[←hr];congr 1;omega
   ·by_cases hi1:i<es.length
    ·rw[eT hi1];exact h4 i hi1
    ·rw[eS (by omega)];have:i-es.length=0:=by simp at hi;omega
     simp only[this,List.getElem_cons_zero];exact⟨cs,g2⟩
 obtain⟨es,h1,h2,h3,h4⟩:=key len (ah _)
 refine⟨es,h1,⟨h2,.inr ⟨b,o,.inl ⟨cap,by omega,by rw[h1]⟩,hb,h3⟩⟩,h4⟩
theorem QK{α:Type}{n:Nat}{Q:Nat→α→Prop}(h:∀i,i<n→ ∃x,Q i x):∃l:List α,l.length=n∧ ∀i (hi:i<l.length),Q i l[i]:=by
 induction n with
 |zero=>exact⟨[],rfl,fun i hi=>(by simp at hi)⟩
 |succ n ih=>
  obtain⟨l,h1,h2⟩:=ih fun i hi=>h i (by omega);obtain⟨x,hx⟩:=h n (by omega);refine⟨l++[x],by simp[h1],fun i hi=>?_⟩;by_cases hi1:i<l.length
  ·rw[eT hi1];exact h2 i hi1
  ·rw[eS (by omega)];have e:i=n:=by simp at hi;omega
   subst e;simp only[h1,Nat.sub_self,List.getElem_cons_zero];exact hx
theorem Ty.size_pos{P:Program}{ty:Ty}{t:TypeId}(h:pK P ty t=true):0<ty.size:=by
 induction ty generalizing t with
 |cons a b iha _=>
  rw[pK]at h;split at h
  ·simp only[aX]at h;obtain⟨_,h⟩:=h;split at h
   ·simp only[aX]at h;have:=iha h.2.2.1;show 0<a.size+b.size;omega
   ·cases h
  ·cases h
 |nil=>cases h
 |_=>exact Nat.one_pos
mutual
theorem pU{B:Nat}(hsp:∀b,sp b=true)(hC:W.heap.size≤C):∀(ty:Ty) (t:TypeId) (cs:List Value) (fuel:Nat) (r:DataW H×List MemPlace),pK P ty t=true→DataW.trod enc P W 0 sp held fuel t cs=some r→
 (ty.hasSl=true→ ∀v∈cs,EU C v)→(ty.deep=true→ ∀a x,W.cell? a=some x→EU C x)→ ∃vs x,wa C cs vs∧Rp (dR W C) .e C ty vs x∧(BF P B t r.1→Sz B ty x)
 | .bool,t,cs,fuel,r,hb,h,h1,h2=>by
   rw[pK]at hb;split at hb
   ·rename_i hu;obtain⟨b,rfl⟩:=tZ hu h;exact⟨[.b b],b,rfl,rfl,fun _=>trivial⟩
   ·cases hb
 | .int k,t,cs,fuel,r,hb,h,h1,h2=>by
   rw[pK]at hb;split at hb
   ·rename_i k' hu;obtain rfl:=bL hb;obtain⟨n,rfl,hn⟩:=yg hu h;exact⟨[.i k' n],n,rfl,⟨rfl,hn⟩,fun _=>trivial⟩
   ·cases hb
 | .str,t,cs,fuel,r,hb,h,h1,h2=>by
   rw[pK]at hb;split at hb
   ·rename_i hu;obtain⟨s,rfl,hs,hr⟩:=yh hu h;refine⟨[sV s.data.toList],s.data.toList,rfl,⟨rfl,hs⟩,fun hW=>hW _ ?_⟩;rw[hr,DataW.weights];exact List.mem_singleton.2 rfl
   ·cases hb
 | .sl e,t,cs,fuel,r,hb,h,h1,h2=>by
   rw[pK]at hb;split at hb
   ·rename_i te hu;simp only[aX,decide_eq_true_eq]at hb;obtain⟨⟨hsz,hbp⟩,hb⟩:=hb;have hpos:=Ty.size_pos hb;rcases Db (B:=B) hu h with rfl|⟨a,len,cap,fuel',rfl,hlc,hcap,hel,hlW,hfirst⟩
    ·exact⟨[.l0],[],rfl,⟨.l0,[],rfl,⟨fun e he=>(by cases he),.inl ⟨rfl,.inl rfl⟩⟩,az _,rfl,fun i hi=>(by cases hi)⟩,fun _=>⟨az _,fun y hy=>(by cases hy)⟩⟩
    ·have hz:=h1 rfl _ (List.mem_singleton.2 rfl);rw[hsz]at hel hfirst;have hok:(a.spot=none∧a.block<C)∨(len=0∧cap=0∧wn a<C∧ ¬(a.spot=none∧a.block<C)):=by
      by_cases h0:0<cap
      ·obtain⟨es,he⟩:=hfirst (hsp _) h0;obtain⟨g1,g2⟩:=wA he hpos;exact .inl ⟨g1,Nat.lt_of_lt_of_le g2 hC⟩
      ·obtain rfl:cap=0:=by omega
       obtain rfl:len=0:=by omega
       by_cases hq:a.spot=none∧a.block<C
       ·exact .inl hq
       ·exact .inr ⟨rfl,rfl,hz.resolve_left hq,hq⟩
     rcases hok with hok|⟨rfl,rfl,he,hq⟩
     rotate_left
     ·refine⟨[.ue (wn a) 1 0],[],?_,⟨.ue (wn a) 1 0,[],rfl,⟨fun e he=>(by cases he),.inl ⟨rfl,.inr ⟨_,_,_,rfl⟩⟩⟩,az _,rfl,fun i hi=>(by cases hi)⟩,fun _=>⟨az _,fun y hy=>(by cases hy)⟩⟩;show[yi C _]=[some _]
      congr 1
      show(if a.spot=none∧a.block<C then _ else if 0=0∧0=0∧wn a<C then some (V.ue (wn a) 1 0)else none)=_;rw[ab hq,ac ⟨rfl,rfl,he⟩]
     obtain⟨es,hl,hS,hQ⟩:=Nn (cap:=cap) (C:=C) (Q:=fun _ vs=>∃x,Rp (dR W C) .e C e vs x∧(BF P B t r.1→Sz B e x)) hok.1 hok.2 hlc (fun i hi=>by
      obtain⟨cs',x,hc,ht,hxW⟩:=hel i hi
      obtain⟨vs,y,hv,hR,hZ⟩:=pU (B:=B) hsp hC e te cs' fuel' x hb ht
       (fun he v hv=>by
        obtain⟨j,hj,rfl⟩:=List.getElem_of_mem hv;unfold World.cells? at hc;rw[ac (az _)]at hc;obtain⟨h4,h5⟩:=dX hc;exact h2 he _ _ (h5 j (by rw[List.length_range]at h4⊢;omega) hj))
       (fun he=>h2 (by
        have key:∀t:Ty,t.deep=true→t.hasSl=true:=by
         intro t
         induction t with
         |cons a b iha ihb=>
          intro hd;have hd':(a.deep||b.deep)=true:=hd;show(a.hasSl||b.hasSl)=true;rw[Bool.or_eq_true]at hd'⊢;exact hd'.imp iha ihb
         |sl e _=>intro _;rfl
         |_=>intro hd;cases hd
        exact key e he))
      exact⟨cs',vs,hc,hv,y,hR,fun hW=>hZ (hxW hW)⟩)
     obtain⟨xs,hxl,hx⟩:=QK (n:=es.length) (Q:=fun i x=>(∀h:i<es.length,Rp (dR W C) .e C e es[i] x)∧(BF P B t r.1→Sz B e x)) (fun i hi=>by
      obtain⟨_,x,hR,hZ⟩:=hQ i hi;exact⟨x,fun _=>hR,hZ⟩)
     refine⟨[.l a.block a.off len cap],xs,?_,⟨.l a.block a.off len cap,es,rfl,hS,?_,hxl.symm,fun i hi hi'=>(hx i hi').1 hi⟩,fun hW=>⟨?_,fun y hy=>?_⟩⟩
     ·show[yi C _]=[some _]
      rw[FC hok.1 hok.2]
     ·show List.length xs≤_;omega
     ·show List.length xs≤_;rw[hxl,hl];exact aY (Nat.le_mul_of_pos_right _ hbp) (hlW hW)
     ·obtain⟨i,hi,rfl⟩:=List.getElem_of_mem hy;exact(hx i hi).2 hW
   ·cases hb
 | .nil,t,cs,fuel,r,hb,h,h1,h2=>by cases hb
 | .cons a b,t,cs,fuel,r,hb,h,h1,h2=>by
   rw[pK]at hb;split at hb
   ·rename_i fs hu;simp only[aX,decide_eq_true_eq]at hb;obtain⟨hsz,hb⟩:=hb;obtain⟨hlen,fuel',hf⟩:=Dc (B:=B) hu h;split at hb
    ·rename_i f rest hfs;simp only[aX,decide_eq_true_eq]at hb;obtain⟨ho,hfa,hta,hrest⟩:=hb;rw[hfs]at hf;obtain⟨x,hx,hxW⟩:=hf f (bJ ..);rw[ho,hfa]at hx;have hs:(a.hasSl=true→ ∀v∈(cs.drop 0).take a.size,EU C v):=fun ha v hv=>h1 (by show(a.hasSl||b.hasSl)=true;rw[ha];rfl) v (List.mem_of_mem_drop (List.mem_of_mem_take hv));obtain⟨v1,x1,hv1,hR1,hZ1⟩:=pU (B:=B) hsp hC a f.type _ fuel' x hta hx hs (fun ha=>h2 (by show(a.deep||b.deep)=true;rw[ha];rfl))
     obtain⟨v2,x2,hv2,hR2,hZ2⟩:=CY (B:=B) (hyp:=BF P B t r.1) hsp hC b rest cs fuel' a.size hrest (by rw[hlen,hsz]) (fun f' hf'=>hf f' (br _ hf'))
      (fun hb' v hv=>h1 (by show(a.hasSl||b.hasSl)=true;rw[hb'];simp) v (List.mem_of_mem_drop hv)) (fun hb'=>h2 (by show(a.deep||b.deep)=true;rw[hb'];simp))
     refine⟨v1++v2,(x1,x2),?_,⟨v1,v2,rfl,hR1,hR2⟩,fun hW=>⟨hZ1 (hxW hW),hZ2 hW⟩⟩;have:=hv1.append hv2
     rwa [List.drop_zero,List.take_append_drop]at this
    ·cases hb
   ·cases hb
theorem CY{B:Nat}{hyp:Prop}(hsp:∀b,sp b=true)(hC:W.heap.size≤C):∀(ty:Ty) (fs:List Field) (cs:List Value) (fuel o:Nat),EC P ty fs o=true→cs.length=o+ty.size→
 (∀f∈fs,∃x,DataW.trod enc P W 0 sp held fuel f.type ((cs.drop f.offset).take (P.cellsOf f.type))=some x∧(hyp→BF P B f.type x.1))→
 (ty.hasSl=true→ ∀v∈cs.drop o,EU C v)→(ty.deep=true→ ∀a x,W.cell? a=some x→EU C x)→ ∃vs x,wa C (cs.drop o) vs∧Rp (dR W C) .e C ty vs x∧(hyp→Sz B ty x)
 | .nil,[],cs,fuel,o,hb,hl,hf,h1,h2=>by
   refine⟨[],(),?_,rfl,fun _=>trivial⟩;rw[List.drop_eq_nil_of_le (by have:(Ty.nil).size=0:=rfl;omega)];rfl
 | .nil,_::_,cs,fuel,o,hb,hl,hf,h1,h2=>by cases hb
 | .bool,fs,cs,fuel,o,hb,hl,hf,h1,h2=>by cases fs<;>cases hb
 | .int k,fs,cs,fuel,o,hb,hl,hf,h1,h2=>by cases fs<;>cases hb
 | .str,fs,cs,fuel,o,hb,hl,hf,h1,h2=>by cases fs<;>cases hb
 | .sl e,fs,cs,fuel,o,hb,hl,hf,h1,h2=>by cases fs<;>cases hb
 | .cons a b,[],cs,fuel,o,hb,hl,hf,h1,h2=>by cases hb
 | .cons a b,f::rest,cs,fuel,o,hb,hl,hf,h1,h2=>by
   rw[EC]at hb;simp only[aX,decide_eq_true_eq]at hb;obtain⟨ho,hfa,hta,hrest⟩:=hb;have hl':cs.length=o+(a.size+b.size):=hl;obtain⟨x,hx,hxW⟩:=hf f (bJ ..);rw[ho,hfa]at hx;obtain⟨v1,x1,hv1,hR1,hZ1⟩:=pU (B:=B) hsp hC a f.type _ fuel x hta hx (fun ha v hv=>h1 (by show(a.hasSl||b.hasSl)=true;rw[ha];rfl) v (List.mem_of_mem_take hv)) (fun ha=>h2 (by show(a.deep||b.deep)=true;rw[ha];rfl))
   obtain⟨v2,x2,hv2,hR2,hZ2⟩:=CY (B:=B) (hyp:=hyp) hsp hC b rest cs fuel (o+a.size) hrest (by omega) (fun f' hf'=>hf f' (br _ hf'))
    (fun hb' v hv=>h1 (by show(a.hasSl||b.hasSl)=true;rw[hb'];simp) v (by rw[←List.drop_drop]at hv;exact List.mem_of_mem_drop hv)) (fun hb'=>h2 (by show(a.deep||b.deep)=true;rw[hb'];simp))
   refine⟨v1++v2,(x1,x2),?_,⟨v1,v2,rfl,hR1,hR2⟩,fun hW=>⟨hZ1 (hxW hW),hZ2 hW⟩⟩;have:=hv1.append hv2
   rwa [←List.drop_drop,List.take_append_drop]at this
end
theorem zK{W W':World}(h:∀i,i<W.heap.size→W'.heap[i]?=W.heap[i]?){a:Addr}{n:Nat}{cs:List Value}(hc:W.cells? 0 a n=some cs):W'.cells? 0 a n=some cs:=by
 unfold World.cells? at hc⊢
 rw[ac (az _)]at hc⊢
 have key:∀(l:List Nat) (r:List Value),(l.mapM fun i=>W.cell? (a.add i))=some r→(l.mapM fun i=>W'.cell? (a.add i))=some r:=by
  intro l
  induction l with
  |nil=>intro r hr;exact hr
  |cons x l ih=>
   intro r hr;rw[List.mapM_cons]at hr⊢;cases h1:W.cell? (a.add x)with
   |none=>rw[h1]at hr;cases hr
   |some v=>
    have e:W'.cell? (a.add x)=some v:=by
     unfold World.cell? at h1⊢;split at h1
     ·rename_i hh;rw[h _ (Array.getElem?_eq_some_iff.1 hh).1,hh];exact h1
     ·cases h1
    rw[h1]at hr;rw[e];cases h2:l.mapM fun i=>W.cell? (a.add i)with
    |none=>rw[h2]at hr;cases hr
    |some vs=>
     rw[h2]at hr;rw[ih vs h2];exact hr
 exact key _ _ hc
theorem Lc{W:World}{a:Addr}{n:Nat}{cs:List Value}(hc:W.cells? 0 a n=some cs)(hn:0<n):a.block<W.heap.size:=by
 unfold World.cells? at hc
 rw[ac (az _)]at hc
 obtain⟨h1,h2⟩:=dX hc
 rw[List.length_range]at h1
 have:=h2 0 (by rw[List.length_range];exact hn) (by omega)
 rw[List.getElem_range]at this
 unfold World.cell? at this
 split at this
 ·rename_i hh;have:=(Array.getElem?_eq_some_iff.1 hh).1;unfold Addr.add at this
  simpa using this
 ·cases this
theorem mV{α β:Type}{f g:α→Option β}:∀{l:List α} {r:List β},l.mapM f=some r→(∀x∈l,∀y,f x=some y→g x=some y)→l.mapM g=some r
 |[],r,h,_=>h
 |a::l,r,h,hfg=>by
  rw[List.mapM_cons]at h⊢;cases h1:f a with
  |none=>rw[h1]at h;cases h
  |some b=>
   rw[h1]at h;rw[hfg a (bJ ..) b h1];cases h2:l.mapM f with
   |none=>rw[h2]at h;cases h
   |some bs=>
    rw[h2]at h;rw[mV h2 fun x hx=>hfg x (br _ hx)];exact h
theorem Bf{t:TypeId}{fs:Array Field}{cs:List Value}{fuel:Nat}(hu:P.underlying t=some (.struct fs))(hlen:cs.length=P.cellsOf t):DataW.trod enc P W 0 sp held (fuel+1) t cs=
 (fs.toList.mapM fun f=>DataW.trod enc P W 0 sp held fuel f.type ((cs.drop f.offset).take (P.cellsOf f.type))).map fun xs=>(DataW.agg (xs.map (·.1)),xs.flatMap (·.2)):=by
 rw[DataW.trod_step]
 unfold DataW.trodStep
 rw[hu]
 clear hu
 split
 all_goals first
  |(rename_i e;simp only[Option.some.injEq,TypeDesc.struct.injEq]at e;subst e;rw[ac hlen];done)
  |(rename_i e;cases e;done)
  |exact(‹∀fs_1:Array Field,some (TypeDesc.struct fs)=some (TypeDesc.struct fs_1)→False› fs rfl).elim
  |skip
mutual
theorem lj{W W':World}(hW:∀i,i<W.heap.size→W'.heap[i]?=W.heap[i]?):∀(ty:Ty) (t:TypeId) (cs:List Value) (fuel:Nat) (r:DataW H×List MemPlace),pK P ty t=true→
 DataW.trod enc P W 0 (fun _=>true) held fuel t cs=some r→DataW.trod enc P W' 0 (fun b=>decide (b<W.heap.size)) held fuel t cs=some r
 |ty,t,cs,0,r,hb,h=>by cases h
 | .bool,t,cs,fuel+1,r,hb,h=>by
   rw[pK]at hb;split at hb
   ·rename_i hu;obtain⟨b,rfl⟩:=tZ hu h;simp only[DataW.trod,hu]at h⊢;exact h
   ·cases hb
 | .int k,t,cs,fuel+1,r,hb,h=>by
   rw[pK]at hb;split at hb
   ·rename_i k' hu;obtain rfl:=bL hb;obtain⟨n,rfl,hn⟩:=yg hu h;simp only[DataW.trod,hu]at h⊢;exact h
   ·cases hb
 | .str,t,cs,fuel+1,r,hb,h=>by
   rw[pK]at hb;split at hb
   ·rename_i hu;obtain⟨s,rfl,hs⟩:=yh hu h;simp only[DataW.trod,hu]at h⊢;exact h
   ·cases hb
 | .sl e,t,cs,fuel+1,r,hb,h=>by
   rw[pK]at hb;split at hb
   ·rename_i te hu;simp only[aX,decide_eq_true_eq]at hb;obtain⟨⟨hsz,_⟩,hb⟩:=hb;have hpos:=Ty.size_pos hb;rcases Db (B:=0) hu h with rfl|⟨a,len,cap,fuel',rfl,hlc,hcap,hel⟩
    ·simp only[DataW.trod,hu]at h⊢;exact h
    ·simp only[DataW.trod,hu]at h⊢;rw[ac ⟨az _,hlc,hcap⟩]at h⊢
     have elem:∀i y,(W.cells? 0 (a.add (i*P.cellsOf te)) (P.cellsOf te)).bind (DataW.trod enc P W 0 (fun _=>true) held fuel te)=some y→
      (W'.cells? 0 (a.add (i*P.cellsOf te)) (P.cellsOf te)).bind (DataW.trod enc P W' 0 (fun b=>decide (b<W.heap.size)) held fuel te)=some y:=by
      intro i y hy;cases hc:W.cells? 0 (a.add (i*P.cellsOf te)) (P.cellsOf te)with
      |none=>rw[hc]at hy;cases hy
      |some es=>
       rw[hc]at hy;rw[zK hW hc];exact lj hW e te es fuel y hb hy
     cases hm:(List.range len).mapM fun i=>(W.cells? 0 (a.add (i*P.cellsOf te)) (P.cellsOf te)).bind (DataW.trod enc P W 0 (fun _=>true) held fuel te)with
     |none=>rw[hm]at h;cases h
     |some elems=>
      rw[hm]at h;rw[mV hm fun i _=>elem i];simp only[Option.bind_some,if_true]at h⊢;by_cases hblk:a.block<W.heap.size
      ·rw[aj hblk];simp only[if_true];cases hm2:(List.range (cap-len)).mapM fun j=>(W.cells? 0 (a.add ((len+j)*P.cellsOf te)) (P.cellsOf te)).bind (DataW.trod enc P W 0 (fun _=>true) held fuel te)with
       |none=>rw[hm2]at h;cases h
       |some rest=>
        rw[hm2]at h;rw[mV hm2 fun i _=>elem (len+i)];exact h
      ·rw[ak hblk];have h0:cap-len=0:=by
        by_cases h0:cap-len=0
        ·exact h0
        ·exfalso;cases hm2:(List.range (cap-len)).mapM fun j=>(W.cells? 0 (a.add ((len+j)*P.cellsOf te)) (P.cellsOf te)).bind (DataW.trod enc P W 0 (fun _=>true) held fuel te)with
         |none=>rw[hm2]at h;cases h
         |some rest=>
          obtain⟨g1,g2⟩:=dX hm2;rw[List.length_range]at g1;have:=g2 0 (by rw[List.length_range];omega) (by omega);cases hc:W.cells? 0 (a.add ((len+(List.range (cap-len))[0]'(by rw[List.length_range];omega))*P.cellsOf te)) (P.cellsOf te)with
          |none=>rw[hc]at this;cases this
          |some es=>
           have:=Lc hc (by omega);unfold Addr.add at this;split at this<;>exact hblk this
       rw[h0]at h;simp only[List.range_zero,List.mapM_nil]at h;exact h
   ·cases hb
 | .nil,t,cs,fuel+1,r,hb,h=>by cases hb
 | .cons a b,t,cs,fuel+1,r,hb,h=>by
   rw[pK]at hb;split at hb
   ·rename_i fs hu;simp only[aX,decide_eq_true_eq]at hb;obtain⟨hsz,hb⟩:=hb;obtain⟨hlen,_⟩:=Dc (B:=0) hu h;rw[Bf hu hlen]at h⊢;split at hb
    ·rename_i f rest hfs;simp only[aX,decide_eq_true_eq]at hb;obtain⟨ho,hfa,hta,hrest⟩:=hb;rw[bf]at h;obtain⟨xs,hm,rfl⟩:=h;rw[hfs]at hm⊢
     rw[mV hm fun g hg y hy=>by
      rcases be.1 hg with rfl|hg
      ·exact lj hW a _ _ fuel y hta hy
      ·exact tn hW b rest fuel a.size hrest g hg _ y hy]
     rfl
    ·cases hb
   ·cases hb
theorem tn{W W':World}(hW:∀i,i<W.heap.size→W'.heap[i]?=W.heap[i]?):∀(ty:Ty) (fs:List Field) (fuel o:Nat),EC P ty fs o=true→ ∀f∈fs,∀(cs:List Value) (y:DataW H×List MemPlace),
 DataW.trod enc P W 0 (fun _=>true) held fuel f.type cs=some y→DataW.trod enc P W' 0 (fun b=>decide (b<W.heap.size)) held fuel f.type cs=some y
 | .nil,[],fuel,o,hb,f,hf,cs,y,h=>by cases hf
 | .nil,_::_,fuel,o,hb,f,hf,cs,y,h=>by cases hb
 | .bool,fs,fuel,o,hb,f,hf,cs,y,h=>by cases fs<;>cases hb
 | .int k,fs,fuel,o,hb,f,hf,cs,y,h=>by cases fs<;>cases hb
 | .str,fs,fuel,o,hb,f,hf,cs,y,h=>by cases fs<;>cases hb
 | .sl e,fs,fuel,o,hb,f,hf,cs,y,h=>by cases fs<;>cases hb
 | .cons a b,[],fuel,o,hb,f,hf,cs,y,h=>by cases hb
 | .cons a b,g::rest,fuel,o,hb,f,hf,cs,y,h=>by
   rw[EC]at hb;simp only[aX,decide_eq_true_eq]at hb;obtain⟨ho,hfa,hta,hrest⟩:=hb;rcases be.1 hf with rfl|hf
   ·exact lj hW a _ _ fuel y hta h
   ·exact tn hW b rest fuel _ hrest f hf cs y h
end
def Ty.arg:Ty→List V→V
 | .cons _ _,vs=> .g vs
 |_,v::_=>v
 |_,[]=>undef
def Ge(F:RO)(C:Nat):List Ty→List V→Prop
 |[],as=>as=[]
 |ty::r,as=>∃vs x a',as=ty.arg vs::a'∧Rp F .e C ty vs x∧Ge F C r a'
def FB(P:Program):List Ty→List TypeId→Bool
 |[],[]=>true
 |ty::r,t::ts=>pK P ty t&&FB P r ts
 |_,_=>false
theorem xe{base:Nat}{u:TypeId}{v:Value}(h:Cell.okWide P W .any base u v)(hC:W.heap.size≤C):EU C v:=by
 unfold EU
 split
 ·rename_i a;have key:W.has P .any base a 0 0∨ ∃e n,W.has P .any base a e n:=by
   unfold Cell.okWide at h;split at h<;>first|(rename_i e;cases e;done)|skip
   ·rename_i hne;unfold Cell.ok at h;split at h<;>first|(rename_i e;cases e;done)|skip
    all_goals first
     |exact h.elim
     |skip
    all_goals (rename_i e1 e2;first|cases e2|skip)
    exact .inr ⟨_,_,h.2.2⟩
  have:∃e n,W.has P .any base a e n:=by
   rcases key with h|h
   ·exact⟨0,0,h⟩
   ·exact h
  obtain⟨e,n,_,h1,row,cells,h2,_⟩:=this;refine .inl ⟨h1,?_⟩;unfold World.shape? at h2;split at h2
  ·rename_i hh;exact Nat.lt_of_lt_of_le (Array.getElem?_eq_some_iff.1 hh).1 hC
  ·cases h2
 ·trivial
theorem R0{base:Nat}{t:TypeId}{v:Value}(h:Value.okWide P W .any base t v)(hC:W.heap.size≤C):∀x∈v.cells.toList,EU C x:=by
 intro x hx
 unfold Value.okWide at h
 have agg:(∃cs,v= .agg cs∧cs.size=P.cellsOf t∧Row.okWide P W .any base t cs)→EU C x:=by
  rintro⟨cs,rfl,_,ts,_,_,hcell⟩;obtain⟨i,hi,rfl⟩:=List.getElem_of_mem hx
  obtain⟨u,_,hu⟩:=hcell i _ (by
   show cs[i]?=some _;rw[Array.getElem?_eq_getElem (by simpa [Value.cells]using hi)])
  exact xe hu hC
 split at h
 ·exact agg h
 ·exact agg h
 ·have hv:v.cells=#[v]∨ ∃cs,v= .agg cs:=by
   cases v<;>first|exact .inl rfl|exact .inr ⟨_,rfl⟩
  rcases hv with hv|⟨cs,rfl⟩
  ·rw[hv]at hx;obtain rfl:x=v:=by simpa using hx
   exact xe h hC
  ·exfalso;unfold Cell.okWide at h;split at h<;>first|(rename_i e1 e2;cases e2;done)|skip
   unfold Cell.ok at h;split at h<;>first|(rename_i e1 e2;cases e2;done)|exact h
theorem ZX{base:Nat}{t:TypeId}{v:Value}{fs:Array Field}(h:Value.okWide P W .any base t v)(hu:P.underlying t=some (.struct fs)):∃cs,v= .agg cs:=by
 unfold Value.okWide at h
 rw[hu]at h
 obtain⟨cs,e,_⟩:=h
 exact⟨cs,e⟩
theorem Q4{ty:Ty}{t:TypeId}{base:Nat}{v:Value}(h:Value.okWide P W .any base t v)(hb:pK P ty t=true)(hn:∀a b,ty≠ .cons a b):v.cells=#[v]:=by
 have hu:∀fs,P.underlying t≠some (.struct fs):=by
  intro fs hu;cases ty with
  |cons a b=>exact hn a b rfl
  |nil=>cases hb
  |_=>rw[pK,hu]at hb;cases hb
 have hu2:∀n e,P.underlying t≠some (.array n e):=by
  intro n e hu;cases ty with
  |cons a b=>exact hn a b rfl
  |nil=>cases hb
  |_=>rw[pK,hu]at hb;cases hb
 unfold Value.okWide at h
 split at h
 ·exact(hu _ (by assumption)).elim
 ·exact(hu2 _ _ (by assumption)).elim
 ·cases v<;>first|rfl|skip
  exfalso;unfold Cell.okWide at h;split at h<;>first|(rename_i e1 e2;cases e2;done)|skip
  unfold Cell.ok at h;split at h<;>first|(rename_i e1 e2;cases e2;done)|exact h
theorem a00(hsp:∀b,sp b=true){ty:Ty}{t:TypeId}{base:Nat}{v:Value}{d:DataW H}{ps:List MemPlace}(hb:pK P ty t=true)(h:DataW.Trod enc P W 0 sp held t v d ps)(hv:Value.okWide P W .any base t v)(hC:W.heap.size≤C)
 (hd:ty.deep=true→ ∀a x,W.cell? a=some x→EU C x) (B:Nat):∃vs x,conc E0 (ty.arg vs)=v∧bd (· <C) (ty.arg vs)∧Rp (dR W C) .e C ty vs x∧(BF P B t d→Sz B ty x):=by
 obtain⟨fuel,h⟩:=h
 obtain⟨vs,x,h1,h2⟩:=pU (B:=B) hsp hC ty t _ fuel _ hb h (fun _=>R0 hv hC) hd
 obtain⟨c1,c2⟩:=h1.conc
 refine⟨vs,x,?_,?_,h2⟩
 ·cases ty with
  |cons a b=>
   rw[pK]at hb;split at hb
   ·rename_i fs hu;obtain⟨cs,rfl⟩:=ZX hv hu;show Value.agg (aB E0 vs).toArray=_;rw[c1];simp[Value.cells]
   ·cases hb
  |nil=>cases hb
  |_=>
   have hc:=Q4 hv hb (by intro a b e;cases e);rw[hc]at c1 h1;have hl:=h1.len
   match vs,hl with
   |[w],_=>
    have:[conc E0 w]=[v]:=c1;injection this
 ·cases ty with
  |cons a b=>exact c2
  |nil=>cases hb
  |_=>
   cases vs with
   |nil=>trivial
   |cons w r=>exact c2.1
theorem BX(hsp:∀b,sp b=true){base:Nat}(hC:W.heap.size≤C):∀{yG:List Ty} {ts:List TypeId} {vs:List Value} {ds:List (DataW H)} {ps:List MemPlace},FB P yG ts=true→DataW.TrodAll enc P W 0 sp held ts vs ds ps→
 (∀(j:Nat) t v,ts[j]?=some t→vs[j]?=some v→Value.okWide P W .any base t v)→(yG.any Ty.deep=true→ ∀a x,W.cell? a=some x→EU C x)→ ∃as,aB E0 as=vs∧eU (· <C) as∧Ge (dR W C) C yG as
 |[],[],[],ds,ps,hb,h,hv,hd=>⟨[],rfl,trivial,rfl⟩
 |[],[],_::_,ds,ps,hb,h,hv,hd=>by cases ds<;>cases h
 |[],_::_,vs,ds,ps,hb,h,hv,hd=>by cases hb
 |_::_,[],vs,ds,ps,hb,h,hv,hd=>by cases hb
 |ty::yG,t::ts,[],ds,ps,hb,h,hv,hd=>by cases ds<;>cases h
 |ty::yG,t::ts,v::vs,[],ps,hb,h,hv,hd=>by cases h
 |ty::yG,t::ts,v::vs,d::ds,ps,hb,h,hv,hd=>by
  have hb':(pK P ty t&&FB P yG ts)=true:=hb;rw[aX]at hb';obtain⟨p,q,h1,h2,_⟩:=h;obtain⟨ws,x,g1,g2,g3,_⟩:=a00 hsp hb'.1 h1 (hv 0 t v rfl rfl) hC (fun hh=>hd (by rw[List.any_cons,hh];rfl)) 0;obtain⟨as,a1,a2,a3⟩:=BX hsp hC hb'.2 h2 (fun j t v ht hv'=>hv (j+1) t v ht hv') (fun hh=>hd (by rw[List.any_cons,hh];simp));exact⟨ty.arg ws::as,by rw[aB,g1,a1],⟨g2,a2⟩,ws,x,as,rfl,g3,a3⟩
theorem wp{W':World}(hW:∀i,i<W.heap.size→W'.heap[i]?=W.heap[i]?):∀{yG:List Ty} {ts:List TypeId} {vs:List Value} {ds:List (DataW H)} {ps:List MemPlace},FB P yG ts=true→
 DataW.TrodAll enc P W 0 (fun _=>true) held ts vs ds ps→DataW.TrodAll enc P W' 0 (fun b=>decide (b<W.heap.size)) held ts vs ds ps
 |[],[],[],[],ps,hb,h=>h
 |[],[],[],_::_,ps,hb,h=>by cases h
 |[],[],_::_,ds,ps,hb,h=>by cases ds<;>cases h
 |[],_::_,vs,ds,ps,hb,h=>by cases hb
 |_::_,[],vs,ds,ps,hb,h=>by cases hb
 |ty::yG,t::ts,[],ds,ps,hb,h=>by cases ds<;>cases h
 |ty::yG,t::ts,v::vs,[],ps,hb,h=>by cases h
 |ty::yG,t::ts,v::vs,d::ds,ps,hb,h=>by
  have hb':(pK P ty t&&FB P yG ts)=true:=hb;rw[aX]at hb';obtain⟨p,q,⟨fuel,h1⟩,h2,e⟩:=h;exact⟨p,q,⟨fuel,lj hW ty t _ fuel _ hb'.1 h1⟩,wp hW hb'.2 h2,e⟩
theorem Mt{W:World}{C:Nat}(hC:W.heap.size≤C)(hk:1000≤C):cU (dR W C) .e C:=by
 refine⟨fun _ _=>rfl,fun b hb=>?_,fun _ _=>rfl,hk⟩
 rw[kR,Array.getElem?_eq_none (by omega)];rfl
def PQ:Value→Nat
 | .slice (some a) 0 0=>wn a+1
 |_=>0
theorem wy:∀l:List Value,∃B,∀x∈l,PQ x≤B
 |[]=>⟨0,fun x hx=>by cases hx⟩
 |v::l=>by
  obtain⟨B,hB⟩:=wy l;refine⟨max (PQ v) B,fun x hx=>?_⟩;rcases be.1 hx with rfl|hx
  ·exact Nat.le_max_left _ _
  ·exact aY (hB x hx) (Nat.le_max_right _ _)
theorem wx:∀l:List Obj,∃B,∀cs t f,Obj.cells cs t f∈l→ ∀x∈cs.toList,PQ x≤B
 |[]=>⟨0,fun cs t f h=>by cases h⟩
 |o::l=>by
  obtain⟨B,hB⟩:=wx l;obtain⟨B',hB'⟩:∃B',∀cs t f,o=Obj.cells cs t f→ ∀x∈cs.toList,PQ x≤B':=by
   cases o with
   |cells cs t f=>
    obtain⟨B',h⟩:=wy cs.toList;exact⟨B',fun cs' t' f' e=>by injection e with e1 e2 e3;subst e1;exact h⟩
   |_=>exact⟨0,fun cs t f e=>by cases e⟩
  refine⟨max B B',fun cs t f h x hx=>?_⟩;rcases be.1 h with h|h
  ·exact aY (hB' cs t f h.symm x hx) (Nat.le_max_right _ _)
  ·exact aY (hB cs t f h x hx) (Nat.le_max_left _ _)
theorem ab7(W:World):∃C,1000≤C∧W.heap.size≤C∧ ∀a x,W.cell? a=some x→EU C x:=by
 obtain⟨B,hB⟩:=wx W.heap.toList
 refine⟨max 1000 (max W.heap.size B),Nat.le_max_left _ _,aY (Nat.le_max_left _ _) (Nat.le_max_right _ _),fun a x hx=>?_⟩
 unfold World.cell? at hx
 split at hx
 ·rename_i cs t f hh;split at hx
  ·cases hx
  ·have hm:Obj.cells cs t f∈W.heap.toList:=by
    obtain⟨h1,h2⟩:=Array.getElem?_eq_some_iff.1 hh;rw[←h2];exact Array.getElem_mem_toList h1
   have hxm:x∈cs.toList:=by
    obtain⟨h1,h2⟩:=Array.getElem?_eq_some_iff.1 hx;rw[←h2];exact Array.getElem_mem_toList h1
   have hb:=hB cs t f hm x hxm;unfold EU;split
   ·rename_i a';have hb':wn a'+1≤B:=hb;right;have:=Nat.le_max_right 1000 (max W.heap.size B);have:=Nat.le_max_right W.heap.size B;omega
   ·trivial
 ·cases hx
end
section
variable{Φ:Nat→Option CF}{rd:Option Nat}{fn:Nat}{F:RO}
theorem jl{M:Mem}(b:Nat):∀{F:RO},bH M F=true→bH (M.del b) F=true
 |[],_=>rfl
 |(b',x)::F,h=>by
  rw[dB,aX]at h;rw[dB,jl b h.2,Tr.get_del];split
  ·rfl
  ·rw[h.1];rfl
def aE5(o:Option V)(p:Option ay)(base:Nat)(r:List (Nat×Nat×CO))(k:Kn)(t:T)(M:Mem)(c:Nat)(reads:List (Nat×Nat))(R:DS→Prop):Prop:=match o with
 |some v=>jM base r k (.mk (setT t p v) M c [] reads) R
 |none=>False
theorem aY6(v:V)(p:Option ay)(base:Nat)(r:List (Nat×Nat×CO))(k:Kn)(t:T)(M:Mem)(c:Nat)(reads:List (Nat×Nat))(R:DS→Prop):aE5 (some v) p base r k t M c reads R=jM base r k (.mk (setT t p v) M c [] reads) R:=Eq.trans rfl (Eq.refl _)
theorem b88{base i mask:Nat}{dst:Option ay}{o:OK}{g:ay}{want:Bool}{r:List (Nat×Nat×CO)}{k:Kn}{t:T}{M:Mem}{c:Nat}{pend:List (Nat×Nat×bw)}{reads:List (Nat×Nat)}{R:DS→Prop}(hg:cd t g= .b want):
 jM base ((i,mask,.mk dst o (some (g,want)))::r) k (.mk t M c pend reads) R=jM base ((i,mask,.mk dst o none)::r) k (.mk t M c pend reads) R:=by
 have hw:wanted t (some (g,want))=true:=by
  show fL want (cd t g)=_;rw[hg];cases want<;>rfl
 have hs:px k base (i,mask,.mk dst o (some (g,want))) (.mk t M c pend reads)=px k base (i,mask,.mk dst o none) (.mk t M c pend reads):=by
  show(bif wanted t (some (g,want))then _ else _)=_;rw[hw];rfl
 apply propext
 rw[ea,ea,hs]
theorem b87{base i mask:Nat}{dst:Option ay}{o:OK}{g:ay}{want:Bool}{r:List (Nat×Nat×CO)}{k:Kn}{t:T}{M:Mem}{c:Nat}{pend:List (Nat×Nat×bw)}{reads:List (Nat×Nat)}{R:DS→Prop}(hg:cd t g= .b (!want)):
 jM base ((i,mask,.mk dst o (some (g,want)))::r) k (.mk t M c pend reads) R=jM base r k (.mk (setT t dst undef) M c pend reads) R:=by
 have hw:wanted t (some (g,want))=false:=by
  show fL want (cd t g)=_;rw[hg];cases want<;>rfl
 have hs:px k base (i,mask,.mk dst o (some (g,want))) (.mk t M c pend reads)=some (.mk (setT t dst undef) M c pend reads):=by
  show(bif wanted t (some (g,want))then _ else(setT t dst undef).force fun t=>some (DS.mk t M c pend reads))=_;rw[hw];show(setT t dst undef).force (fun t=>some (DS.mk t M c pend reads))=_;rw[Tr.force_eq]
 apply propext
 rw[ea,hs]
 constructor
 ·rintro⟨s',h,q⟩;obtain rfl:=ae h;exact q
 ·exact fun q=>⟨_,rfl,q⟩
theorem b89{base i mask:Nat}{dst:Option ay}{o:OK}{g:ay}{want:Bool}{r:List (Nat×Nat×CO)}{k:Kn}{t:T}{M:Mem}{c:Nat}{pend:List (Nat×Nat×bw)}{reads:List (Nat×Nat)}{R:DS→Prop}(hg:cd t g=undef):
 jM base ((i,mask,.mk dst o (some (g,want)))::r) k (.mk t M c pend reads) R=jM base r k (.mk (setT t dst undef) M c pend reads) R:=by
 have hw:wanted t (some (g,want))=false:=by
  show fL want (cd t g)=_;rw[hg];rfl
 have hs:px k base (i,mask,.mk dst o (some (g,want))) (.mk t M c pend reads)=some (.mk (setT t dst undef) M c pend reads):=by
  show(bif wanted t (some (g,want))then _ else(setT t dst undef).force fun t=>some (DS.mk t M c pend reads))=_;rw[hw];show(setT t dst undef).force (fun t=>some (DS.mk t M c pend reads))=_;rw[Tr.force_eq]
 apply propext
 rw[ea,hs]
 constructor
 ·rintro⟨s',h,q⟩;obtain rfl:=ae h;exact q
 ·exact fun q=>⟨_,rfl,q⟩
theorem ae7(n:Nat)(b o:Nat)(M:Mem){vs:List V}(h:loadN F M b o n=some vs)(t:T)(x:X)(hx:x.ev t= .p b o):jL (.ldn n x) F M t= .r (.g vs) b:=by
 have hblk:∃blk,look F M b=some blk:=by
  unfold loadN at h;cases hl:look F M b with
  |none=>rw[hl]at h;cases h
  |some blk=>exact⟨blk,rfl⟩
 obtain⟨blk,hb⟩:=hblk
 have q:∀F' M',loadN F' M' b o n=some vs→cE (.ldn n x) F' M' t= .r (.g vs) b:=by
  intro F' M' h';show(pC (x.ev t) .f fun b o=>qgb b (loadN F' M' b o n))=_;rw[hx];show qgb b (loadN F' M' b o n)=_;rw[h'];rfl
 show Eh (.ldn n x) F M t (cE (.ldn n x) F M t)=_
 rw[q F M h]
 show Lg (.ldn n x) t b (look F M b)=_
 rw[hb]
 show xH b (cE (.ldn n x) [(b,blk)] .e t)=_
 have h':loadN [(b,blk)] .e b o n=some vs:=by
  unfold loadN at h⊢;rw[hb]at h;rw[aT (show(Tr.e:Mem).get b=none from rfl),cj,ac rfl];exact h
 rw[q _ _ h'];rfl
def aU8(n:Nat)(X:V)(F:RO)(M:Mem):QR:=jL (.ldn n (.c X)) F M .e
def aU9(b:Nat):Option (List V)→QR
 |some vs=> .r (.g vs) b
 |none=> .f
theorem EL(b:Nat)(vs:List V):aU9 b (some vs)= .r (.g vs) b:=Eq.trans rfl (Eq.refl _)
theorem Qd(n:Nat)(x:X)(M:Mem)(t:T):jL (.ldn n x) F M t=aU8 n (x.ev t) F M:=Eq.trans rfl (Eq.refl _)
theorem ae6(n b o:Nat)(M:Mem):aU8 n (.p b o) F M=aU9 b (loadN F M b o n):=by
 cases h:loadN F M b o n with
 |some vs=>exact ae7 n b o M h .e _ rfl
 |none=>
  show Eh (.ldn n (.c (.p b o))) F M .e (qgb b (loadN F M b o n))=_;rw[h];rfl
theorem aR2(c a b:X)(M:Mem)(t:T):jL (.pk c a b) F M t=oV (pkV (c.ev t) (a.ev t) (b.ev t)):=by
 refine(eX ?_).trans (congrArg oV (b33 (F:=F) c a b M t))
 intro F' M'
 show(Cq (c.ev t) QR.f fun x=>Bool.rec (motive:=fun _=>QR) (.v (b.ev t)) (.v (a.ev t)) x)=oV (Cq (c.ev t) QR.f fun x=>Bool.rec (motive:=fun _=>QR) (.v (b.ev t)) (.v (a.ev t)) x).val
 cases c.ev t with
 |b x=>cases x<;>rfl
 |_=>rfl
theorem aR3(op:UnOp)(x:X)(M:Mem)(t:T):jL (.un op x) F M t=oV (unV op (x.ev t)):=by
 refine(eX ?_).trans (congrArg oV (b34 (F:=F) op x M t))
 intro F' M'
 refine iT ?_
 show(cE (.un op x) F' M' t= .f∨_)
 cases op with
 |neg=>
  show((re (x.ev t) QR.f fun k n=>vI k (wr k (Int.sub 0 n)))= .f∨ ∃y,(re (x.ev t) QR.f fun k n=>vI k (wr k (Int.sub 0 n)))= .v y);cases x.ev t with
  |i k n=>exact .inr ⟨_,fj _ _⟩
  |_=>exact .inl rfl
 |not=>
  show((Cq (x.ev t) QR.f fun b=>vB (o9 b))= .f∨ ∃y,(Cq (x.ev t) QR.f fun b=>vB (o9 b))= .v y);cases x.ev t with
  |b b=>exact .inr ⟨_,kB _⟩
  |_=>exact .inl rfl
 |xor=>
  show((re (x.ev t) QR.f fun k n=>ie k (Nat.xor (Nat.sub (Nat.pow 2 (jC k)) 1) (mz k n)))= .f∨ ∃y,(re (x.ev t) QR.f fun k n=>ie k (Nat.xor (Nat.sub (Nat.pow 2 (jC k)) 1) (mz k n)))= .v y);cases x.ev t with
  |i k n=>exact .inr ⟨_,fj _ _⟩
  |_=>exact .inl rfl
 |plus=>exact .inl rfl
def rJ:Sh→Bool
 | .ptr=>false
 | .agg _=>false
 |_=>true
def pg:List (Nat×Sh)→Bool
 |[]=>true
 |(_,s)::r=>rJ s&&pg r
def Fr:Sh→Bool
 | .ptr=>false
 | .agg ks=>pg ks
 |_=>true
theorem Lw{sh:Sh}(h:rJ sh=true)(F':RO)(M M':Mem)(lit:Bool)(x y:V):Cb F' M' sh lit x y=Cb F M sh lit x y:=by
 cases sh<;>first|rfl|cases h
theorem qS(F':RO)(M M':Mem)(xs ys:List V):∀{ks:List (Nat×Sh)},pg ks=true→jA F' M' xs ys ks=jA F M xs ys ks
 |[],_=>rfl
 |(o,s)::r,h=>by
  have h':(rJ s&&pg r)=true:=h;rw[aX]at h';rw[lU,lU,qS F' M M' xs ys h'.2]
  congr 1
  cases xs[o]? with
  |none=>rfl
  |some x=>
   cases ys[o]? with
   |none=>rfl
   |some y=>exact Lw h'.1 F' M M' false x y
theorem Lz{sh:Sh}(h:Fr sh=true)(F':RO)(M M':Mem)(lit:Bool)(x y:V):vX F' M' sh lit x y=vX F M sh lit x y:=by
 cases sh with
 |agg ks=>
  show ti F' M' ks x y=ti F M ks x y;unfold ti;cases x<;>first|rfl|skip
  cases y<;>first|rfl|skip
  exact qS F' M M' _ _ h
 |ptr=>cases h
 |_=>rfl
theorem aQ8(neg:Bool)(sh:Sh)(lit:Bool)(x y:X)(M:Mem)(t:T)(h:Fr sh=true):jL (.eq neg sh lit x y) F M t=oV (QP neg (vX F M sh lit (x.ev t) (y.ev t))):=by
 refine(eX ?_).trans (congrArg oV (b25 (F:=F) neg sh lit x y M t))
 intro F' M'
 show tO neg (vX F' M' sh lit (x.ev t) (y.ev t))=oV (tO neg (vX [] .e sh lit (x.ev t) (y.ev t))).val
 rw[Lz (F:=[]) h F' .e M']
 refine iT ?_
 cases vX [] .e sh lit (x.ev t) (y.ev t)with
 |none=>exact .inl rfl
 |some r=>exact .inr ⟨_,kB _⟩
theorem Nh(ks:List (Nat×Sh)):Fr (.agg ks)=pg ks:=rfl
theorem Fv:pg []=true:=Eq.trans rfl (Eq.refl _)
theorem AY(o:Nat)(s:Sh)(r:List (Nat×Sh)):pg ((o,s)::r)=(rJ s&&pg r):=rfl
theorem Fs:rJ .int=true:=Eq.trans rfl (Eq.refl _)
theorem AX:rJ .bool=true:=Eq.trans rfl (Eq.refl _)
theorem Ft:rJ .str=true:=Eq.trans rfl (Eq.refl _)
theorem Ni:Fr .int=true:=Eq.trans rfl (Eq.refl _)
theorem Fu:Fr .bool=true:=Eq.trans rfl (Eq.refl _)
theorem Nj:Fr .str=true:=Eq.trans rfl (Eq.refl _)
theorem Ly(lit:Bool)(M:Mem)(a b:Bool):vX F M .bool lit (.b a) (.b b)=some (decide (a=b)):=wF (F:=F) lit M a b
theorem aR0(off:Nat)(x:X)(M:Mem)(t:T):jL (.fa off x) F M t=oV (match x.ev t with| .p b o=>some (.p b (o+off))|_=>none):=by
 refine(eX ?_).trans (congrArg oV (b27 (F:=F) off x M t))
 intro F' M'
 refine iT ?_
 show((pC (x.ev t) QR.f fun b o=>si b (Nat.add o off))= .f∨ ∃y,(pC (x.ev t) QR.f fun b o=>si b (Nat.add o off))= .v y)
 cases x.ev t with
 |p b o=>exact .inr ⟨.p b (o+off),by show si b (o+off)=_;unfold si;rw[bp]⟩
 |_=>exact .inl rfl
theorem ac5(x:X)(M:Mem)(t:T):jL (.ln .slice x) F M t=oV (tD (x.ev t)):=by
 refine(eX ?_).trans (congrArg oV ((ak2 (F:=F) .slice x M t).trans (aV3 (F:=F) M _)))
 intro F' M'
 refine iT ?_
 show(CL (Ah (x.ev t))= .f∨ ∃y,CL (Ah (x.ev t))= .v y)
 cases Ah (x.ev t)with
 |none=>exact .inl rfl
 |some n=>exact .inr ⟨_,rfl⟩
theorem ac6(x:X)(M:Mem)(t:T):jL (.ln .str x) F M t=oV (lnV .str F M (x.ev t)):=by
 refine(eX ?_).trans (congrArg oV (ak2 (F:=F) .str x M t))
 intro F' M'
 refine iT ?_
 show((tI (x.ev t) QR.f fun n _=> .v (.i .i64 (.ofNat n)))= .f∨ ∃y,(tI (x.ev t) QR.f fun n _=>QR.v (.i .i64 (.ofNat n)))= .v y)
 cases x.ev t with
 |s n x=>exact .inr ⟨_,rfl⟩
 |_=>exact .inl rfl
theorem ac2(x i:X)(M:Mem)(t:T):jL (.ixS x i) F M t=oV (uW (x.ev t) (i.ev t)):=by
 refine(eX ?_).trans (congrArg oV (YB (F:=F) x i M t))
 intro F' M'
 refine iT ?_
 show((tI (x.ev t) QR.f fun n s=>Option.rec (motive:=fun _=>QR) .f (fun i=>ma n s i) (lO (i.ev t)))= .f∨ ∃y,(tI (x.ev t) QR.f fun n s=>Option.rec (motive:=fun _=>QR) .f (fun i=>ma n s i) (lO (i.ev t)))= .v y)
 cases x.ev t with
 |s n x=>
  show(Option.rec (motive:=fun _=>QR) .f (fun i=>ma n x i) (lO (i.ev t))= .f∨ ∃y,(Option.rec (motive:=fun _=>QR) .f (fun i=>ma n x i) (lO (i.ev t)):QR)= .v y);cases lO (i.ev t)with
  |none=>exact .inl rfl
  |some k=>
   show(Bool.rec (motive:=fun _=>QR) .f (fN (Nat.mod (Nat.div x (kh k)) 256) fun c=> .v (.i .u8 (.ofNat c))) (Nat.blt k n)= .f∨ ∃y,(Bool.rec (motive:=fun _=>QR) .f (fN (Nat.mod (Nat.div x (kh k)) 256) fun c=> .v (.i .u8 (.ofNat c))) (Nat.blt k n):QR)= .v y);cases Nat.blt k n with
   |false=>exact .inl rfl
   |true=>exact .inr ⟨_,by show fN _ _=_;rw[bp]⟩
 |_=>exact .inl rfl
def uO(u:List (Option V))(i:Nat):Option V:=(u[i]?).join
def rD(I:Nat→St→Prop)(n:Nat)(Q:Ex→St→Prop):Ex→St→Prop
 | .nrm,s=>∃m,m<n∧I m s
 |e,s=>Q e s
theorem AQ(I:Nat→St→Prop)(n:Nat)(Q:Ex→St→Prop)(s:St):rD I n Q .nrm s=∃m,m<n∧I m s:=Eq.trans rfl (Eq.refl _)
theorem AR(I:Nat→St→Prop)(n:Nat)(Q:Ex→St→Prop)(s:St):rD I n Q .ret s=Q .ret s:=Eq.trans rfl (Eq.refl _)
theorem AP(I:Nat→St→Prop)(n:Nat)(Q:Ex→St→Prop)(s:St)(id:Nat):rD I n Q (.ext id) s=Q (.ext id) s:=Eq.trans rfl (Eq.refl _)
theorem bS{b:CC}{Q:Ex→St→Prop}(I:Nat→St→Prop)(h:∀n s,I n s→Wp b (K Φ rd fn F) s (rD I n Q)):∀n s,I n s→Wp (.loop b) (K Φ rd fn F) s Q:=
 FF I fun n s hs=>(h n s hs).mono fun e s' he=>by cases e<;>exact he
end
section
variable{Φ:Nat→Option CF}{rd:Option Nat}{fn:Nat}{F:RO}
theorem oD{M:Mem}{b o ty n fz:Nat}{ex str:Bool}{d vs:List V}{t:T}(hM:M.get b=some (.cells ty n ex fz str d t))(h1:o+vs.length≤n)(h2:fz≤o)(h3:aE vs=true):
 bN M b o vs=some (M.set b (.cells ty n ex fz str d (bG vs o t))):=by
 show Option.rec (motive:=fun _=>Option Mem) none (fun blk=>lg M b o vs blk) (M.get b)=_
 rw[hM]
 show(Bool.rec (motive:=fun _=>Option Mem) none (Bool.rec (motive:=fun _=>Option Mem) none (Bool.rec (motive:=fun _=>Option Mem) none (dU M b o vs ty n ex fz str d t) (aE vs)) (Nat.ble fz o)) (Nat.ble (Nat.add o vs.length) n))=_
 rw[bb,bb,bb,bW,bW,aj (show Nat.add o vs.length≤n from h1),aj h2,h3]
 simp only[if_true]
 unfold dU
 rw[Tr.force_eq,Tr.force_eq]
def bB5(M:Mem)(c0 c b ty sz cap:Nat)(v:V)(es:List (List V)):Prop:=
 (∀e∈es,e.length=sz)∧es.length≤cap∧c0≤b∧b<c∧v= .l b 0 es.length cap∧ ∃d t,M.get b=some (.cells ty (cap*sz) true 0 false d t)∧ ∀k,k<es.flatten.length→cell (cap*sz) d t k=es.flatten[k]?
theorem Gy(ty sz bytes:Nat)(zero:List V)(l c:X)(b:Nat)(t:T){k k':IntKind}{n m:Nat}(hl:l.ev t= .i k (n:Int))(hc:c.ev t= .i k' (m:Int))(h1:n≤m)(h2:m*(bytes+1)≤1099511627776):
 iE (.mks ty sz bytes zero l c) b t=some (.l b 0 n m,.cells ty (m*sz) true 0 false zero .e):=by
 show uq ty sz bytes zero b (lO (l.ev t)) (lO (c.ev t))=_
 rw[hl,hc]
 show(bif Nat.ble n m&&Nat.ble (Nat.mul m (Nat.succ bytes)) 1099511627776 then fN (Nat.mul m sz) fun m'=>some (V.l b 0 n m,bw.cells ty m' true 0 false zero .e)else none)=_
 rw[bW,bW,aj h1,aj (show Nat.mul m (Nat.succ bytes)≤1099511627776 from h2)]
 show fN (m*sz) (fun m'=>some (V.l b 0 n m,bw.cells ty m' true 0 false zero .e))=_
 rw[bp]
def aV8(ty sz bytes:Nat)(zero:List V)(l c:V)(b:Nat):Option (V×bw):=iE (.mks ty sz bytes zero (.c l) (.c c)) b .e
theorem PF(ty sz bytes:Nat)(zero:List V)(l c:X)(b:Nat)(t:T):iE (.mks ty sz bytes zero l c) b t=aV8 ty sz bytes zero (l.ev t) (c.ev t) b:=Eq.trans rfl (Eq.refl _)
theorem af0(ty sz bytes:Nat)(zero:List V)(k k':IntKind)(n m b:Nat)(h1:n≤m)(h2:m*(bytes+1)≤1099511627776):aV8 ty sz bytes zero (.i k (n:Int)) (.i k' (m:Int)) b=some (.l b 0 n m,.cells ty (m*sz) true 0 false zero .e):=Gy ty sz bytes zero _ _ b .e rfl rfl h1 h2
def jP(F:RO)(M:Mem)(lo c sz:Nat)(v:V)(es:List (List V)):Prop:=∀M':Mem,(∀b,lo≤b→b<c→M'.get b=M.get b)→cB F M' c sz v es
theorem jP.sl{M:Mem}{lo c sz:Nat}{v:V}{es:List (List V)}(h:jP F M lo c sz v es):cB F M c sz v es:=h M fun _ _ _=>rfl
theorem jP.up{M M':Mem}{lo lo' c c' sz:Nat}{v:V}{es:List (List V)}(h:jP F M lo c sz v es)(hc:c≤c')(hl:lo'≤lo)(hM:∀b,lo≤b→b<c→M'.get b=M.get b):jP F M' lo' c' sz v es:=by
 intro M2 h2
 have h3:=h M2 fun b h1 h4=>(h2 b (by omega) (by omega)).trans (hM b h1 h4)
 rcases h3 with⟨a,b|⟨b,o,hv,hb,hcs⟩⟩
 ·exact⟨a,.inl b⟩
 ·exact⟨a,.inr ⟨b,o,hv,by omega,hcs⟩⟩
theorem jP.gr{M M':Mem}{lo c c' sz:Nat}{v:V}{es:List (List V)}(h:jP F M lo c sz v es)(hg:Gr c M c' M'):jP F M' lo c' sz v es:=h.up hg.le (ah _) fun b _ hb=>hg.old b hb
theorem bm.own{M:Mem}{c0 c b ty sz:Nat}{v:V}{es:List (List V)}(h:bm M c0 c b ty sz v es):jP F M c0 c sz v es:=by
 intro M' hM
 refine bm.sl (c0:=c0) (b:=b) (ty:=ty) (M:=M') ?_
 rcases h with⟨h0,h|⟨h1,h2,rfl,h3⟩⟩
 ·exact⟨h0,.inl h⟩
 ·exact⟨h0,.inr ⟨h1,h2,rfl,by rw[hM b h1 h2];exact h3⟩⟩
theorem cU.put{M:Mem}{c b:Nat}{x y:bw}(h:cU F M c)(hb:b<c)(hx:M.get b=some x):cU F (M.set b y) c:=by
 refine⟨fun b' hb'=>?_,h.hiF,fun b' hb'=>?_,h.ge⟩
 ·rw[ag _ _ (by omega)];exact h.hiM b' hb'
 ·have:b'≠b:=by
   intro e;subst e;rw[h.ap b' hb']at hx;cases hx
  rw[ag _ _ this];exact h.ap b' hb'
theorem aK{M:Mem}{b ty:Nat}{l:List V}(h:M.get b=some (af ty l))(o:Nat)(vs:List V)(h1:o+vs.length≤l.length)(h2:aE vs=true):bN M b o vs=some (M.set b (af ty (over l o vs))):=by
 have:=ph M b o ty l vs h1 h2
 rwa [←cX h]at this
theorem aq{M:Mem}{b ty:Nat}{l:List V}(h:M.get b=some (af ty l))(o:Nat):load1 F M b o=l[o]?:=by
 rw[cX h];exact r9 M b o ty l
theorem bj{M:Mem}{b ty:Nat}{l:List V}(h:M.get b=some (af ty l))(n:Nat)(hn:l.length=n):loadN F M b 0 n=some l:=by
 rw[cX h,cV M b 0 n ty l (by omega),List.drop_zero,←hn,List.take_length]
theorem FE(a b:CC)(k:Kn)(t:T)(d:List Nat)(M:Mem)(c:Nat)(Q:Ex→St→Prop):Wp (.cond (.c (.b true)) a b) k (.mk t d M c) Q=Wp a k (.mk t d M c) Q:=yk rfl
theorem FD(a b:CC)(k:Kn)(t:T)(d:List Nat)(M:Mem)(c:Nat)(Q:Ex→St→Prop):Wp (.cond (.c (.b false)) a b) k (.mk t d M c) Q=Wp b k (.mk t d M c) Q:=yj rfl
end
theorem ai{a b:Prop}(x:a)(y:b):a∧b:=⟨x,y⟩
def WL:=ai @RT (ai @KN (ai @sY (ai @Yb (ai @AN (ai @dB (ai @ag (ai @Tr.get_e (ai @uV (ai @Lo (ai @mW (ai @ax1 (ai @br9 (ai @ah3 (ai @ah2 (ai @QU (ai @aR1 (ai @aQ7 (ai @ac0 (ai @aO4 (ai @aQ9 (ai @ac3 (ai @aU7 (ai @Mf (ai @ac1 (ai @b29 (ai @aV3 (ai @Y6 (ai @Mg (ai @An (ai @Mh (ai @Bt (ai @xR (ai @Nc (ai @Nb (ai @ax3 (ai @ax4 (ai @Df (ai @RU (ai @Ol (ai @zF (ai @zG (ai @zD (ai @ER (ai @ES (ai @EQ (ai @ax2 (ai @bs5 (ai @bs3 (ai @bs4 (ai @ba5 (ai @b94 (ai @b93 (ai @b95 (ai @yk (ai @yj (ai @bp0 (ai @bo8 (ai @bo9 (ai @aY7 (ai @iV (ai @Fq (ai @bq7 (ai @b33 (ai @aX5 (ai @aX4 (ai @b23 (ai @zC (ai @a07 (ai @a05 (ai @a06 (ai @a04 (ai @a03 (ai @a09 (ai @b34 (ai @ak0 (ai @ak2 (ai @lnS (ai @YB (ai @b30 (ai @b31 (ai @aU6 (ai @aV1 (ai @r9 (ai @b27 (ai @uJ (ai @Qp (ai @S2 (ai @Ed (ai @ev_t (ai @ev_c (ai @Qr (ai @LB (ai @Tr.setP_h (ai @Tr.setP_l (ai @Tr.setP_r (ai @ad7 (ai @ad9 (ai @ad8 (ai @ae0 (ai @Lu (ai @Lv (ai @bh7 (ai @Fi (ai @ai3 (ai @zM (ai @Mv (ai @Mw (ai @Bool.not_true (ai @Bool.not_false (ai @Bool.false_eq_true (ai @Bool.true_eq_false (ai @decide_true (ai @decide_false (ai @MI (ai @Mp (ai @Er (ai @Eu (ai @EA (ai @Ez (ai @zX (ai @Ew (ai @EB (ai @zV (ai @Ey (ai @zW (ai @Es (ai @zU (ai @Et (ai @cg (ai @aD (ai @Qy (ai @QA (ai @QE (ai @QD (ai @LX (ai @QB (ai @QF (ai @LW (ai @QC (ai @Qz (ai @LV (ai @Bool.and_true (ai @Bool.true_and (ai @Qq (ai @wK (ai @Eo (ai @qU (ai @Mz (ai @EX (ai @Nat.zero_add (ai @and_self (ai @and_true (ai @true_and (ai @Yz (ai @md (ai @YA (ai @b28 (ai @b26 (ai @b24 (ai @DX (ai @El (ai @Ek (ai @lU (ai @af4 (ai @af5 (ai @b25 (ai @Qm (ai @Qn (ai @Qk (ai @wF (ai @ba4 (ai @Q1 (ai @b32 (ai @Rq (ai @Ro (ai @wW (ai @Mj (ai @cV (ai @ph (ai @Ba (ai @ET (ai @Pz (ai @PE (ai @NN (ai @o5 (ai @QM (ai @QN (ai @af3 (ai @Nat.add_assoc (ai @Oq (ai @YC (ai @bq4 (ai @PD (ai @LA (ai @nX (ai @At (ai @ki (ai @E9 (ai @YD (ai @bi3 (ai @uE (ai @qD (ai @Cc (ai @Qo (ai @b88 (ai @b87 (ai @b89 (ai @Qd (ai @ae6 (ai @EL (ai @aR2 (ai @ac5 (ai @ac6 (ai @ac2 (ai @aR3 (ai @aQ8 (ai @Nh (ai @Fv (ai @AY (ai @Fs (ai @AX (ai @Ft (ai @Ly (ai @Ni (ai @Fu (ai @Nj (ai @aR0 (ai @aY6 (ai @PF (ai @FE (ai @FD (ai @AQ (ai @AR (ai @AP (ai @decide_eq_true_eq (ai @or_self (ai @or_true (ai @or_false (ai @true_or (ai @false_or (ai @and_false (@false_and))))))))))))))))))))))))))))))))))))))))))))))))))))))))))))))))))))))))))))))))))))))))))))))))))))))))))))))))))))))))))))))))))))))))))))))))))))))))))))))))))))))))))))))))))))))))))))))))))))))))))))))))))))))))))))))))))))))))))))))))))
def WM:=ai @cond_true.{1} (ai @cond_false.{1} (ai @List.getElem?_cons_zero.{0} (ai @List.getElem?_cons_succ.{0} (ai @Option.getD_some.{0} (ai @if_true.{1} (ai @if_false.{1} (ai @ite_true.{1} (ai @ite_false.{1} (ai @List.set_cons_zero.{0} (ai @List.set_cons_succ.{0} (ai @List.length_cons.{0} (ai @List.length_nil.{0} (ai @List.nil_append.{0} (ai @List.append_nil.{0} (ai @List.cons_append.{0} (ai @List.drop_zero.{0} (ai @List.take_succ_cons.{0} (ai @List.take_zero.{0} (ai @List.take_nil.{0} (ai @List.drop_succ_cons.{0} (ai @Option.map_some.{0,0} (ai @Option.isSome_some.{0} (@Option.map_none.{0,0})))))))))))))))))))))))
def WX:=ai @WL @WM
abbrev a0:ay:= .h
abbrev z0:X:= .t a0
abbrev a1:ay:= .l a0
abbrev z1:X:= .t a1
abbrev a2:ay:= .r a0
abbrev z2:X:= .t a2
abbrev a3:ay:= .l a1
abbrev z3:X:= .t a3
abbrev a4:ay:= .r a1
abbrev z4:X:= .t a4
abbrev a5:ay:= .l a2
abbrev z5:X:= .t a5
abbrev a6:ay:= .r a2
abbrev z6:X:= .t a6
abbrev a7:ay:= .l a3
abbrev z7:X:= .t a7
abbrev a8:ay:= .r a3
abbrev z8:X:= .t a8
abbrev a9:ay:= .l a4
abbrev z9:X:= .t a9
abbrev dV:ay:= .r a4
abbrev fT:X:= .t dV
abbrev fo:ay:= .l a5
abbrev ec:X:= .t fo
abbrev fF:ay:= .r a5
abbrev eP:X:= .t fF
abbrev eO:ay:= .l a6
abbrev ej:X:= .t eO
abbrev gp:ay:= .r a6
abbrev i9:X:= .t gp
abbrev eC:ay:= .l a7
abbrev i5:X:= .t eC
abbrev i7:ay:= .r a7
abbrev j3:X:= .t i7
abbrev fY:ay:= .l a8
abbrev gy:X:= .t fY
abbrev gG:ay:= .r a8
abbrev ju:X:= .t gG
abbrev kG:ay:= .l a9
abbrev mA:X:= .t kG
abbrev jI:ay:= .r a9
abbrev mB:X:= .t jI
abbrev i4:ay:= .l dV
abbrev nK:X:= .t i4
abbrev lw:ay:= .r dV
abbrev nL:X:= .t lw
abbrev kH:ay:= .l fo
abbrev mC:X:= .t kH
abbrev jJ:ay:= .r fo
abbrev oJ:X:= .t jJ
abbrev mq:ay:= .l fF
abbrev qh:X:= .t mq
abbrev lL:ay:= .r fF
abbrev pL:X:= .t lL
abbrev iH:ay:= .l eO
abbrev nE:X:= .t iH
abbrev nO:ay:= .r eO
abbrev qi:X:= .t nO
abbrev kI:ay:= .l gp
abbrev qj:X:= .t kI
abbrev lM:ay:= .r gp
abbrev rZ:X:= .t lM
abbrev mr:ay:= .l eC
abbrev sk:X:= .t mr
abbrev sf:ay:= .r eC
abbrev vN:X:= .t sf
abbrev sg:ay:= .l i7
abbrev yo:X:= .t sg
abbrev pM:ay:= .r i7
abbrev vO:X:= .t pM
abbrev lm:ay:= .l fY
abbrev vP:X:= .t lm
abbrev sP:ay:= .r fY
abbrev yp:X:= .t sP
abbrev po:ay:= .l gG
abbrev ua:X:= .t po
abbrev mt:ay:= .r gG
abbrev w6:X:= .t mt
abbrev nP:ay:= .l kG
abbrev w7:X:= .t nP
abbrev sQ:ay:= .r kG
abbrev yq:X:= .t sQ
abbrev sw:ay:= .l jI
abbrev vQ:X:= .t sw
abbrev sR:ay:= .r jI
abbrev yr:X:= .t sR
abbrev sS:ay:= .l i4
abbrev yt:X:= .t sS
abbrev qy:ay:= .r i4
abbrev w8:X:= .t qy
abbrev ui:ay:= .l lw
abbrev yI:X:= .t ui
abbrev nQ:ay:= .r lw
abbrev FH:X:= .t nQ
abbrev uj:ay:= .l kH
abbrev yJ:X:= .t uj
abbrev vR:ay:= .r kH
abbrev BA:X:= .t vR
abbrev wh:ay:= .l jJ
abbrev FI:X:= .t wh
abbrev wj:ay:= .r jJ
abbrev FJ:X:= .t wj
abbrev wl:ay:= .l mq
abbrev Dj:X:= .t wl
abbrev sy:ay:= .r mq
abbrev Dk:X:= .t sy
abbrev yQ:ay:= .l lL
abbrev G5:X:= .t yQ
abbrev BG:ay:= .r lL
abbrev G6:X:= .t BG
abbrev BH:ay:= .l iH
abbrev Ow:X:= .t BH
abbrev yR:ay:= .r iH
abbrev FK:X:= .t yR
abbrev BI:ay:= .l nO
abbrev Ox:X:= .t BI
abbrev BJ:ay:= .r nO
abbrev Oy:X:= .t BJ
abbrev vT:ay:= .l kI
abbrev Oz:X:= .t vT
abbrev BK:ay:= .r kI
abbrev OA:X:= .t BK
abbrev vU:ay:= .l lM
abbrev P4:X:= .t vU
abbrev BL:ay:= .r lM
abbrev OB:X:= .t BL
abbrev vV:ay:= .l mr
abbrev FL:X:= .t vV
abbrev BM:ay:= .r mr
abbrev P5:X:= .t BM
abbrev yS:ay:= .l sf
abbrev FM:X:= .t yS
abbrev qz:ay:= .r sf
abbrev G7:X:= .t qz
abbrev uk:ay:= .l sg
abbrev G9:X:= .t uk
abbrev yT:ay:= .r sg
abbrev FN:X:= .t yT
abbrev yU:ay:= .l pM
abbrev Ga:X:= .t yU
abbrev yV:ay:= .r pM
abbrev OC:X:= .t yV
abbrev yz:ay:= .l lm
abbrev Gb:X:= .t yz
abbrev yW:ay:= .r lm
abbrev OD:X:= .t yW
abbrev fG:ay:= .l sP
abbrev w9:X:= .t fG
abbrev yA:ay:= .r sP
abbrev Gc:X:= .t yA
abbrev BN:ay:= .l po
abbrev OE:X:= .t BN
abbrev BO:ay:= .r po
abbrev OG:X:= .t BO
abbrev BP:ay:= .l mt
abbrev OH:X:= .t BP
abbrev BQ:ay:= .r mt
abbrev OI:X:= .t BQ
abbrev BR:ay:= .l nP
abbrev Gd:X:= .t BR
abbrev DK:ay:= .r nP
abbrev P6:X:= .t DK
abbrev DL:ay:= .l sQ
abbrev P7:X:= .t DL
abbrev qA:ay:= .r sQ
abbrev P8:X:= .t qA
abbrev ul:ay:= .l sw
abbrev P9:X:= .t ul
abbrev DM:ay:= .r sw
abbrev Pa:X:= .t DM
abbrev DN:ay:= .l sR
abbrev OJ:X:= .t DN
abbrev DO:ay:= .r sR
abbrev Sc:X:= .t DO
abbrev DP:ay:= .l sS
abbrev Pb:X:= .t DP
abbrev um:ay:= .r sS
abbrev Pd:X:= .t um
abbrev DQ:ay:= .l qy
abbrev Pe:X:= .t DQ
abbrev FS:ay:= .r qy
abbrev Sd:X:= .t FS
abbrev FT:ay:= .l ui
abbrev Se:X:= .t FT
abbrev FU:ay:= .r ui
abbrev Sf:X:= .t FU
abbrev FV:ay:= .l nQ
abbrev Sg:X:= .t FV
abbrev FW:ay:= .r nQ
abbrev Si:X:= .t FW
abbrev OO:ay:= .l uj
abbrev Zl:X:= .t OO
abbrev OP:ay:= .r uj
abbrev z96:X:= .t OP
abbrev OQ:ay:= .l vR
abbrev z97:X:= .t OQ
abbrev OR:ay:= .r vR
abbrev z98:X:= .t OR
abbrev OS:ay:= .l wh
abbrev z99:X:= .t OS
abbrev qt:ay:= .r wh
abbrev vM:X:= .t qt
abbrev qw:ay:= .l wj
abbrev Sa:X:= .t qw
abbrev so:ay:= .r wj
abbrev Bw:X:= .t so
abbrev sq:ay:= .l wl
abbrev Bx:X:= .t sq
abbrev su:ay:= .r wl
abbrev Bz:X:= .t su
abbrev Dq:ay:= .l sy
abbrev ay4:X:= .t Dq
abbrev uh:ay:= .r sy
abbrev ay5:X:= .t uh
abbrev Dr:ay:= .l yQ
abbrev Sb:X:= .t Dr
abbrev Ds:ay:= .r yQ
abbrev ay6:X:= .t Ds
abbrev Dt:ay:= .l BG
abbrev ay7:X:= .t Dt
abbrev Du:ay:= .r BG
abbrev ay8:X:= .t Du
abbrev qx:ay:= .l BH
abbrev ay9:X:= .t qx
abbrev Dv:ay:= .r BH
abbrev az0:X:= .t Dv
abbrev Dw:ay:= .l yR
abbrev az1:X:= .t Dw
abbrev Dx:ay:= .r yR
abbrev az3:X:= .t Dx
abbrev Dy:ay:= .l BI
abbrev az4:X:= .t Dy
abbrev Dz:ay:= .r BI
abbrev az5:X:= .t Dz
abbrev DA:ay:= .l BJ
abbrev az6:X:= .t DA
abbrev pn:ay:= .r BJ
abbrev az7:X:= .t pn
abbrev DB:ay:= .l vT
abbrev az8:X:= .t DB
abbrev DC:ay:= .r vT
abbrev az9:X:= .t DC
abbrev DD:ay:= .l BK
abbrev aA0:X:= .t DD
abbrev DE:ay:= .r BK
abbrev aA1:X:= .t DE
abbrev DF:ay:= .l vU
abbrev aA2:X:= .t DF
abbrev DG:ay:= .r vU
abbrev aA3:X:= .t DG
abbrev DH:ay:= .l BL
abbrev aA4:X:= .t DH
abbrev sv:ay:= .r BL
abbrev aA5:X:= .t sv
abbrev Pk:ay:= .l vV
abbrev aA6:X:= .t Pk
abbrev Pl:ay:= .r vV
abbrev aA7:X:= .t Pl
abbrev Pm:ay:= .l BM
abbrev aA8:X:= .t Pm
abbrev Pn:ay:= .r BM
abbrev aA9:X:= .t Pn
abbrev Po:ay:= .l yS
abbrev aB0:X:= .t Po
abbrev yN:ay:= .r yS
abbrev aB1:X:= .t yN
abbrev Pp:ay:= .l qz
abbrev aB2:X:= .t Pp
abbrev yO:ay:= .r qz
abbrev aB3:X:= .t yO
abbrev Pq:ay:= .l uk
abbrev aB4:X:= .t Pq
abbrev Ps:ay:= .r uk
abbrev aB5:X:= .t Ps
abbrev yP:ay:= .l yT
abbrev aB6:X:= .t yP
abbrev Pt:ay:= .r yT
abbrev aB7:X:= .t Pt
abbrev DI:ay:= .l yU
abbrev aB8:X:= .t DI
abbrev Pu:ay:= .r yU
abbrev aB9:X:= .t Pu
abbrev Pv:ay:= .l yV
abbrev aC0:X:= .t Pv
abbrev wf:ay:= .r yV
abbrev aC1:X:= .t wf
abbrev Zv:ay:= .l yz
abbrev ba6:X:= .t Zv
abbrev Zw:ay:= .r yz
abbrev ba7:X:= .t Zw
abbrev Zx:ay:= .l yW
abbrev ba8:X:= .t Zx
abbrev Zy:ay:= .r yW
abbrev ba9:X:= .t Zy
abbrev Zz:ay:= .l fG
abbrev bb0:X:= .t Zz
abbrev ZA:ay:= .r fG
abbrev bb1:X:= .t ZA
abbrev ZB:ay:= .l yA
abbrev bb4:X:= .t ZB
abbrev ZC:ay:= .r yA
abbrev bb7:X:= .t ZC
abbrev ZD:ay:= .l BN
abbrev bb8:X:= .t ZD
abbrev ZE:ay:= .r BN
abbrev bb9:X:= .t ZE
abbrev ZF:ay:= .l BO
abbrev bc0:X:= .t ZF
abbrev ZG:ay:= .r BO
abbrev bc1:X:= .t ZG
abbrev ZH:ay:= .l BP
abbrev bc2:X:= .t ZH
abbrev ZI:ay:= .r BP
abbrev aC2:X:= .t ZI
abbrev ZJ:ay:= .l BQ
abbrev bc3:X:= .t ZJ
abbrev ZK:ay:= .r BQ
abbrev bc4:X:= .t ZK
abbrev ZL:ay:= .l BR
abbrev bc5:X:= .t ZL
abbrev ZM:ay:= .r BR
abbrev aC3:X:= .t ZM
abbrev ZN:ay:= .l DK
abbrev bc6:X:= .t ZN
abbrev ZO:ay:= .r DK
abbrev bc7:X:= .t ZO
abbrev ZP:ay:= .l DL
abbrev bc8:X:= .t ZP
abbrev ZQ:ay:= .r DL
abbrev bc9:X:= .t ZQ
abbrev ZR:ay:= .l qA
abbrev bd0:X:= .t ZR
abbrev ZS:ay:= .r qA
abbrev bd1:X:= .t ZS
abbrev aE9:ay:= .l ul
abbrev bs6:X:= .t aE9
abbrev wg:ay:= .r ul
abbrev bs7:X:= .t wg
abbrev aF0:ay:= .l DM
abbrev bs8:X:= .t aF0
abbrev aF1:ay:= .r DM
abbrev bs9:X:= .t aF1
abbrev aF2:ay:= .l DN
abbrev bt0:X:= .t aF2
abbrev aF3:ay:= .r DN
abbrev bt1:X:= .t aF3
abbrev aF4:ay:= .l DO
abbrev bt2:X:= .t aF4
abbrev aF5:ay:= .r DO
abbrev bt3:X:= .t aF5
abbrev aF6:ay:= .l DP
abbrev bt4:X:= .t aF6
abbrev DJ:ay:= .r DP
abbrev bt5:X:= .t DJ
abbrev aF7:ay:= .l um
abbrev bt6:X:= .t aF7
abbrev aF8:ay:= .r um
abbrev bt7:X:= .t aF8
abbrev aF9:ay:= .l DQ
abbrev bt8:X:= .t aF9
abbrev aG0:ay:= .r DQ
abbrev bt9:X:= .t aG0
abbrev aG1:ay:= .l FS
abbrev bu0:X:= .t aG1
abbrev Pw:ay:= .r FS
abbrev bu1:X:= .t Pw
abbrev aG2:ay:= .l FT
abbrev bu2:X:= .t aG2
abbrev aG3:ay:= .r FT
abbrev bu3:X:= .t aG3
abbrev aG4:ay:= .l FU
abbrev bu4:X:= .t aG4
abbrev Gn:ay:= .r FU
abbrev bu5:X:= .t Gn
abbrev aG5:ay:= .l FV
abbrev bu6:X:= .t aG5
abbrev aG6:ay:= .r FV
abbrev bu7:X:= .t aG6
abbrev aG7:ay:= .l FW
abbrev bu8:X:= .t aG7
abbrev aG8:ay:= .r FW
abbrev bu9:X:= .t aG8
abbrev Px:ay:= .l OO
abbrev bv0:X:= .t Px
abbrev aG9:ay:= .r OO
abbrev bv1:X:= .t aG9
abbrev aH0:ay:= .l OP
abbrev bv2:X:= .t aH0
abbrev aH1:ay:= .r OP
abbrev bv3:X:= .t aH1
abbrev Py:ay:= .l OQ
abbrev bv4:X:= .t Py
abbrev aH2:ay:= .r OQ
abbrev bv5:X:= .t aH2
abbrev aH3:ay:= .l OR
abbrev bv6:X:= .t aH3
abbrev aH4:ay:= .r OR
abbrev bv7:X:= .t aH4
abbrev aH5:ay:= .l OS
abbrev bv8:X:= .t aH5
abbrev aH6:ay:= .r OS
abbrev bv9:X:= .t aH6
abbrev aH7:ay:= .l qt
abbrev bw0:X:= .t aH7
abbrev aH8:ay:= .r qt
abbrev bw1:X:= .t aH8
abbrev aH9:ay:= .l qw
abbrev bw2:X:= .t aH9
abbrev aI0:ay:= .r qw
abbrev bw3:X:= .t aI0
abbrev aI1:ay:= .l so
abbrev bw4:X:= .t aI1
abbrev aI2:ay:= .r so
abbrev bw5:X:= .t aI2
abbrev aI3:ay:= .l sq
abbrev bw6:X:= .t aI3
abbrev aI4:ay:= .r sq
abbrev bw7:X:= .t aI4
abbrev aI5:ay:= .l su
abbrev bw8:X:= .t aI5
abbrev aI6:ay:= .r su
abbrev bw9:X:= .t aI6
abbrev aI7:ay:= .l Dq
abbrev bx0:X:= .t aI7
abbrev aI8:ay:= .r Dq
abbrev bx1:X:= .t aI8
abbrev aI9:ay:= .l uh
abbrev bx2:X:= .t aI9
abbrev aJ0:ay:= .r uh
abbrev bx3:X:= .t aJ0
abbrev aJ1:ay:= .l Dr
abbrev bx4:X:= .t aJ1
abbrev aJ2:ay:= .r Dr
abbrev bx5:X:= .t aJ2
abbrev aJ3:ay:= .l Ds
abbrev bx6:X:= .t aJ3
abbrev aJ4:ay:= .r Ds
abbrev bx7:X:= .t aJ4
abbrev aJ5:ay:= .l Dt
abbrev bx8:X:= .t aJ5
abbrev aJ6:ay:= .r Dt
abbrev bx9:X:= .t aJ6
abbrev aJ7:ay:= .l Du
abbrev by0:X:= .t aJ7
abbrev aJ8:ay:= .r Du
abbrev by1:X:= .t aJ8
abbrev aJ9:ay:= .l qx
abbrev by2:X:= .t aJ9
abbrev aK0:ay:= .r qx
abbrev by3:X:= .t aK0
abbrev Gp:ay:= .l Dv
abbrev by4:X:= .t Gp
abbrev aK1:ay:= .r Dv
abbrev by5:X:= .t aK1
abbrev aK2:ay:= .l Dw
abbrev by6:X:= .t aK2
abbrev aK3:ay:= .r Dw
abbrev by7:X:= .t aK3
abbrev aK4:ay:= .l Dx
abbrev by8:X:= .t aK4
abbrev Gq:ay:= .r Dx
abbrev by9:X:= .t Gq
abbrev aK5:ay:= .l Dy
abbrev bz0:X:= .t aK5
abbrev aK6:ay:= .r Dy
abbrev bz1:X:= .t aK6
abbrev aK7:ay:= .l Dz
abbrev bz2:X:= .t aK7
abbrev aK8:ay:= .r Dz
abbrev bz3:X:= .t aK8
abbrev Gs:ay:= .l DA
abbrev bz4:X:= .t Gs
abbrev aK9:ay:= .r DA
abbrev bz5:X:= .t aK9
abbrev aL0:ay:= .l pn
abbrev bz6:X:= .t aL0
abbrev aL1:ay:= .r pn
abbrev bz7:X:= .t aL1
abbrev aL2:ay:= .l DB
abbrev bz8:X:= .t aL2
abbrev Gt:ay:= .r DB
abbrev bz9:X:= .t Gt
abbrev aL3:ay:= .l DC
abbrev bA0:X:= .t aL3
abbrev aL4:ay:= .r DC
abbrev bA1:X:= .t aL4
abbrev aL5:ay:= .l DD
abbrev bA2:X:= .t aL5
abbrev aL6:ay:= .r DD
abbrev bA3:X:= .t aL6
abbrev Gu:ay:= .l DE
abbrev bA4:X:= .t Gu
abbrev aL7:ay:= .r DE
abbrev bA5:X:= .t aL7
abbrev aL8:ay:= .l DF
abbrev bA6:X:= .t aL8
abbrev aL9:ay:= .r DF
abbrev bA7:X:= .t aL9
abbrev aM0:ay:= .l DG
abbrev bA8:X:= .t aM0
abbrev ZT:ay:= .r DG
abbrev bA9:X:= .t ZT
abbrev aM1:ay:= .l DH
abbrev bB0:X:= .t aM1
abbrev aM2:ay:= .r DH
abbrev bB1:X:= .t aM2
abbrev sk1:T:= .n .e none .e
abbrev nI:T:= .n sk1 none sk1
abbrev ir:T:= .n nI none nI
abbrev j1:T:= .n ir none ir
abbrev AZ:T:= .n j1 none j1
abbrev Nk:T:= .n AZ none AZ
abbrev sk7:T:= .n Nk none Nk
abbrev sk8:T:= .n sk7 none sk7
abbrev eg(u:List (Option V))(a:Nat):T:= .n .e (uO u a) .e
abbrev ek(u:List (Option V))(a b c:Nat):T:= .n (eg u a) (uO u b) (eg u c)
abbrev aJ(u:List (Option V))(a b c d e f g:Nat):T:= .n (ek u a b c) (uO u d) (ek u e f g)
abbrev qq(d:ay)(o:QO):CO:=⟨some d,.q o,none⟩
abbrev gK(d:ay)(o:EO)(g:ay):CO:=⟨some d,.e o,some (g,false)⟩
abbrev k9(d:ay)(o:EO)(g:ay):CO:=⟨some d,.e o,some (g,true)⟩
abbrev aH(d:ay)(o:QO)(g:ay):CO:=⟨some d,.q o,some (g,false)⟩
abbrev aR(d:ay)(o:QO)(g:ay):CO:=⟨some d,.q o,some (g,true)⟩
abbrev aa(d:ay)(o:AO):CO:=⟨some d,.a o,none⟩
abbrev ee(d:ay)(o:EO):CO:=⟨some d,.e o,none⟩
abbrev ez(o:EO):CO:=⟨none,.e o,none⟩
abbrev x6(n:Int):X:= .c (.i .i64 n)
abbrev xT:X:= .c (.b true)
abbrev xF:X:= .c (.b false)
theorem wu{b b1:CC}(h:b=b1)(k:Kn)(s:St)(R:Ex→St→Prop):Wp b k s R=Wp b1 k s R:=congrArg (fun x=>Wp x k s R) h
def X1{x0:Option V}(l:List (Option V)):List (Option V):=x0::l
def G1(l:List (Option V)):List (Option V):=none::l
def X2{x0 x1:Option V}(l:List (Option V)):List (Option V):=x0::x1::l
def G2(l:List (Option V)):List (Option V):=none::none::l
def X4{x0 x1 x2 x3:Option V}(l:List (Option V)):List (Option V):=x0::x1::x2::x3::l
def G4(l:List (Option V)):List (Option V):=none::none::none::none::l
def X8{x0 x1 x2 x3 x4 x5 x6 x7:Option V}(l:List (Option V)):List (Option V):=x0::x1::x2::x3::x4::x5::x6::x7::l
def G8(l:List (Option V)):List (Option V):=none::none::none::none::none::none::none::none::l
def ce{x0 x1 x2 x3 x4 x5 x6 x7 x8 x9 x10 x11 x12 x13 x14 x15:Option V}(l:List (Option V)):List (Option V):=x0::x1::x2::x3::x4::x5::x6::x7::x8::x9::x10::x11::x12::x13::x14::x15::l
def cH{x0 x1 x2 x3 x4 x5 x6 x7 x8 x9 x10 x11 x12 x13 x14 x15 x16 x17 x18 x19 x20 x21 x22 x23 x24 x25 x26 x27 x28 x29 x30 x31:Option V}(l:List (Option V)):List (Option V):=x0::x1::x2::x3::x4::x5::x6::x7::x8::x9::x10::x11::x12::x13::x14::x15::x16::x17::x18::x19::x20::x21::x22::x23::x24::x25::x26::x27::x28::x29::x30::x31::l
def cF{x0 x1 x2 x3 x4 x5 x6 x7 x8 x9 x10 x11 x12 x13 x14 x15 x16 x17 x18 x19 x20 x21 x22 x23 x24 x25 x26 x27 x28 x29 x30 x31 x32 x33 x34 x35 x36 x37 x38 x39 x40 x41 x42 x43 x44 x45 x46 x47 x48 x49 x50 x51 x52 x53 x54 x55 x56 x57 x58 x59 x60 x61 x62 x63:Option V}(l:List (Option V)):List (Option V):=x0::x1::x2::x3::x4::x5::x6::x7::x8::x9::x10::x11::x12::x13::x14::x15::x16::x17::x18::x19::x20::x21::x22::x23::x24::x25::x26::x27::x28::x29::x30::x31::x32::x33::x34::x35::x36::x37::x38::x39::x40::x41::x42::x43::x44::x45::x46::x47::x48::x49::x50::x51::x52::x53::x54::x55::x56::x57::x58::x59::x60::x61::x62::x63::l
section
variable{Φ:Nat→Option CF}{rd:Option Nat}{fn:Nat}{F:RO}
def af2:V→Option V
 | .p b o=>some (.p b o)
 | .f g h c=>some (.f g h c)
 | .y l=>some (.y l)
 | .a t v=>some (.a t v)
 |_=>none
theorem u6(x:X)(M:Mem)(t:T):(cE (.nck x) F M t).val=af2 (x.ev t):=by
 show(km x F M t).val=_
 unfold km
 cases x.ev t<;>rfl
theorem iA(b o:Nat):af2 (.p b o)=some (.p b o):=Eq.trans rfl (Eq.refl _)
theorem nV(x:X)(M:Mem)(t:T):jL (.nck x) F M t=oV (af2 (x.ev t)):=by
 refine(eX ?_).trans (congrArg oV (u6 (F:=F) x M t))
 intro F' M'
 refine iT ?_
 show(km x F' M' t= .f∨ ∃y,km x F' M' t= .v y)
 unfold km
 cases x.ev t<;>first|exact .inl rfl|exact .inr ⟨_,rfl⟩
def cpV:V→Option V
 | .l0=>some (.i .i64 0)
 | .l _ _ _ c=>some (.i .i64 (c:Int))
 |_=>none
theorem bq5(x:X)(M:Mem)(t:T):(cE (.cp x) F M t).val=cpV (x.ev t):=by
 show(ry x F M t).val=_
 unfold ry
 cases x.ev t<;>rfl
theorem zN:cpV .l0=some (.i .i64 0):=Eq.trans rfl (Eq.refl _)
theorem Ll(x:X)(M:Mem)(t:T):jL (.cp x) F M t=oV (cpV (x.ev t)):=by
 refine(eX ?_).trans (congrArg oV (bq5 (F:=F) x M t))
 intro F' M'
 refine iT ?_
 show(ry x F' M' t= .f∨ ∃y,ry x F' M' t= .v y)
 unfold ry
 cases x.ev t<;>first|exact .inl rfl|exact .inr ⟨_,rfl⟩
def sdV:V→Option V
 | .l0=>some .p0
 | .l b o _ c=>if c=0 then none else some (.p b o)
 | .u b o _ el kn=>if el<kn then some (.p b o)else none
 |_=>none
theorem vj(x:X)(M:Mem)(t:T):rA x F M t=oV (sdV (x.ev t)):=by
 unfold rA
 cases x.ev t with
 |l b o n c=>
  show(bif Nat.beq c 0 then QR.f else .v (.p b o))=oV (if c=0 then none else some (.p b o));rw[bI];by_cases h:c=0
  ·rw[aj h,ac h];rfl
  ·rw[ak h,ab h];rfl
 |u b o n el kn=>
  show(bif Nat.blt el kn then QR.v (.p b o)else .f)=oV (if el<kn then some (.p b o)else none);rw[fu];by_cases h:el<kn
  ·rw[aj h,ac h];rfl
  ·rw[ak h,ab h];rfl
 |_=>rfl
theorem Mo(o:Option V):(oV o).val=o:=by cases o<;>rfl
theorem bq8(x:X)(M:Mem)(t:T):(cE (.sd x) F M t).val=sdV (x.ev t):=by
 show(rA x F M t).val=_
 rw[vj,Mo]
theorem Lm(x:X)(M:Mem)(t:T):jL (.sd x) F M t=oV (sdV (x.ev t)):=by
 refine(eX ?_).trans (congrArg oV (bq8 (F:=F) x M t))
 intro F' M'
 show rA x F' M' t=oV (rA x [] .e t).val
 rw[vj,vj,Mo]
theorem ai5:sdV .l0=some .p0:=Eq.trans rfl (Eq.refl _)
theorem Yh{b o n el kn:Nat}(h:el<kn):sdV (.u b o n el kn)=some (.p b o):=ac h
def upV(F:RO)(M:Mem)(x:V):Option V:=(cE (.up (.c x)) F M .e).val
theorem bq9(x:X)(M:Mem)(t:T):(cE (.up x) F M t).val=upV F M (x.ev t):=Eq.trans rfl (Eq.refl _)
theorem RM{M:Mem}{b o ty n:Nat}{ex str:Bool}{fz:Nat}{d:List V}{t:T}(h:M.get b=some (.cells ty n ex fz str d t))(ho:o<n):upV F M (.p b o)=some (.p b o):=by
 show(j6 (look F M b) QR.f fun n _ _=>bif Nat.blt o n then QR.r (.p b o) b else .f).val=_
 rw[au h]
 show(bif Nat.blt o n then QR.r (.p b o) b else .f).val=_
 rw[fu,aj ho];rfl
def dnV(ty sz:Nat)(F:RO)(M:Mem)(x:V):Option V:=(cE (.dn ty sz (.c x)) F M .e).val
theorem bq6(ty sz:Nat)(x:X)(M:Mem)(t:T):(cE (.dn ty sz x) F M t).val=dnV ty sz F M (x.ev t):=Eq.trans rfl (Eq.refl _)
theorem Qb{M:Mem}{b ty n:Nat}{str:Bool}{fz:Nat}{d:List V}{t:T}(h:M.get b=some (.cells ty n true fz str d t)):dnV ty n F M (.p b 0)=some (.p b 0):=by
 show(ab9 ty n b (look F M b)).val=_
 rw[au h]
 show(bif Nat.beq ty ty&&Nat.beq n n then QR.r (.p b 0) b else .f).val=_
 rw[Nat.beq_refl,Nat.beq_refl];rfl
def QV(r:QR):Prop:=r= .f∨ ∃y,r= .v y
theorem ot{r:QR}(b:Bool)(h:QV r):QV (bif b then r else .f):=by
 cases b with
 |false=>exact .inl rfl
 |true=>exact h
theorem CR{r s:QR}(b:Bool)(h:QV r)(h':QV s):QV (bif b then r else s):=by
 cases b with
 |false=>exact h'
 |true=>exact h
theorem MN(b o n c:Nat):QV (Y7 b o n c):= .inr ⟨_,Mn b o n c⟩
theorem MO(b o n e k:Nat):QV (Y8 b o n e k):= .inr ⟨_,uZ b o n e k⟩
theorem RA(sz:Nat)(v:V)(a b d:Option Nat):QV (pJ sz v a b d):=by
 unfold pJ
 refine ot _ ?_
 cases v with
 |l b0 o len cap=>exact ot _ (MN _ _ _ _)
 |l0=>exact ot _ (.inr ⟨_,rfl⟩)
 |u b0 o len el kn=>
  cases d with
  |none=>exact ot _ (CR _ (MO _ _ _ _ _) (CR _ (MO _ _ _ _ _) (.inr ⟨_,by rw[bp]⟩)))
  |some m=>exact ot _ (MN _ _ _ _)
 |ue b0 o0 o=>exact ot _ (.inr ⟨_,rfl⟩)
 |_=>exact .inl rfl
theorem ac7(sz:Nat)(x:X)(lo hi mx:Option X)(M:Mem)(t:T):jL (.slL sz x lo hi mx) F M t=oV (sJ sz (x.ev t) (lo.map fun x=>x.ev t) (hi.map fun x=>x.ev t) (mx.map fun x=>x.ev t)):=by
 refine(eX ?_).trans (congrArg oV (YC (F:=F) sz x lo hi mx M t))
 intro F' M'
 refine iT ?_
 show QV (oq sz (x.ev t) (optNN t lo) (optNN t hi) (optNN t mx))
 cases optNN t lo with
 |none=>exact .inl rfl
 |some a=>
  cases optNN t hi with
  |none=>exact .inl rfl
  |some b=>
   cases optNN t mx with
   |none=>exact .inl rfl
   |some d=>exact RA _ _ _ _ _
def Sn(o:Option (V×bw))(base i:Nat)(p:ay)(r:List (Nat×Nat×CO))(k:Kn)(t:T)(M:Mem)(c:Nat)(pend:List (Nat×Nat×bw))(reads:List (Nat×Nat))(R:DS→Prop):Prop:=match o with
 |some x=>jM base r k (.mk (t.setP p x.1) M c ((i,base+i,x.2)::pend) reads) R
 |none=>False
theorem ng(v:V)(b:bw)(base i:Nat)(p:ay)(r:List (Nat×Nat×CO))(k:Kn)(t:T)(M:Mem)(c:Nat)(pend:List (Nat×Nat×bw))(reads:List (Nat×Nat))(R:DS→Prop):
 Sn (some (v,b)) base i p r k t M c pend reads R=jM base r k (.mk (t.setP p v) M c ((i,base+i,b)::pend) reads) R:=Eq.trans rfl (Eq.refl _)
theorem vF(base i mask:Nat)(p:ay)(o:AO)(r:List (Nat×Nat×CO))(t:T)(M:Mem)(c:Nat)(pend:List (Nat×Nat×bw))(reads:List (Nat×Nat))(R:DS→Prop)(hl:(look F M (base+i)).isNone=true)(hr:bQ (base+i) reads=true):
 jM base ((i,mask,.mk (some p) (.a o) none)::r) (K Φ rd fn F) (.mk t M c pend reads) R=Sn (iE o (base+i) t) base i p r (K Φ rd fn F) t M c pend reads R:=by
 have he:px (K Φ rd fn F) base (i,mask,.mk (some p) (.a o) none) (.mk t M c pend reads)=zP i (base+i) (some p) t M c pend reads (iE o (base+i) t):=by
  show(fN (Nat.add base i) fun b=>bif (look F M b).isNone&&bQ b reads then zP i b (some p) t M c pend reads (iE o b t)else none)=_;rw[bp];show(bif (look F M (base+i)).isNone&&bQ (base+i) reads then zP i (base+i) (some p) t M c pend reads (iE o (base+i) t)else none)=_;rw[hl,hr];rfl
 apply propext
 rw[ea,he]
 cases iE o (base+i) t with
 |none=>exact⟨fun⟨s',h,_⟩=>(by cases h),False.elim⟩
 |some x=>
  have h2:zP i (base+i) (some p) t M c pend reads (some x)=some (.mk (t.setP p x.1) M c ((i,base+i,x.2)::pend) reads):=by
   show((setT t (some p) x.1).force fun t=>some (DS.mk t M c ((i,base+i,x.2)::pend) reads))=_;rw[Tr.force_eq];rfl
  rw[h2];constructor
  ·rintro⟨s',h,q⟩;obtain rfl:=ae h;exact q
  ·exact fun q=>⟨_,rfl,q⟩
theorem iy(i b:Nat)(x:bw)(r:List (Nat×Nat×bw))(M:Mem):cR ((i,b,x)::r) M=cR r (M.set b x):=by
 show(M.set b x).force (fun M=>cR r M)=_
 rw[Tr.force_eq]
theorem cI(b:Nat):bQ b []=true:=Eq.trans rfl (Eq.refl _)
theorem bv(b i b':Nat)(r:List (Nat×Nat))(h:b'≠b):bQ b ((i,b')::r)=bQ b r:=by
 show(bif Nat.beq b' b then false else bQ b r)=_
 rw[bI,ak h];rfl
def oz(ty n:Nat)(row:List V):bw:= .cells ty n false 0 false [] (gm row)
def nzA(ty:Nat)(l:V)(b:Nat):Option (V×bw):=iE (.nz ty (.c l)) b .e
theorem ZV(ty:Nat)(l:X)(b:Nat)(t:T):iE (.nz ty l) b t=nzA ty (l.ev t) b:=Eq.trans rfl (Eq.refl _)
theorem aW5(ty n b:Nat)(h:n≤1099511627776):nzA ty (.i .i64 (n:Int)) b=some (.u b 0 n 0 n,oz ty n []):=by
 show(match BZ (.i .i64 (n:Int))with|some n=>bif Nat.ble n 1099511627776 then some (V.u b 0 n 0 n,bw.cells ty n false 0 false [] .e)else none|none=>none)=_
 show(bif Nat.ble n 1099511627776 then some (V.u b 0 n 0 n,bw.cells ty n false 0 false [] .e)else none)=_
 rw[bW,aj h];rfl
theorem Fm{n:Nat}{row:List V}(h:row.length≤n)(i:Nat)(hi:i<row.length):cell n [] (gm row) i=row[i]?:=by
 rw[cw,ac (by omega)]
 unfold gm
 rw[cN,ac (by omega)]
 simp only[Nat.sub_zero]
 rw[List.getElem?_eq_getElem hi]
theorem rE{M:Mem}{b ty n:Nat}{row:List V}(h:M.get b=some (oz ty n row))(hn:row.length≤n):cM F M b 0 row:=fun k hk=>by
 rw[Nat.zero_add]
 unfold Ev.load1
 rw[au h]
 exact Fm hn k hk
theorem AU{M:Mem}{b ty n:Nat}{row vs:List V}(h:M.get b=some (oz ty n row))(hn:row.length+vs.length≤n)(h1:aE vs=true):bN M b row.length vs=some (M.set b (oz ty n (row++vs))):=by
 rw[oD h hn (az _) h1]
 unfold oz gm
 have:=kc row vs 0 .e
 rw[Nat.zero_add]at this
 rw[this]
def oK(M:Mem)(c0 c b:Nat)(v:V)(l:List UInt8):Prop:=
 (l=[]∧v= .l0)∨(c0≤b∧b<c∧ ∃n,(l.length≤n∧0<n)∧v= .u b 0 l.length 0 n∧M.get b=some (oz 5 n (l.map bV)))
theorem oK.up{M M':Mem}{c0 c c' b:Nat}{v:V}{l:List UInt8}(h:oK M c0 c b v l)(hc:c≤c')(hb:b<c→M'.get b=M.get b):oK M' c0 c' b v l:=by
 rcases h with h|⟨h1,h2,n,h3,h4,h5⟩
 ·exact .inl h
 ·exact .inr ⟨h1,by omega,n,h3,h4,by rw[hb h2];exact h5⟩
theorem aa2{M0 M:Mem}{c0 c b:Nat}{v:V}{l s:List UInt8}(h:oK M c0 c b v l)(hg:Gr c0 M0 c M)(hr:kr (l.length+s.length) 1=true):
 nF (qC F M c 5 1 1 v (sV s)) fun v' M' c'=>∃b',oK M' c0 c' b' v' (l++s)∧Gr c0 M0 c' M'∧c≤c'∧(∀x,x<c→x≠b→M'.get x=M.get x)∧(b'=b∨c≤b'):=by
 unfold qC
 rw[D4]
 have e1:lT F M c 5 1 1 v (some (s.length,s.map bV))=app F M c 5 1 1 v s.length (s.map bV):=by
  show(bif aE (s.map bV)&&Nat.beq (s.map bV).length (Nat.mul s.length 1)then _ else _)=_;rw[fZ,bI,aj (show(s.map bV).length=Nat.mul s.length 1 by rw[List.length_map];exact(Nat.mul_one _).symm)];rfl
 rw[e1]
 have hmap:(l++s).map bV=l.map bV++s.map bV:=List.map_append
 by_cases hz:s=[]
 ·subst hz;have e2:app F M c 5 1 1 v 0 []= .k v M c:=by
   show(bif Nat.beq 0 0 then(bif tB v then RC.k v M c else .f)else _)=_;have:tB v=true:=by
    rcases h with⟨_,rfl⟩|⟨_,_,n,⟨hn,_⟩,rfl,_⟩
    ·rfl
    ·show Nat.ble l.length (Nat.sub n 0)=true;rw[bW];exact aj hn
   rw[this];rfl
  exact⟨v,M,c,e2,b,by rw[bP];exact h,hg,ah _,fun _ _ _=>rfl,.inl rfl⟩
 ·have hn0:s.length≠0:=fun e=>hz (List.length_eq_zero_iff.1 e);have grownEq:∀(N:Mem) (vs:List V) (k:Nat),kr k 1=true→vs.length=k→fV N c 5 1 k 0 false vs= .k (.u c 0 k 0 k) (N.set c (oz 5 k vs)) (c+1):=by
   intro N vs k hk hv;rw[mS N c 5 1 k vs hk];unfold pH oz;rw[hv]
  rcases h with⟨rfl,rfl⟩|⟨ha,hb,n,⟨hn,hn1⟩,rfl,hM⟩
  ·rw[aL,Nat.zero_add]at hr;refine⟨_,_,_,(BW hn0).trans (grownEq M (s.map bV) s.length hr (List.length_map ..)),c,.inr ⟨hg.le,by omega,s.length,⟨ah _,by omega⟩,rfl,?_⟩,hg.set c _ hg.le (by omega) (by omega),by omega,fun x hx _=>ag _ _ (by omega),.inr (ah _)⟩;rw[Tr.get_set,ac rfl];rfl
  ·by_cases hfit:l.length+s.length≤n
   ·have hst:=AU hM (vs:=s.map bV) (by rw[List.length_map,List.length_map];exact hfit) (fZ s);rw[List.length_map]at hst;have e3:ly F M c 5 1 1 b 0 l.length 0 n s.length (s.map bV)= .k (.u b 0 (l.length+s.length) 0 n) (M.set b (oz 5 n (l.map bV++s.map bV))) c:=by
     unfold ly;rw[bW,aj (show Nat.add (Nat.add 0 l.length) s.length≤n by show 0+l.length+s.length≤n;omega),cond_true];unfold wq;rw[show Nat.add 0 (Nat.mul l.length 1)=l.length by show 0+l.length*1=l.length;omega,hst];show fN (l.length+s.length) (fun len=>RC.k (.u b 0 len 0 n) _ c)=_;rw[bp]
    refine⟨_,_,_,(za hn0).trans e3,b,.inr ⟨ha,hb,n,⟨by rw[aO];exact hfit,hn1⟩,by rw[aO],?_⟩,hg.set b _ ha hb (ah _),ah _,fun x _ hxb=>ag _ _ hxb,.inl rfl⟩;rw[Tr.get_set,ac rfl,hmap]
   ·have hcl:=(rE (F:=F) hM (by rw[List.length_map];exact hn))
    have hcl2:cM F M b 0 (l.map fun x=>[bV x]).flatten:=by rw[eG];exact hcl
    obtain⟨r,hrd⟩:=kp Nat.one_pos (es:=l.map fun x=>[bV x]) (fun e he=>by obtain⟨x,_,rfl⟩:=List.mem_map.1 he;rfl) hcl2;rw[List.length_map,eG]at hrd;have hmw:eZ M b 5 (Nat.add 0 (Nat.mul l.length 1)) (Nat.add 0 (Nat.mul (Nat.sub n 0) 1))=some (0,false):=by
     unfold eZ;rw[hM];show(bif Nat.beq 5 5&&Nat.beq n (0+(n-0)*1)&&Nat.ble 0 (0+l.length*1)&&Nat.ble (0+l.length*1) (0+(n-0)*1)then some (0,false)else none)=_;rw[bI,bI,bW,bW,aj (show 5=5 from rfl),aj (show n=0+(n-0)*1 by omega),aj (az _),aj (show 0+l.length*1≤0+(n-0)*1 by omega)];rfl
    have e3:ly F M c 5 1 1 b 0 l.length 0 n s.length (s.map bV)=fV (M.del b) c 5 1 (l.length+s.length) 0 false (l.map bV++s.map bV):=by
     unfold ly;rw[bW,ak (show¬Nat.add (Nat.add 0 l.length) s.length≤n by show¬0+l.length+s.length≤n;omega),cond_false,hmw];show o4 (M.del b) c 5 1 (l.length+s.length) 0 false (s.map bV) (readB F M 1 l.length b 0)=_;rw[hrd];rfl
    refine⟨_,_,_,((za hn0).trans e3).trans (grownEq _ _ _ hr (by rw[aO,List.length_map,List.length_map])),c,.inr ⟨by omega,by omega,l.length+s.length,⟨by rw[aO];exact ah _,by omega⟩,by rw[aO],?_⟩,(hg.del b ha).set c _ (by omega) (by omega) (by omega),by omega,fun x hx hxb=>?_,.inr (ah _)⟩
    ·rw[Tr.get_set,ac rfl,hmap]
    ·rw[ag _ _ (by omega),Tr.get_del,ab hxb]
def aQ1(F:RO)(M:Mem)(c sz:Nat)(x y:V):RC:=wE sz (.c x) (.c y) F M c .e
theorem Ot(sz:Nat)(x y:X)(M:Mem)(c:Nat)(t:T):ew (.cpy sz x y) (K Φ rd fn F) M c t=aQ1 F M c sz (x.ev t) (y.ev t):=Eq.trans rfl (Eq.refl _)
theorem ab3(M:Mem)(c sz b o e k:Nat):aQ1 F M c sz (.u b o 0 e k) .l0= .k (.i .i64 0) M c:=by
 show fN (bif Nat.ble 0 0 then 0 else 0) (fun n=>bif Nat.beq n 0 then RC.k (.i .i64 0) M c else aQ2 M c n (.u b o 0 e k) (qN F M sz n .l0))=_
 rw[bp];rfl
end
theorem rV{Φ:Nat→Option CF}{rd:Option Nat}{fn:Nat}{F:RO}(base i mask j b:Nat)(blk:bw)(dst:Option ay)(o:EO)(r:List (Nat×Nat×CO))(t:T)(M:Mem)(c:Nat)(reads:List (Nat×Nat))(R:DS→Prop)(hj:(mask/2^j%2==1)=true)(hb:ww mask reads=true):
 jM base ((i,mask,.mk dst (.e o) none)::r) (K Φ rd fn F) (.mk t M c [(j,b,blk)] reads) R=BD (ew o (K Φ rd fn F) (M.set b blk) c t) F dst base r (K Φ rd fn F) t reads R:=by
 have hp:=gc hb
 have hj':testBit mask j=true:=by
  show Nat.beq (Nat.mod (Nat.div mask (Nat.pow 2 j)) 2) 1=true;rw[bI];exact aj (show mask/2^j%2=1 by simpa using hj)
 have hmg:dN mask [(j,b,blk)] M=(M.set b blk,[]):=by
  show(bif testBit mask j then(M.set b blk).force (fun M=>dN mask [] M)else _)=_;rw[hj',cond_true,Tr.force_eq];rfl
 have he:px (K Φ rd fn F) base (i,mask,.mk dst (.e o) none) (.mk t M c [(j,b,blk)] reads)=lu F dst t [] reads [] (ew o (K Φ rd fn F) (M.set b blk) c t):=by
  show sC o (K Φ rd fn F) mask dst t c reads (dN mask [(j,b,blk)] M)=_;rw[hmg];show nU o (K Φ rd fn F) dst t c [] reads (bC mask reads F (M.set b blk) [])=_;rw[hp];rfl
 apply propext
 rw[ea,he]
 cases hd:ew o (K Φ rd fn F) (M.set b blk) c t with
 |f=>exact⟨fun⟨s',h,_⟩=>(by cases h),False.elim⟩
 |k v M' c'=>
  have h2:lu F dst t [] reads [] (.k v M' c')=if bH M' F=true then some (DS.mk (setT t dst v) M' c' [] reads)else none:=by
   show(bif bH M' F&&bX F M' []then(aU [] M').force fun M=>(setT t dst v).force fun t=>some (DS.mk t M c' [] reads)else none)=_;cases hr:bH M' F with
   |false=>rfl
   |true=>
    show((aU [] M').force fun M=>(setT t dst v).force fun t=>some (DS.mk t M c' [] reads))=_;rw[Tr.force_eq,Tr.force_eq];rfl
  rw[h2];show _↔(bH M' F=true∧jM base r (K Φ rd fn F) (.mk (setT t dst v) M' c' [] reads) R);cases hr:bH M' F with
  |false=>exact⟨fun⟨s',h,_⟩=>(by simp at h),fun h=>(by cases h.1)⟩
  |true=>
   constructor
   ·rintro⟨s',h,q⟩;simp only[if_true]at h;obtain rfl:=ae h;exact⟨rfl,q⟩
   ·exact fun h=>⟨_,rfl,h.2⟩
section
variable{Φ:Nat→Option CF}{rd:Option Nat}{fn:Nat}{F:RO}
def jo(I:Nat→Nat→St→Prop)(n:Nat)(Q:Ex→St→Prop):Ex→St→Prop
 | .gto l,s=>∃m,m<n∧I m l s
 |e,s=>Q e s
theorem jp(I:Nat→Nat→St→Prop)(n:Nat)(Q:Ex→St→Prop)(l:Nat)(s:St):jo I n Q (.gto l) s=∃m,m<n∧I m l s:=Eq.trans rfl (Eq.refl _)
theorem dF(I:Nat→Nat→St→Prop)(n:Nat)(Q:Ex→St→Prop)(s:St):jo I n Q .ret s=Q .ret s:=Eq.trans rfl (Eq.refl _)
theorem mg(I:Nat→Nat→St→Prop)(n:Nat)(Q:Ex→St→Prop)(id:Nat)(s:St):jo I n Q (.ext id) s=Q (.ext id) s:=Eq.trans rfl (Eq.refl _)
theorem fP(b:CC)(k:Kn)(Q:Ex→St→Prop)(l:Nat)(s:St):pI b k Q (.gto l) s=Q (.gto l) s:=Eq.trans rfl (Eq.refl _)
theorem zE(id:Nat)(Q:Ex→St→Prop)(l:Nat)(s:St):lR id Q (.gto l) s=Q (.gto l) s:=Eq.trans rfl (Eq.refl _)
theorem iu(l:Nat)(k:Kn)(s:St)(Q:Ex→St→Prop):Wp (.goto l) k s Q=Q (.gto l) s:=by
 apply propext;constructor
 ·rintro⟨e,s',h,q⟩;have h':Rs.k (.gto l) s= .k e s':=h;injection h' with h1 h2
  subst h1 h2;exact q
 ·exact fun h=>⟨_,_,rfl,h⟩
theorem u9{tbl:CC}{Q:Ex→St→Prop}(I:Nat→Nat→St→Prop)(h:∀n l s,I n l s→ ∃c,fU l tbl=some c∧Wp c (K Φ rd fn F) s (jo I n Q)):
 ∀n b s,Wp b (K Φ rd fn F) s (jo I n Q)→Wp (.scope b tbl) (K Φ rd fn F) s Q:=by
 intro n
 induction n using Nat.strongRecOn with
 |_ n ih=>
  rintro b s ⟨e,s',he,q⟩;have h0:bc (.scope b tbl) (K Φ rd fn F) s=fK tbl (K Φ rd fn F) (bc b (K Φ rd fn F) s):=rfl;cases e with
  |gto l=>
   obtain⟨m,hm,hI⟩:=q;obtain⟨c,hc,hw⟩:=h m l s' hI;obtain⟨e2,s2,h2,q2⟩:=ih m hm c s' hw;refine⟨e2,s2,?_,q2⟩;rw[h0,he];show mf tbl (K Φ rd fn F) s' (fU l tbl)=_;rw[hc];show mG (K Φ rd fn F) (.scope c tbl) s'=_;rw[←h2];exact uH Φ rd fn F (.scope c tbl) s'
  |nrm=>exact⟨_,_,by rw[h0,he];rfl,q⟩
  |ret=>exact⟨_,_,by rw[h0,he];rfl,q⟩
  |ext id=>exact⟨_,_,by rw[h0,he];rfl,q⟩
end
end
end Go.Proofs.YtmbpllipombieaaDoor.Ev
