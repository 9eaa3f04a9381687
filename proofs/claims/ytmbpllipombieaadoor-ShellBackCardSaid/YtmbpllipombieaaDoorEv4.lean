/- What is proved here: pieces of the evaluator's soundness: if the evaluator comes to a value, the model's run comes to it, for every world and tape; no conditions beyond the hypotheses of each theorem. -/
import Derived.Test.YtmbpllipombieaaDoorEv3
import GoSem.ClaimChange
import Derived.Stop.LaidErr
set_option linter.unusedSimpArgs false
set_option linter.unusedVariables false
set_option linter.defProp false
set_option maxRecDepth 100000
namespace Go.Proofs.YtmbpllipombieaaDoor.Ev
open Go Go.RowKit Go.ChangeShapes
noncomputable section
inductive Ty where
 |bool|int (k:IntKind)|str|sl (e:Ty)|nil|cons (a b:Ty)
def Ty.D:Ty→Type
 | .bool=>Bool
 | .int _=>Int
 | .str=>List UInt8
 | .sl e=>List e.D
 | .nil=>Unit
 | .cons a b=>a.D×b.D
def Ty.size:Ty→Nat
 | .nil=>0
 | .cons a b=>a.size+b.size
 |_=>1
def Ty.hasSl:Ty→Bool
 | .sl _=>true
 | .cons a b=>a.hasSl||b.hasSl
 |_=>false
def Ty.deep:Ty→Bool
 | .sl e=>e.hasSl
 | .cons a b=>a.deep||b.deep
 |_=>false
def Rp(F:RO)(M:Mem)(c:Nat):(t:Ty)→List V→t.D→Prop
 | .bool,vs,x=>vs=[.b x]
 | .int k,vs,n=>(fun z:Int=>vs=[.i k z]∧k.min≤z∧z≤k.max) n
 | .str,vs,x=>(fun l:List UInt8=>vs=[sV l]∧l.length≤Go.maxLen) x
 | .sl e,vs,x=>(fun l:List e.D=>∃v es,vs=[v]∧cq F M c e.size v es∧l.length≤Go.maxLen∧es.length=l.length∧ ∀i (h:i<es.length) (h':i<l.length),Rp F M c e es[i] l[i]) x
 | .nil,vs,_=>vs=[]
 | .cons a b,vs,x=>∃v1 v2,vs=v1++v2∧Rp F M c a v1 x.1∧Rp F M c b v2 x.2
theorem Rp.len{F:RO}{M:Mem}{c:Nat}:∀{t:Ty} {vs:List V} {x:t.D},Rp F M c t vs x→vs.length=t.size
 | .bool,vs,x,h=>by obtain rfl:vs=[.b x]:=h;rfl
 | .int k,vs,x,h=>by obtain⟨rfl,_⟩:=h;rfl
 | .str,vs,x,h=>by obtain⟨rfl,_⟩:=h;rfl
 | .sl e,vs,x,h=>by obtain⟨v,es,rfl,_⟩:=h;rfl
 | .nil,vs,x,h=>by obtain rfl:vs=[]:=h;rfl
 | .cons a b,vs,x,h=>by
   obtain⟨v1,v2,rfl,h1,h2⟩:=h;rw[aF,h1.len,h2.len];rfl
mutual
def qw(P:Program):Ty→TypeId→Bool
 | .bool,t=>match P.underlying t with|some .bool=>true|_=>false
 | .int k,t=>match P.underlying t with|some (.int k')=>decide (k'=k)|_=>false
 | .str,t=>match P.underlying t with|some .string=>true|_=>false
 | .sl e,t=>match P.underlying t with|some (.slice te)=>decide (P.cellsOf te=e.size)&&qw P e te|_=>false
 | .nil,_=>false
 | .cons a b,t=>match P.underlying t with
   |some (.struct fs)=>decide (P.cellsOf t=a.size+b.size)&&match fs.toList with
    |f::r=>decide (f.offset=0)&&(decide (P.cellsOf f.type=a.size)&&(qw P a f.type&&EK P b r a.size))
    |[]=>false
   |_=>false
def EK(P:Program):Ty→List Field→Nat→Bool
 | .nil,[],_=>true
 | .cons a b,f::r,o=>decide (f.offset=o)&&(decide (P.cellsOf f.type=a.size)&&(qw P a f.type&&EK P b r (o+a.size)))
 |_,_,_=>false
end
theorem dZ{α β:Type}{f:α→Option β}:∀{l:List α} {r:List β},l.mapM f=some r→r.length=l.length∧ ∀i (h:i<l.length) (h':i<r.length),f l[i]=some r[i]
 |[],r,h=>by
  rw[List.mapM_nil]at h;obtain rfl:[]=r:=ae h;exact⟨rfl,fun i h=>by cases h⟩
 |a::l,r,h=>by
  rw[List.mapM_cons]at h;cases h1:f a with
  |none=>rw[h1]at h;cases h
  |some b=>
   rw[h1]at h;have h':(l.mapM f).bind (fun bs=>some (b::bs))=some r:=h;cases h2:l.mapM f with
   |none=>rw[h2]at h';cases h'
   |some bs=>
    rw[h2]at h';obtain rfl:b::bs=r:=ae h';obtain⟨h3,h4⟩:=dZ h2;refine⟨by simp[h3],fun i hi hi'=>?_⟩;cases i with
    |zero=>exact h1
    |succ i=>exact h4 i (by simpa using hi) (by simpa using hi')
def F6(C:Nat):Value→Prop
 | .slice (some a) 0 0=>(a.spot=none∧a.block<C)∨wU a<C
 |_=>True
def wE(C:Nat)(cs:List Value)(vs:List V):Prop:=cs.map (yG C)=vs.map some
theorem wE.conc{C:Nat}:∀{cs:List Value} {vs:List V},wE C cs vs→az E0 vs=cs∧fw (· <C) vs
 |[],[],_=>⟨rfl,trivial⟩
 |[],_::_,h=>by cases h
 |_::_,[],h=>by cases h
 |c::cs,v::vs,h=>by
  have h':yG C c::cs.map (yG C)=some v::vs.map some:=h;injection h' with h1 h2
  obtain⟨a1,a2⟩:=wE.conc (cs:=cs) (vs:=vs) h2;obtain⟨b1,b2⟩:=sF h1;exact⟨by rw[az,a1,b1],b2,a2⟩
theorem wE.append{C:Nat}{cs cs':List Value}{vs vs':List V}(h:wE C cs vs)(h':wE C cs' vs'):wE C (cs++cs') (vs++vs'):=by
 unfold wE at *
 rw[List.map_append,List.map_append,h,h']
theorem wE.len{C:Nat}{cs:List Value}{vs:List V}(h:wE C cs vs):cs.length=vs.length:=by
 have:=congrArg List.length h
 simpa using this
theorem wE.get{C:Nat}{cs:List Value}{vs:List V}(h:wE C cs vs)(i:Nat)(hi:i<cs.length):yG C cs[i]=vs[i]?:=by
 have:=congrArg (fun l:List (Option V)=>l[i]?) h
 simp only[List.getElem?_map]at this
 rw[List.getElem?_eq_getElem hi,List.getElem?_eq_getElem (by rw[←h.len];exact hi)]at this
 rw[List.getElem?_eq_getElem (by rw[←h.len];exact hi)]
 simpa using this
section
variable{H:Type}{enc:TypeId×Value→H}{P:Program}{W:World}{C:Nat}{sp:Nat→Bool}{held:Bool}
theorem Nh{r o:Nat}{cs:List Value}{vs:List V}(h:wE C cs vs)(hc:∀i (hi:i<cs.length),W.cell? ⟨r,o+i,none⟩=some cs[i]):cO (dR W C) .e r o vs:=by
 intro k hk
 have hk':k<cs.length:=by rw[h.len];exact hk
 have:=h.get k hk'
 rw[List.getElem?_eq_getElem hk]at this⊢
 exact EN (hc k hk') this
theorem uv{t:TypeId}{cs:List Value}{fuel:Nat}{r:DataW H×List MemPlace}(hu:P.underlying t=some .bool)(h:DataW.trod enc P W 0 sp held fuel t cs=some r):∃b,cs=[.bool b]:=by
 cases fuel with
 |zero=>cases h
 |succ fuel=>
  unfold DataW.trod at h;rw[hu]at h;split at h<;>first|(rename_i e;cases e;done)|cases h|skip
  all_goals simp_all
theorem yE{t:TypeId}{k:IntKind}{cs:List Value}{fuel:Nat}{r:DataW H×List MemPlace}(hu:P.underlying t=some (.int k))(h:DataW.trod enc P W 0 sp held fuel t cs=some r):∃n,cs=[.int k n]∧k.min≤n∧n≤k.max:=by
 cases fuel with
 |zero=>cases h
 |succ fuel=>
  unfold DataW.trod at h;rw[hu]at h;split at h<;>first|(rename_i e;cases e;done)|cases h|skip
  rename_i k0 k' n e;simp only[Option.some.injEq,TypeDesc.int.injEq]at e;subst e;split at h
  ·rename_i hk;obtain⟨rfl,hw⟩:=hk;have hw':(decide (k'.min≤n)&&decide (n≤k'.max))=true:=hw;simp only[ay,decide_eq_true_eq]at hw';exact⟨n,rfl,hw'⟩
  ·cases h
theorem yF{t:TypeId}{cs:List Value}{fuel:Nat}{r:DataW H×List MemPlace}(hu:P.underlying t=some .string)(h:DataW.trod enc P W 0 sp held fuel t cs=some r):∃s:ByteArray,cs=[.string s]∧s.data.toList.length≤Go.maxLen:=by
 cases fuel with
 |zero=>cases h
 |succ fuel=>
  unfold DataW.trod at h;rw[hu]at h;split at h<;>first|(rename_i e;cases e;done)|cases h|skip
  rename_i s e;split at h
  ·rename_i hk;exact⟨s,rfl,by simpa using hk⟩
  ·cases h
theorem DD{t te:TypeId}{cs:List Value}{fuel:Nat}{r:DataW H×List MemPlace}(hu:P.underlying t=some (.slice te))(h:DataW.trod enc P W 0 sp held fuel t cs=some r):
 cs=[.slice none 0 0]∨ ∃a len cap fuel',cs=[.slice (some a) len cap]∧len≤cap∧cap≤Go.maxLen∧
  (∀i,i<len→ ∃es x,W.cells? 0 (a.add (i*P.cellsOf te)) (P.cellsOf te)=some es∧DataW.trod enc P W 0 sp held fuel' te es=some x)∧
  (sp a.block=true→0<cap→ ∃es,W.cells? 0 a (P.cellsOf te)=some es):=by
 cases fuel with
 |zero=>cases h
 |succ fuel=>
  unfold DataW.trod at h;rw[hu]at h;split at h<;>first|(rename_i e;cases e;done)|cases h|skip
  ·exact .inl rfl
  ·rename_i e0 a len cap e;simp only[Option.some.injEq,TypeDesc.slice.injEq]at e;subst e;simp only at h;split at h
   ·rename_i hk;obtain⟨_,h1,h2⟩:=hk;cases hm:(List.range len).mapM fun i=>(W.cells? 0 (a.add (i*P.cellsOf te)) (P.cellsOf te)).bind (DataW.trod enc P W 0 sp held fuel te)with
    |none=>rw[hm]at h;cases h
    |some elems=>
     obtain⟨hl,hget⟩:=dZ hm
     have hel:∀i,i<len→ ∃es x,W.cells? 0 (a.add (i*P.cellsOf te)) (P.cellsOf te)=some es∧DataW.trod enc P W 0 sp held fuel te es=some x:=fun i hi=>by
      have:=hget i (by simpa using hi) (by rw[hl];simpa using hi);simp only[List.getElem_range]at this;cases hc:W.cells? 0 (a.add (i*P.cellsOf te)) (P.cellsOf te)with
      |none=>rw[hc]at this;cases this
      |some es=>rw[hc]at this;exact⟨es,_,rfl,this⟩
     refine .inr ⟨a,len,cap,fuel,rfl,h1,h2,hel,fun hsp h0=>?_⟩;by_cases hlen:0<len
     ·obtain⟨es,_,he,_⟩:=hel 0 hlen;rw[Nat.zero_mul]at he;exact⟨es,by simpa [Addr.add]using he⟩
     ·rw[hm]at h;simp only[Option.bind_some,ac hsp]at h;cases hm2:(List.range (cap-len)).mapM fun j=>(W.cells? 0 (a.add ((len+j)*P.cellsOf te)) (P.cellsOf te)).bind (DataW.trod enc P W 0 sp held fuel te)with
      |none=>rw[hm2]at h;cases h
      |some rest=>
       obtain⟨g1,g2⟩:=dZ hm2;rw[List.length_range]at g1;have:=g2 0 (by rw[List.length_range];omega) (by omega);simp only[List.getElem_range]at this;rw[show(len+0)*P.cellsOf te=0 by rw[show len=0 by omega];simp]at this;cases hc:W.cells? 0 (a.add 0) (P.cellsOf te)with
       |none=>rw[hc]at this;cases this
       |some es=>exact⟨es,by simpa [Addr.add]using hc⟩
   ·cases h
theorem DE{t:TypeId}{fs:Array Field}{cs:List Value}{fuel:Nat}{r:DataW H×List MemPlace}(hu:P.underlying t=some (.struct fs))(h:DataW.trod enc P W 0 sp held fuel t cs=some r):
 cs.length=P.cellsOf t∧ ∃fuel',∀f∈fs.toList,∃x,DataW.trod enc P W 0 sp held fuel' f.type ((cs.drop f.offset).take (P.cellsOf f.type))=some x:=by
 cases fuel with
 |zero=>cases h
 |succ fuel=>
  have key:(if cs.length=P.cellsOf t then(fs.toList.mapM fun f=>DataW.trod enc P W 0 sp held fuel f.type ((cs.drop f.offset).take (P.cellsOf f.type))).map fun xs=>(DataW.agg (xs.map (·.1)),xs.flatMap (·.2))else none)=some r:=by
   unfold DataW.trod at h;rw[hu]at h;split at h<;>first|(rename_i e;cases e;done)|cases h|skip
   ·rename_i e;simp only[Option.some.injEq,TypeDesc.struct.injEq]at e;subst e;exact h
   ·exact(‹∀fs_1:Array Field,some (TypeDesc.struct fs)=some (TypeDesc.struct fs_1)→False› fs rfl).elim
  split at key
  ·rename_i hk;refine⟨hk,fuel,fun f hf=>?_⟩;rw[bj]at key;obtain⟨xs,hm,_⟩:=key;obtain⟨hl,hget⟩:=dZ hm;obtain⟨i,hi,rfl⟩:=List.getElem_of_mem hf;exact⟨_,hget i hi (by rw[hl];exact hi)⟩
  ·cases key
theorem FQ{a:Addr}{n c:Nat}(h1:a.spot=none)(h2:a.block<C):yG C (.slice (some a) n c)=some (.l a.block a.off n c):=by
 show(if a.spot=none∧a.block<C then some (V.l a.block a.off n c)else _)=_
 rw[ac ⟨h1,h2⟩]
theorem xf{a:Addr}{n:Nat}{cs:List Value}(hc:W.cells? 0 a n=some cs)(hn:0<n):a.spot=none∧a.block<W.heap.size:=by
 unfold World.cells? at hc
 rw[ac (aB _)]at hc
 obtain⟨h1,h2⟩:=dZ hc
 rw[List.length_range]at h1
 have:=h2 0 (by rw[List.length_range];exact hn) (by omega)
 rw[List.getElem_range,show a.add 0=a from rfl]at this
 unfold World.cell? at this
 split at this
 ·rename_i hh;split at this
  ·cases this
  ·rename_i hs;refine⟨?_,(Array.getElem?_eq_some_iff.1 hh).1⟩;cases hsp:a.spot with
   |none=>rfl
   |some k=>rw[hsp]at hs;simp at hs
 ·cases this
theorem Ny{sz:Nat}{a:Addr}{len cap:Nat}{Q:List Value→List V→Prop}(hs:a.spot=none)(hb:a.block<C)(hlc:len≤cap)
 (h:∀i,i<len→ ∃cs vs,W.cells? 0 (a.add (i*sz)) sz=some cs∧wE C cs vs∧Q cs vs):
 ∃es:List (List V),es.length=len∧cq (dR W C) .e C sz (.l a.block a.off len cap) es∧ ∀i (hi:i<es.length),∃cs,Q cs es[i]:=by
 obtain⟨b,o,sp⟩:=a
 obtain rfl:sp=none:=hs
 have hget:∀i,i<len→ ∃cs vs,wE C cs vs∧Q cs vs∧cs.length=sz∧ ∀k (hk:k<cs.length),W.cell? ⟨b,o+i*sz+k,none⟩=some cs[k]:=by
  intro i hi;obtain⟨cs,vs,h1,h2,h3⟩:=h i hi;rw[Addr.add_eq]at h1;unfold World.cells? at h1;rw[ac (aB _)]at h1;obtain⟨h4,h5⟩:=dZ h1;rw[List.length_range]at h4;refine⟨cs,vs,h2,h3,h4,fun k hk=>?_⟩;have:=h5 k (by rw[List.length_range];omega) hk;rw[List.getElem_range,Addr.add_eq]at this;exact this
 have key:∀n,n≤len→ ∃es:List (List V),es.length=n∧(∀e∈es,e.length=sz)∧cO (dR W C) .e b o es.flatten∧ ∀i (hi:i<es.length),∃cs,Q cs es[i]:=by
  intro n
  induction n with
  |zero=>intro _;exact⟨[],rfl,fun e he=>(by cases he),fun k hk=>(by simp at hk),fun i hi=>(by simp at hi)⟩
  |succ n ih=>
   intro hn;obtain⟨es,h1,h2,h3,h4⟩:=ih (by omega);obtain⟨cs,vs,g1,g2,g3,g4⟩:=hget n (by omega);have hvl:vs.length=sz:=by rw[←g1.len];exact g3
   have h2':∀e∈es++[vs],e.length=sz:=by
    intro e he;rw[List.mem_append,List.mem_singleton]at he;rcases he with he|rfl
    ·exact h2 e he
    ·exact hvl
   have hfl:es.flatten.length=n*sz:=by rw[eF h2,h1]
   refine⟨es++[vs],by simp[h1],h2',?_,fun i hi=>?_⟩
   ·intro k hk;rw[List.flatten_append]at hk⊢;simp only[List.flatten_cons,List.flatten_nil,bQ,aF]at hk⊢;by_cases hk1:k<es.flatten.length
    ·rw[List.getElem?_append_left hk1];exact h3 k hk1
    ·rw[List.getElem?_append_right (by omega),hfl];have hr:=Nh (o:=o+n*sz) g1 g4 (k-n*sz) (by omega);rw[←hr];congr 1;omega
   ·by_cases hi1:i<es.length
    ·rw[ff hi1];exact h4 i hi1
    ·rw[fe (by omega)];have:i-es.length=0:=by simp at hi;omega
     simp only[this,List.getElem_cons_zero];exact⟨cs,g2⟩
 obtain⟨es,h1,h2,h3,h4⟩:=key len (ag _)
 refine⟨es,h1,⟨h2,.inr ⟨b,o,.inl ⟨cap,by omega,by rw[h1]⟩,hb,h3⟩⟩,h4⟩
theorem Re{α:Type}{n:Nat}{Q:Nat→α→Prop}(h:∀i,i<n→ ∃x,Q i x):∃l:List α,l.length=n∧ ∀i (hi:i<l.length),Q i l[i]:=by
 induction n with
 |zero=>exact⟨[],rfl,fun i hi=>(by simp at hi)⟩
 |succ n ih=>
  obtain⟨l,h1,h2⟩:=ih fun i hi=>h i (by omega);obtain⟨x,hx⟩:=h n (by omega);refine⟨l++[x],by simp[h1],fun i hi=>?_⟩;by_cases hi1:i<l.length
  ·rw[ff hi1];exact h2 i hi1
  ·rw[fe (by omega)];have e:i=n:=by simp at hi;omega
   subst e;simp only[h1,Nat.sub_self,List.getElem_cons_zero];exact hx
theorem Ty.size_pos{P:Program}{ty:Ty}{t:TypeId}(h:qw P ty t=true):0<ty.size:=by
 induction ty generalizing t with
 |cons a b iha _=>
  rw[qw]at h;split at h
  ·simp only[ay]at h;obtain⟨_,h⟩:=h;split at h
   ·simp only[ay]at h;have:=iha h.2.2.1;show 0<a.size+b.size;omega
   ·cases h
  ·cases h
 |nil=>cases h
 |_=>exact Nat.one_pos
mutual
theorem qF(hsp:∀b,sp b=true)(hC:W.heap.size≤C):∀(ty:Ty) (t:TypeId) (cs:List Value) (fuel:Nat) (r:DataW H×List MemPlace),qw P ty t=true→DataW.trod enc P W 0 sp held fuel t cs=some r→
 (ty.hasSl=true→ ∀v∈cs,F6 C v)→(ty.deep=true→ ∀a x,W.cell? a=some x→F6 C x)→ ∃vs x,wE C cs vs∧Rp (dR W C) .e C ty vs x
 | .bool,t,cs,fuel,r,hb,h,h1,h2=>by
   rw[qw]at hb;split at hb
   ·rename_i hu;obtain⟨b,rfl⟩:=uv hu h;exact⟨[.b b],b,rfl,rfl⟩
   ·cases hb
 | .int k,t,cs,fuel,r,hb,h,h1,h2=>by
   rw[qw]at hb;split at hb
   ·rename_i k' hu;obtain rfl:=bL hb;obtain⟨n,rfl,hn⟩:=yE hu h;exact⟨[.i k' n],n,rfl,rfl,hn⟩
   ·cases hb
 | .str,t,cs,fuel,r,hb,h,h1,h2=>by
   rw[qw]at hb;split at hb
   ·rename_i hu;obtain⟨s,rfl,hs⟩:=yF hu h;exact⟨[sV s.data.toList],s.data.toList,rfl,rfl,hs⟩
   ·cases hb
 | .sl e,t,cs,fuel,r,hb,h,h1,h2=>by
   rw[qw]at hb;split at hb
   ·rename_i te hu;simp only[ay,decide_eq_true_eq]at hb;obtain⟨hsz,hb⟩:=hb;have hpos:=Ty.size_pos hb;rcases DD hu h with rfl|⟨a,len,cap,fuel',rfl,hlc,hcap,hel,hfirst⟩
    ·exact⟨[.l0],[],rfl,.l0,[],rfl,⟨fun e he=>(by cases he),.inl ⟨rfl,.inl rfl⟩⟩,aB _,rfl,fun i hi=>(by cases hi)⟩
    ·have hz:=h1 rfl _ (List.mem_singleton.2 rfl);rw[hsz]at hel hfirst;have hok:(a.spot=none∧a.block<C)∨(len=0∧cap=0∧wU a<C∧ ¬(a.spot=none∧a.block<C)):=by
      by_cases h0:0<cap
      ·obtain⟨es,he⟩:=hfirst (hsp _) h0;obtain⟨g1,g2⟩:=xf he hpos;exact .inl ⟨g1,Nat.lt_of_lt_of_le g2 hC⟩
      ·obtain rfl:cap=0:=by omega
       obtain rfl:len=0:=by omega
       by_cases hq:a.spot=none∧a.block<C
       ·exact .inl hq
       ·exact .inr ⟨rfl,rfl,hz.resolve_left hq,hq⟩
     rcases hok with hok|⟨rfl,rfl,he,hq⟩
     rotate_left
     ·refine⟨[.ue (wU a) 1 0],[],?_,.ue (wU a) 1 0,[],rfl,⟨fun e he=>(by cases he),.inl ⟨rfl,.inr ⟨_,_,_,rfl⟩⟩⟩,aB _,rfl,fun i hi=>(by cases hi)⟩;show[yG C _]=[some _]
      congr 1
      show(if a.spot=none∧a.block<C then _ else if 0=0∧0=0∧wU a<C then some (V.ue (wU a) 1 0)else none)=_;rw[ab hq,ac ⟨rfl,rfl,he⟩]
     obtain⟨es,hl,hS,hQ⟩:=Ny (cap:=cap) (C:=C) (Q:=fun _ vs=>∃x,Rp (dR W C) .e C e vs x) hok.1 hok.2 hlc (fun i hi=>by
      obtain⟨cs',x,hc,ht⟩:=hel i hi
      obtain⟨vs,y,hv,hR⟩:=qF hsp hC e te cs' fuel' x hb ht
       (fun he v hv=>by
        obtain⟨j,hj,rfl⟩:=List.getElem_of_mem hv;unfold World.cells? at hc;rw[ac (aB _)]at hc;obtain⟨h4,h5⟩:=dZ hc;exact h2 he _ _ (h5 j (by rw[List.length_range]at h4⊢;omega) hj))
       (fun he=>h2 (by
        have key:∀t:Ty,t.deep=true→t.hasSl=true:=by
         intro t
         induction t with
         |cons a b iha ihb=>
          intro hd;have hd':(a.deep||b.deep)=true:=hd;show(a.hasSl||b.hasSl)=true;rw[Bool.or_eq_true]at hd'⊢;exact hd'.imp iha ihb
         |sl e _=>intro _;rfl
         |_=>intro hd;cases hd
        exact key e he))
      exact⟨cs',vs,hc,hv,y,hR⟩)
     obtain⟨xs,hxl,hx⟩:=Re (n:=es.length) (Q:=fun i x=>∀h:i<es.length,Rp (dR W C) .e C e es[i] x) (fun i hi=>by
      obtain⟨_,x,hR⟩:=hQ i hi;exact⟨x,fun _=>hR⟩)
     refine⟨[.l a.block a.off len cap],xs,?_,.l a.block a.off len cap,es,rfl,hS,?_,hxl.symm,fun i hi hi'=>hx i hi' hi⟩
     ·show[yG C _]=[some _]
      rw[FQ hok.1 hok.2]
     ·show List.length xs≤_;omega
   ·cases hb
 | .nil,t,cs,fuel,r,hb,h,h1,h2=>by cases hb
 | .cons a b,t,cs,fuel,r,hb,h,h1,h2=>by
   rw[qw]at hb;split at hb
   ·rename_i fs hu;simp only[ay,decide_eq_true_eq]at hb;obtain⟨hsz,hb⟩:=hb;obtain⟨hlen,fuel',hf⟩:=DE hu h;split at hb
    ·rename_i f rest hfs;simp only[ay,decide_eq_true_eq]at hb;obtain⟨ho,hfa,hta,hrest⟩:=hb;rw[hfs]at hf;obtain⟨x,hx⟩:=hf f (bw ..);rw[ho,hfa]at hx;have hs:(a.hasSl=true→ ∀v∈(cs.drop 0).take a.size,F6 C v):=fun ha v hv=>h1 (by show(a.hasSl||b.hasSl)=true;rw[ha];rfl) v (List.mem_of_mem_drop (List.mem_of_mem_take hv));obtain⟨v1,x1,hv1,hR1⟩:=qF hsp hC a f.type _ fuel' x hta hx hs (fun ha=>h2 (by show(a.deep||b.deep)=true;rw[ha];rfl))
     obtain⟨v2,x2,hv2,hR2⟩:=Dm hsp hC b rest cs fuel' a.size hrest (by rw[hlen,hsz]) (fun f' hf'=>hf f' (bn _ hf'))
      (fun hb' v hv=>h1 (by show(a.hasSl||b.hasSl)=true;rw[hb'];simp) v (List.mem_of_mem_drop hv)) (fun hb'=>h2 (by show(a.deep||b.deep)=true;rw[hb'];simp))
     refine⟨v1++v2,(x1,x2),?_,v1,v2,rfl,hR1,hR2⟩;have:=hv1.append hv2
     rwa [List.drop_zero,List.take_append_drop]at this
    ·cases hb
   ·cases hb
theorem Dm(hsp:∀b,sp b=true)(hC:W.heap.size≤C):∀(ty:Ty) (fs:List Field) (cs:List Value) (fuel o:Nat),EK P ty fs o=true→cs.length=o+ty.size→
 (∀f∈fs,∃x,DataW.trod enc P W 0 sp held fuel f.type ((cs.drop f.offset).take (P.cellsOf f.type))=some x)→
 (ty.hasSl=true→ ∀v∈cs.drop o,F6 C v)→(ty.deep=true→ ∀a x,W.cell? a=some x→F6 C x)→ ∃vs x,wE C (cs.drop o) vs∧Rp (dR W C) .e C ty vs x
 | .nil,[],cs,fuel,o,hb,hl,hf,h1,h2=>by
   refine⟨[],(),?_,rfl⟩;rw[List.drop_eq_nil_of_le (by have:(Ty.nil).size=0:=rfl;omega)];rfl
 | .nil,_::_,cs,fuel,o,hb,hl,hf,h1,h2=>by cases hb
 | .bool,fs,cs,fuel,o,hb,hl,hf,h1,h2=>by cases fs<;>cases hb
 | .int k,fs,cs,fuel,o,hb,hl,hf,h1,h2=>by cases fs<;>cases hb
 | .str,fs,cs,fuel,o,hb,hl,hf,h1,h2=>by cases fs<;>cases hb
 | .sl e,fs,cs,fuel,o,hb,hl,hf,h1,h2=>by cases fs<;>cases hb
 | .cons a b,[],cs,fuel,o,hb,hl,hf,h1,h2=>by cases hb
 | .cons a b,f::rest,cs,fuel,o,hb,hl,hf,h1,h2=>by
   rw[EK]at hb;simp only[ay,decide_eq_true_eq]at hb;obtain⟨ho,hfa,hta,hrest⟩:=hb;have hl':cs.length=o+(a.size+b.size):=hl;obtain⟨x,hx⟩:=hf f (bw ..);rw[ho,hfa]at hx;obtain⟨v1,x1,hv1,hR1⟩:=qF hsp hC a f.type _ fuel x hta hx (fun ha v hv=>h1 (by show(a.hasSl||b.hasSl)=true;rw[ha];rfl) v (List.mem_of_mem_take hv)) (fun ha=>h2 (by show(a.deep||b.deep)=true;rw[ha];rfl))
   obtain⟨v2,x2,hv2,hR2⟩:=Dm hsp hC b rest cs fuel (o+a.size) hrest (by omega) (fun f' hf'=>hf f' (bn _ hf'))
    (fun hb' v hv=>h1 (by show(a.hasSl||b.hasSl)=true;rw[hb'];simp) v (by rw[←List.drop_drop]at hv;exact List.mem_of_mem_drop hv)) (fun hb'=>h2 (by show(a.deep||b.deep)=true;rw[hb'];simp))
   refine⟨v1++v2,(x1,x2),?_,v1,v2,rfl,hR1,hR2⟩;have:=hv1.append hv2
   rwa [←List.drop_drop,List.take_append_drop]at this
end
theorem A8{W W':World}(h:∀i,i<W.heap.size→W'.heap[i]?=W.heap[i]?){a:Addr}{n:Nat}{cs:List Value}(hc:W.cells? 0 a n=some cs):W'.cells? 0 a n=some cs:=by
 unfold World.cells? at hc⊢
 rw[ac (aB _)]at hc⊢
 have key:∀(l:List Nat) (r:List Value),(l.mapM fun i=>W.cell? (a.add i))=some r→(l.mapM fun i=>W'.cell? (a.add i))=some r:=by
  intro l
  induction l with
  |nil=>intro r hr;exact hr
  |cons x l ih=>
   intro r hr;rw[List.mapM_cons]at hr⊢;cases h1:W.cell? (a.add x)with
   |none=>rw[h1]at hr;cases hr
   |some v=>
    have e:W'.cell? (a.add x)=some v:=by
     unfold World.cell? at h1⊢;split at h1
     ·rename_i hh;rw[h _ (Array.getElem?_eq_some_iff.1 hh).1,hh];exact h1
     ·cases h1
    rw[h1]at hr;rw[e];cases h2:l.mapM fun i=>W.cell? (a.add i)with
    |none=>rw[h2]at hr;cases hr
    |some vs=>
     rw[h2]at hr;rw[ih vs h2];exact hr
 exact key _ _ hc
theorem Lq{W:World}{a:Addr}{n:Nat}{cs:List Value}(hc:W.cells? 0 a n=some cs)(hn:0<n):a.block<W.heap.size:=by
 unfold World.cells? at hc
 rw[ac (aB _)]at hc
 obtain⟨h1,h2⟩:=dZ hc
 rw[List.length_range]at h1
 have:=h2 0 (by rw[List.length_range];exact hn) (by omega)
 rw[List.getElem_range]at this
 unfold World.cell? at this
 split at this
 ·rename_i hh;have:=(Array.getElem?_eq_some_iff.1 hh).1;unfold Addr.add at this
  simpa using this
 ·cases this
theorem nD{α β:Type}{f g:α→Option β}:∀{l:List α} {r:List β},l.mapM f=some r→(∀x∈l,∀y,f x=some y→g x=some y)→l.mapM g=some r
 |[],r,h,_=>h
 |a::l,r,h,hfg=>by
  rw[List.mapM_cons]at h⊢;cases h1:f a with
  |none=>rw[h1]at h;cases h
  |some b=>
   rw[h1]at h;rw[hfg a (bw ..) b h1];cases h2:l.mapM f with
   |none=>rw[h2]at h;cases h
   |some bs=>
    rw[h2]at h;rw[nD h2 fun x hx=>hfg x (bn _ hx)];exact h
theorem BA{t:TypeId}{fs:Array Field}{cs:List Value}{fuel:Nat}(hu:P.underlying t=some (.struct fs))(hlen:cs.length=P.cellsOf t):DataW.trod enc P W 0 sp held (fuel+1) t cs=
 (fs.toList.mapM fun f=>DataW.trod enc P W 0 sp held fuel f.type ((cs.drop f.offset).take (P.cellsOf f.type))).map fun xs=>(DataW.agg (xs.map (·.1)),xs.flatMap (·.2)):=by
 rw[DataW.trod_step]
 unfold DataW.trodStep
 rw[hu]
 clear hu
 split
 all_goals first
  |(rename_i e;simp only[Option.some.injEq,TypeDesc.struct.injEq]at e;subst e;rw[ac hlen];done)
  |(rename_i e;cases e;done)
  |exact(‹∀fs_1:Array Field,some (TypeDesc.struct fs)=some (TypeDesc.struct fs_1)→False› fs rfl).elim
  |skip
mutual
theorem lJ{W W':World}(hW:∀i,i<W.heap.size→W'.heap[i]?=W.heap[i]?):∀(ty:Ty) (t:TypeId) (cs:List Value) (fuel:Nat) (r:DataW H×List MemPlace),qw P ty t=true→
 DataW.trod enc P W 0 (fun _=>true) held fuel t cs=some r→DataW.trod enc P W' 0 (fun b=>decide (b<W.heap.size)) held fuel t cs=some r
 |ty,t,cs,0,r,hb,h=>by cases h
 | .bool,t,cs,fuel+1,r,hb,h=>by
   rw[qw]at hb;split at hb
   ·rename_i hu;obtain⟨b,rfl⟩:=uv hu h;simp only[DataW.trod,hu]at h⊢;exact h
   ·cases hb
 | .int k,t,cs,fuel+1,r,hb,h=>by
   rw[qw]at hb;split at hb
   ·rename_i k' hu;obtain rfl:=bL hb;obtain⟨n,rfl,hn⟩:=yE hu h;simp only[DataW.trod,hu]at h⊢;exact h
   ·cases hb
 | .str,t,cs,fuel+1,r,hb,h=>by
   rw[qw]at hb;split at hb
   ·rename_i hu;obtain⟨s,rfl,hs⟩:=yF hu h;simp only[DataW.trod,hu]at h⊢;exact h
   ·cases hb
 | .sl e,t,cs,fuel+1,r,hb,h=>by
   rw[qw]at hb;split at hb
   ·rename_i te hu;simp only[ay,decide_eq_true_eq]at hb;obtain⟨hsz,hb⟩:=hb;have hpos:=Ty.size_pos hb;rcases DD hu h with rfl|⟨a,len,cap,fuel',rfl,hlc,hcap,hel⟩
    ·simp only[DataW.trod,hu]at h⊢;exact h
    ·simp only[DataW.trod,hu]at h⊢;rw[ac ⟨aB _,hlc,hcap⟩]at h⊢
     have elem:∀i y,(W.cells? 0 (a.add (i*P.cellsOf te)) (P.cellsOf te)).bind (DataW.trod enc P W 0 (fun _=>true) held fuel te)=some y→
      (W'.cells? 0 (a.add (i*P.cellsOf te)) (P.cellsOf te)).bind (DataW.trod enc P W' 0 (fun b=>decide (b<W.heap.size)) held fuel te)=some y:=by
      intro i y hy;cases hc:W.cells? 0 (a.add (i*P.cellsOf te)) (P.cellsOf te)with
      |none=>rw[hc]at hy;cases hy
      |some es=>
       rw[hc]at hy;rw[A8 hW hc];exact lJ hW e te es fuel y hb hy
     cases hm:(List.range len).mapM fun i=>(W.cells? 0 (a.add (i*P.cellsOf te)) (P.cellsOf te)).bind (DataW.trod enc P W 0 (fun _=>true) held fuel te)with
     |none=>rw[hm]at h;cases h
     |some elems=>
      rw[hm]at h;rw[nD hm fun i _=>elem i];simp only[Option.bind_some,if_true]at h⊢;by_cases hblk:a.block<W.heap.size
      ·rw[aj hblk];simp only[if_true];cases hm2:(List.range (cap-len)).mapM fun j=>(W.cells? 0 (a.add ((len+j)*P.cellsOf te)) (P.cellsOf te)).bind (DataW.trod enc P W 0 (fun _=>true) held fuel te)with
       |none=>rw[hm2]at h;cases h
       |some rest=>
        rw[hm2]at h;rw[nD hm2 fun i _=>elem (len+i)];exact h
      ·rw[ak hblk];have h0:cap-len=0:=by
        by_cases h0:cap-len=0
        ·exact h0
        ·exfalso;cases hm2:(List.range (cap-len)).mapM fun j=>(W.cells? 0 (a.add ((len+j)*P.cellsOf te)) (P.cellsOf te)).bind (DataW.trod enc P W 0 (fun _=>true) held fuel te)with
         |none=>rw[hm2]at h;cases h
         |some rest=>
          obtain⟨g1,g2⟩:=dZ hm2;rw[List.length_range]at g1;have:=g2 0 (by rw[List.length_range];omega) (by omega);cases hc:W.cells? 0 (a.add ((len+(List.range (cap-len))[0]'(by rw[List.length_range];omega))*P.cellsOf te)) (P.cellsOf te)with
          |none=>rw[hc]at this;cases this
          |some es=>
           have:=Lq hc (by omega);unfold Addr.add at this;split at this<;>exact hblk this
       rw[h0]at h;simp only[List.range_zero,List.mapM_nil]at h;exact h
   ·cases hb
 | .nil,t,cs,fuel+1,r,hb,h=>by cases hb
 | .cons a b,t,cs,fuel+1,r,hb,h=>by
   rw[qw]at hb;split at hb
   ·rename_i fs hu;simp only[ay,decide_eq_true_eq]at hb;obtain⟨hsz,hb⟩:=hb;obtain⟨hlen,_⟩:=DE hu h;rw[BA hu hlen]at h⊢;split at hb
    ·rename_i f rest hfs;simp only[ay,decide_eq_true_eq]at hb;obtain⟨ho,hfa,hta,hrest⟩:=hb;rw[bj]at h;obtain⟨xs,hm,rfl⟩:=h;rw[hfs]at hm⊢
     rw[nD hm fun g hg y hy=>by
      rcases bf.1 hg with rfl|hg
      ·exact lJ hW a _ _ fuel y hta hy
      ·exact tX hW b rest fuel a.size hrest g hg _ y hy]
     rfl
    ·cases hb
   ·cases hb
theorem tX{W W':World}(hW:∀i,i<W.heap.size→W'.heap[i]?=W.heap[i]?):∀(ty:Ty) (fs:List Field) (fuel o:Nat),EK P ty fs o=true→ ∀f∈fs,∀(cs:List Value) (y:DataW H×List MemPlace),
 DataW.trod enc P W 0 (fun _=>true) held fuel f.type cs=some y→DataW.trod enc P W' 0 (fun b=>decide (b<W.heap.size)) held fuel f.type cs=some y
 | .nil,[],fuel,o,hb,f,hf,cs,y,h=>by cases hf
 | .nil,_::_,fuel,o,hb,f,hf,cs,y,h=>by cases hb
 | .bool,fs,fuel,o,hb,f,hf,cs,y,h=>by cases fs<;>cases hb
 | .int k,fs,fuel,o,hb,f,hf,cs,y,h=>by cases fs<;>cases hb
 | .str,fs,fuel,o,hb,f,hf,cs,y,h=>by cases fs<;>cases hb
 | .sl e,fs,fuel,o,hb,f,hf,cs,y,h=>by cases fs<;>cases hb
 | .cons a b,[],fuel,o,hb,f,hf,cs,y,h=>by cases hb
 | .cons a b,g::rest,fuel,o,hb,f,hf,cs,y,h=>by
   rw[EK]at hb;simp only[ay,decide_eq_true_eq]at hb;obtain⟨ho,hfa,hta,hrest⟩:=hb;rcases bf.1 hf with rfl|hf
   ·exact lJ hW a _ _ fuel y hta h
   ·exact tX hW b rest fuel _ hrest f hf cs y h
end
def Ty.arg:Ty→List V→V
 | .cons _ _,vs=> .g vs
 |_,v::_=>v
 |_,[]=>undef
def Gs(F:RO)(C:Nat):List Ty→List V→Prop
 |[],as=>as=[]
 |ty::r,as=>∃vs x a',as=ty.arg vs::a'∧Rp F .e C ty vs x∧Gs F C r a'
def FP(P:Program):List Ty→List TypeId→Bool
 |[],[]=>true
 |ty::r,t::ts=>qw P ty t&&FP P r ts
 |_,_=>false
theorem xS{base:Nat}{u:TypeId}{v:Value}(h:Cell.okWide P W .any base u v)(hC:W.heap.size≤C):F6 C v:=by
 unfold F6
 split
 ·rename_i a;have key:W.has P .any base a 0 0∨ ∃e n,W.has P .any base a e n:=by
   unfold Cell.okWide at h;split at h<;>first|(rename_i e;cases e;done)|skip
   ·rename_i hne;unfold Cell.ok at h;split at h<;>first|(rename_i e;cases e;done)|skip
    all_goals first
     |exact h.elim
     |skip
    all_goals (rename_i e1 e2;first|cases e2|skip)
    exact .inr ⟨_,_,h.2.2⟩
  have:∃e n,W.has P .any base a e n:=by
   rcases key with h|h
   ·exact⟨0,0,h⟩
   ·exact h
  obtain⟨e,n,_,h1,row,cells,h2,_⟩:=this;refine .inl ⟨h1,?_⟩;unfold World.shape? at h2;split at h2
  ·rename_i hh;exact Nat.lt_of_lt_of_le (Array.getElem?_eq_some_iff.1 hh).1 hC
  ·cases h2
 ·trivial
theorem Ro{base:Nat}{t:TypeId}{v:Value}(h:Value.okWide P W .any base t v)(hC:W.heap.size≤C):∀x∈v.cells.toList,F6 C x:=by
 intro x hx
 unfold Value.okWide at h
 have agg:(∃cs,v= .agg cs∧cs.size=P.cellsOf t∧Row.okWide P W .any base t cs)→F6 C x:=by
  rintro⟨cs,rfl,_,ts,_,_,hcell⟩;obtain⟨i,hi,rfl⟩:=List.getElem_of_mem hx
  obtain⟨u,_,hu⟩:=hcell i _ (by
   show cs[i]?=some _;rw[Array.getElem?_eq_getElem (by simpa [Value.cells]using hi)])
  exact xS hu hC
 split at h
 ·exact agg h
 ·exact agg h
 ·have hv:v.cells=#[v]∨ ∃cs,v= .agg cs:=by
   cases v<;>first|exact .inl rfl|exact .inr ⟨_,rfl⟩
  rcases hv with hv|⟨cs,rfl⟩
  ·rw[hv]at hx;obtain rfl:x=v:=by simpa using hx
   exact xS h hC
  ·exfalso;unfold Cell.okWide at h;split at h<;>first|(rename_i e1 e2;cases e2;done)|skip
   unfold Cell.ok at h;split at h<;>first|(rename_i e1 e2;cases e2;done)|exact h
theorem ZA{base:Nat}{t:TypeId}{v:Value}{fs:Array Field}(h:Value.okWide P W .any base t v)(hu:P.underlying t=some (.struct fs)):∃cs,v= .agg cs:=by
 unfold Value.okWide at h
 rw[hu]at h
 obtain⟨cs,e,_⟩:=h
 exact⟨cs,e⟩
theorem Qx{ty:Ty}{t:TypeId}{base:Nat}{v:Value}(h:Value.okWide P W .any base t v)(hb:qw P ty t=true)(hn:∀a b,ty≠ .cons a b):v.cells=#[v]:=by
 have hu:∀fs,P.underlying t≠some (.struct fs):=by
  intro fs hu;cases ty with
  |cons a b=>exact hn a b rfl
  |nil=>cases hb
  |_=>rw[qw,hu]at hb;cases hb
 have hu2:∀n e,P.underlying t≠some (.array n e):=by
  intro n e hu;cases ty with
  |cons a b=>exact hn a b rfl
  |nil=>cases hb
  |_=>rw[qw,hu]at hb;cases hb
 unfold Value.okWide at h
 split at h
 ·exact(hu _ (by assumption)).elim
 ·exact(hu2 _ _ (by assumption)).elim
 ·cases v<;>first|rfl|skip
  exfalso;unfold Cell.okWide at h;split at h<;>first|(rename_i e1 e2;cases e2;done)|skip
  unfold Cell.ok at h;split at h<;>first|(rename_i e1 e2;cases e2;done)|exact h
theorem ZD(hsp:∀b,sp b=true){ty:Ty}{t:TypeId}{base:Nat}{v:Value}{d:DataW H}{ps:List MemPlace}(hb:qw P ty t=true)(h:DataW.Trod enc P W 0 sp held t v d ps)(hv:Value.okWide P W .any base t v)(hC:W.heap.size≤C)
 (hd:ty.deep=true→ ∀a x,W.cell? a=some x→F6 C x):∃vs x,conc E0 (ty.arg vs)=v∧bd (· <C) (ty.arg vs)∧Rp (dR W C) .e C ty vs x:=by
 obtain⟨fuel,h⟩:=h
 obtain⟨vs,x,h1,h2⟩:=qF hsp hC ty t _ fuel _ hb h (fun _=>Ro hv hC) hd
 obtain⟨c1,c2⟩:=h1.conc
 refine⟨vs,x,?_,?_,h2⟩
 ·cases ty with
  |cons a b=>
   rw[qw]at hb;split at hb
   ·rename_i fs hu;obtain⟨cs,rfl⟩:=ZA hv hu;show Value.agg (az E0 vs).toArray=_;rw[c1];simp[Value.cells]
   ·cases hb
  |nil=>cases hb
  |_=>
   have hc:=Qx hv hb (by intro a b e;cases e);rw[hc]at c1 h1;have hl:=h1.len
   match vs,hl with
   |[w],_=>
    have:[conc E0 w]=[v]:=c1;injection this
 ·cases ty with
  |cons a b=>exact c2
  |nil=>cases hb
  |_=>
   cases vs with
   |nil=>trivial
   |cons w r=>exact c2.1
theorem Ce(hsp:∀b,sp b=true){base:Nat}(hC:W.heap.size≤C):∀{zb:List Ty} {ts:List TypeId} {vs:List Value} {ds:List (DataW H)} {ps:List MemPlace},FP P zb ts=true→DataW.TrodAll enc P W 0 sp held ts vs ds ps→
 (∀(j:Nat) t v,ts[j]?=some t→vs[j]?=some v→Value.okWide P W .any base t v)→(zb.any Ty.deep=true→ ∀a x,W.cell? a=some x→F6 C x)→ ∃as,az E0 as=vs∧fw (· <C) as∧Gs (dR W C) C zb as
 |[],[],[],ds,ps,hb,h,hv,hd=>⟨[],rfl,trivial,rfl⟩
 |[],[],_::_,ds,ps,hb,h,hv,hd=>by cases ds<;>cases h
 |[],_::_,vs,ds,ps,hb,h,hv,hd=>by cases hb
 |_::_,[],vs,ds,ps,hb,h,hv,hd=>by cases hb
 |ty::zb,t::ts,[],ds,ps,hb,h,hv,hd=>by cases ds<;>cases h
 |ty::zb,t::ts,v::vs,[],ps,hb,h,hv,hd=>by cases h
 |ty::zb,t::ts,v::vs,d::ds,ps,hb,h,hv,hd=>by
  have hb':(qw P ty t&&FP P zb ts)=true:=hb;rw[ay]at hb';obtain⟨p,q,h1,h2,_⟩:=h;obtain⟨ws,x,g1,g2,g3⟩:=ZD hsp hb'.1 h1 (hv 0 t v rfl rfl) hC (fun hh=>hd (by rw[List.any_cons,hh];rfl));obtain⟨as,a1,a2,a3⟩:=Ce hsp hC hb'.2 h2 (fun j t v ht hv'=>hv (j+1) t v ht hv') (fun hh=>hd (by rw[List.any_cons,hh];simp));exact⟨ty.arg ws::as,by rw[az,g1,a1],⟨g2,a2⟩,ws,x,as,rfl,g3,a3⟩
theorem wW{W':World}(hW:∀i,i<W.heap.size→W'.heap[i]?=W.heap[i]?):∀{zb:List Ty} {ts:List TypeId} {vs:List Value} {ds:List (DataW H)} {ps:List MemPlace},FP P zb ts=true→
 DataW.TrodAll enc P W 0 (fun _=>true) held ts vs ds ps→DataW.TrodAll enc P W' 0 (fun b=>decide (b<W.heap.size)) held ts vs ds ps
 |[],[],[],[],ps,hb,h=>h
 |[],[],[],_::_,ps,hb,h=>by cases h
 |[],[],_::_,ds,ps,hb,h=>by cases ds<;>cases h
 |[],_::_,vs,ds,ps,hb,h=>by cases hb
 |_::_,[],vs,ds,ps,hb,h=>by cases hb
 |ty::zb,t::ts,[],ds,ps,hb,h=>by cases ds<;>cases h
 |ty::zb,t::ts,v::vs,[],ps,hb,h=>by cases h
 |ty::zb,t::ts,v::vs,d::ds,ps,hb,h=>by
  have hb':(qw P ty t&&FP P zb ts)=true:=hb;rw[ay]at hb';obtain⟨p,q,⟨fuel,h1⟩,h2,e⟩:=h;exact⟨p,q,⟨fuel,lJ hW ty t _ fuel _ hb'.1 h1⟩,wW hW hb'.2 h2,e⟩
theorem MG{W:World}{C:Nat}(hC:W.heap.size≤C)(hk:1000≤C):cV (dR W C) .e C:=by
 refine⟨fun _ _=>rfl,fun b hb=>?_,fun _ _=>rfl,hk⟩
 rw[lA,Array.getElem?_eq_none (by omega)];rfl
def Qk:Value→Nat
 | .slice (some a) 0 0=>wU a+1
 |_=>0
theorem xe:∀l:List Value,∃B,∀x∈l,Qk x≤B
 |[]=>⟨0,fun x hx=>by cases hx⟩
 |v::l=>by
  obtain⟨B,hB⟩:=xe l;refine⟨max (Qk v) B,fun x hx=>?_⟩;rcases bf.1 hx with rfl|hx
  ·exact Nat.le_max_left _ _
  ·exact bg (hB x hx) (Nat.le_max_right _ _)
theorem xd:∀l:List Obj,∃B,∀cs t f,Obj.cells cs t f∈l→ ∀x∈cs.toList,Qk x≤B
 |[]=>⟨0,fun cs t f h=>by cases h⟩
 |o::l=>by
  obtain⟨B,hB⟩:=xd l;obtain⟨B',hB'⟩:∃B',∀cs t f,o=Obj.cells cs t f→ ∀x∈cs.toList,Qk x≤B':=by
   cases o with
   |cells cs t f=>
    obtain⟨B',h⟩:=xe cs.toList;exact⟨B',fun cs' t' f' e=>by injection e with e1 e2 e3;subst e1;exact h⟩
   |_=>exact⟨0,fun cs t f e=>by cases e⟩
  refine⟨max B B',fun cs t f h x hx=>?_⟩;rcases bf.1 h with h|h
  ·exact bg (hB' cs t f h.symm x hx) (Nat.le_max_right _ _)
  ·exact bg (hB cs t f h x hx) (Nat.le_max_left _ _)
theorem a02(W:World):∃C,1000≤C∧W.heap.size≤C∧ ∀a x,W.cell? a=some x→F6 C x:=by
 obtain⟨B,hB⟩:=xd W.heap.toList
 refine⟨max 1000 (max W.heap.size B),Nat.le_max_left _ _,bg (Nat.le_max_left _ _) (Nat.le_max_right _ _),fun a x hx=>?_⟩
 unfold World.cell? at hx
 split at hx
 ·rename_i cs t f hh;split at hx
  ·cases hx
  ·have hm:Obj.cells cs t f∈W.heap.toList:=by
    obtain⟨h1,h2⟩:=Array.getElem?_eq_some_iff.1 hh;rw[←h2];exact Array.getElem_mem_toList h1
   have hxm:x∈cs.toList:=by
    obtain⟨h1,h2⟩:=Array.getElem?_eq_some_iff.1 hx;rw[←h2];exact Array.getElem_mem_toList h1
   have hb:=hB cs t f hm x hxm;unfold F6;split
   ·rename_i a';have hb':wU a'+1≤B:=hb;right;have:=Nat.le_max_right 1000 (max W.heap.size B);have:=Nat.le_max_right W.heap.size B;omega
   ·trivial
 ·cases hx
end
section
variable{Φ:Nat→Option CF}{rd:Option Nat}{fn:Nat}{F:RO}
def AL:me→Ex
 | .none=> .nrm
 | .ret=> .ret
 | .ext id=> .ext id
def RfQ(t:T)(d:List Nat)(l:Nat)(Q:Ex→St→Prop)(M:Mem)(c:Nat):Prop:=
 ∃s pe fn tm ps a b dn,M.get l=some (.loop s pe fn tm ps a b dn)∧s≠ .busy∧Q (AL pe) (.mk t d (M.set l (.loop .exhausted pe fn tm ps a b dn)) c)
theorem RU{f:X}{ps:List aJ}{asg body:CC}{t:T}{d:List Nat}{M:Mem}{l dn:Nat}{Q:Ex→St→Prop}
 (h:kc (gd (K Φ rd fn F) (f.ev t) [.y l] (M.set l (.loop .ready .none fn t ps asg body dn)) (l+1)) fun _ M' c'=>RfQ t d l Q M' c'):
 ∃e s',kQ f ps asg body (K Φ rd fn F) t d M l dn= .k e s'∧Q e s':=by
 obtain⟨v,M',c',he,s,pe,fn',tm,ps',a,b,dn',hl,hs,hq⟩:=h
 refine⟨AL pe,_,?_,hq⟩
 show(M.set l (.loop .ready .none fn t ps asg body dn)).force (fun M=>fN (Nat.succ l) fun c=>iP t d l (gd (K Φ rd fn F) (f.ev t) [.y l] M c))=_
 rw[Tr.force_eq,bo]
 show iP t d l (gd (K Φ rd fn F) (f.ev t) [.y l] (M.set l (.loop .ready .none fn t ps asg body dn)) (l+1))=_
 rw[he]
 show ym t d M' c' l (cX (M'.get l))=_
 rw[hl]
 show ym t d M' c' l (.k s pe fn' tm ps' a b dn')=_
 cases s with
 |busy=>exact absurd rfl hs
 |_=>
  show(M'.set l (.loop .exhausted pe fn' tm ps' a b dn')).force (fun M=>s8 (.mk t d M c') pe)=_;rw[Tr.force_eq];cases pe<;>rfl
theorem av4{f:X}{ps:List aJ}{asg body:CC}{t:T}{d:List Nat}{M:Mem}{c:Nat}{Q:Ex→St→Prop}
 (h:kc (gd (K Φ none fn F) (f.ev t) [.y (c+1)] ((M.set c (.defs false)).set (c+1) (.loop .ready .none fn t ps asg body c)) (c+2)) fun _ M' c'=>RfQ t (c::d) (c+1) Q M' c'):
 Wp (.rf f ps asg body) (K Φ none fn F) (.mk t d M c) Q:=by
 obtain⟨e,s',h1,h2⟩:=RU h
 refine⟨e,s',?_,h2⟩
 show(M.set c (.defs false)).force (fun M=>fN (Nat.succ c) fun c'=>kQ f ps asg body (K Φ none fn F) t (c::d) M c' c)=_
 rw[Tr.force_eq,bo]
 exact h1
theorem Qs(f:Nat)(first caps args:List V)(M:Mem)(c:Nat):gd (K Φ rd fn F) (.f f first caps) args M c=cS (gV Φ) F f (first++(args++caps)) M c (Φ f):=rfl
def YQ(l:Nat)(P:V→Mem→Nat→Prop)(e:Ex)(s:St):Prop:=
 ∃t' M' c' s0 pe fn tm ps a b dn,s= .mk t' [] M' c'∧M'.get l=some (.loop s0 pe fn tm ps a b dn)∧match e with
  | .nrm=>P (.b true) (M'.set l (.loop .ready .none fn tm ps a b dn)) c'
  | .ret=>P (.b false) (M'.set l (.loop .done .ret fn tm ps a b dn)) c'
  | .ext id=>P (.b false) (M'.set l (.loop .done (.ext id) fn tm ps a b dn)) c'
  | .gto _=>False
theorem OP{l fn':Nat}{args:List V}{M:Mem}{c:Nat}{P:V→Mem→Nat→Prop}{pe:me}{tm t:T}{ps:List aJ}{asg body:CC}{dn:Nat}(hl:M.get l=some (.loop .ready pe fn' tm ps asg body dn))(hp:cB ps args tm=some t)
 (h:Wp asg (K Φ (some l) fn' F) (.mk t [] M c) fun e s=>e= .nrm∧ ∃t1 M1 c1 pe1 fn1 tm1 ps1 a1 b1 dn1,s= .mk t1 [] M1 c1∧M1.get l=some (.loop .ready pe1 fn1 tm1 ps1 a1 b1 dn1)∧Wp body (K Φ (some l) fn' F) (.mk t1 [] (M1.set l (.loop .busy pe1 fn1 tm1 ps1 a1 b1 dn1)) c1) (YQ l P)):
 kc (iy (K Φ rd fn F) (.y l) args M c) P:=by
 obtain⟨e,s,ha,rfl,t1,M1,c1,pe1,fn1,tm1,ps1,a1,b1,dn1,rfl,hl1,e2,s2,hb,t',M',c',s0,pe',fn2,tm2,ps2,a2,b2,dn2,rfl,hl2,hq⟩:=h
 have e1:iy (K Φ rd fn F) (.y l) args M c=iR l (.k e2 (.mk t' [] M' c')):=by
  show nn (K Φ rd fn F) l args M c (cX (M.get l))=_;rw[hl];show yM (K Φ rd fn F) l fn' asg body M c (cB ps args tm)=_;rw[hp];show k8 (K Φ rd fn F) l fn' body (gV Φ (some l) fn' F asg (.mk t [] M c))=_;rw[oC,ha];show mQ (K Φ rd fn F) l fn' body t1 M1 c1 (cX (M1.get l))=_;rw[hl1];show(M1.set l (.loop .busy pe1 fn1 tm1 ps1 a1 b1 dn1)).force (fun M=>iR l (gV Φ (some l) fn' F body (.mk t1 [] M c1)))=_;rw[Tr.force_eq,oC,hb]
 rw[e1]
 cases e2 with
 |nrm=>
  refine⟨_,_,_,?_,hq⟩;show pR M' l c' .ready .none true (cX (M'.get l))=_;rw[hl2];show(M'.set l (.loop .ready .none fn2 tm2 ps2 a2 b2 dn2)).force (fun M=>RC.k (.b true) M c')=_;rw[Tr.force_eq]
 |ret=>
  refine⟨_,_,_,?_,hq⟩;show pR M' l c' .done .ret false (cX (M'.get l))=_;rw[hl2];show(M'.set l (.loop .done .ret fn2 tm2 ps2 a2 b2 dn2)).force (fun M=>RC.k (.b false) M c')=_;rw[Tr.force_eq]
 |ext id=>
  refine⟨_,_,_,?_,hq⟩;show pR M' l c' .done (.ext id) false (cX (M'.get l))=_;rw[hl2];show(M'.set l (.loop .done (.ext id) fn2 tm2 ps2 a2 b2 dn2)).force (fun M=>RC.k (.b false) M c')=_;rw[Tr.force_eq]
 |gto l=>exact hq.elim
def aB5(Φ:Nat→Option CF)(F:RO)(l fn':Nat)(body:CC)(P:V→Mem→Nat→Prop)(e:Ex)(s:St):Prop:=
 e= .nrm∧ ∃t1 M1 c1 pe1 fn1 tm1 ps1 a1 b1 dn1,s= .mk t1 [] M1 c1∧M1.get l=some (.loop .ready pe1 fn1 tm1 ps1 a1 b1 dn1)∧Wp body (K Φ (some l) fn' F) (.mk t1 [] (M1.set l (.loop .busy pe1 fn1 tm1 ps1 a1 b1 dn1)) c1) (YQ l P)
theorem Qh{l fn':Nat}{body:CC}{P:V→Mem→Nat→Prop}{t1:T}{M1:Mem}{c1:Nat}{pe1:me}{fn1:Nat}{tm1:T}{ps1:List aJ}{a1 b1:CC}{dn1:Nat}(hl:M1.get l=some (.loop .ready pe1 fn1 tm1 ps1 a1 b1 dn1))
 (h:Wp body (K Φ (some l) fn' F) (.mk t1 [] (M1.set l (.loop .busy pe1 fn1 tm1 ps1 a1 b1 dn1)) c1) (YQ l P)):aB5 Φ F l fn' body P .nrm (.mk t1 [] M1 c1):=⟨rfl,_,_,_,_,_,_,_,_,_,_,rfl,hl,h⟩
theorem OO{l fn':Nat}{args:List V}{M:Mem}{c:Nat}{P:V→Mem→Nat→Prop}{pe:me}{tm t:T}{ps:List aJ}{asg body:CC}{dn:Nat}(hl:M.get l=some (.loop .ready pe fn' tm ps asg body dn))(hp:cB ps args tm=some t)
 (h:Wp asg (K Φ (some l) fn' F) (.mk t [] M c) (aB5 Φ F l fn' body P)):kc (iy (K Φ rd fn F) (.y l) args M c) P:=OP hl hp h
theorem aw4{l:Nat}{P:V→Mem→Nat→Prop}{t':T}{M':Mem}{c':Nat}{s0:LS}{pe:me}{fn:Nat}{tm:T}{ps:List aJ}{a b:CC}{dn:Nat}(hl:M'.get l=some (.loop s0 pe fn tm ps a b dn))(h:P (.b true) (M'.set l (.loop .ready .none fn tm ps a b dn)) c'):YQ l P .nrm (.mk t' [] M' c'):=
 ⟨_,_,_,_,_,_,_,_,_,_,_,rfl,hl,h⟩
theorem o8{d:Nat}{r:List Nat}{M:Mem}(h:M.get d=some (.defs false)):bY (d::r) M=bY r (M.set d (.defs true)):=by
 show Option.rec (motive:=fun _=>Option Mem) none (fun blk=>sB (bY r) M d blk) (M.get d)=_
 rw[h]
 show sB (bY r) M d (.defs false)=_
 unfold sB
 show(M.set d (.defs true)).force (fun M=>bY r M)=_
 rw[Tr.force_eq]
theorem tT(F:RO)(res:List RV)(Post:V→Mem→Nat→Prop)(t:T)(d:List Nat)(M:Mem)(c:Nat):lO F res Post .ret (.mk t d M c)=Gv (bY d M) F t res c Post:=rfl
theorem tS(M:Mem)(t:T)(res:List RV)(c:Nat)(Post:V→Mem→Nat→Prop):Gv (some M) F t res c Post=DR (dF F M t res) M c Post:=rfl
theorem jG{M:Mem}(b:Nat):∀{F:RO},bH M F=true→bH (M.del b) F=true
 |[],_=>rfl
 |(b',x)::F,h=>by
  rw[dD,ay]at h;rw[dD,jG b h.2,Tr.get_del];split
  ·rfl
  ·rw[h.1];rfl
def aC2(o:Option V)(p:Option aJ)(base:Nat)(r:List (Nat×Nat×CO))(k:Kn)(t:T)(M:Mem)(c:Nat)(reads:List (Nat×Nat))(R:DS→Prop):Prop:=match o with
 |some v=>kj base r k (.mk (setT t p v) M c [] reads) R
 |none=>False
theorem aQ1(v:V)(p:Option aJ)(base:Nat)(r:List (Nat×Nat×CO))(k:Kn)(t:T)(M:Mem)(c:Nat)(reads:List (Nat×Nat))(R:DS→Prop):aC2 (some v) p base r k t M c reads R=kj base r k (.mk (setT t p v) M c [] reads) R:=Eq.trans rfl (Eq.refl _)
theorem b01{base i mask:Nat}{dst:Option aJ}{o:OK}{g:aJ}{want:Bool}{r:List (Nat×Nat×CO)}{k:Kn}{t:T}{M:Mem}{c:Nat}{pend:List (Nat×Nat×bv)}{reads:List (Nat×Nat)}{R:DS→Prop}(hg:cd t g= .b want):
 kj base ((i,mask,.mk dst o (some (g,want)))::r) k (.mk t M c pend reads) R=kj base ((i,mask,.mk dst o none)::r) k (.mk t M c pend reads) R:=by
 have hw:wanted t (some (g,want))=true:=by
  show fX want (cd t g)=_;rw[hg];cases want<;>rfl
 have hs:pX k base (i,mask,.mk dst o (some (g,want))) (.mk t M c pend reads)=pX k base (i,mask,.mk dst o none) (.mk t M c pend reads):=by
  show(bif wanted t (some (g,want))then _ else _)=_;rw[hw];rfl
 apply propext
 rw[ed,ed,hs]
theorem b00{base i mask:Nat}{dst:Option aJ}{o:OK}{g:aJ}{want:Bool}{r:List (Nat×Nat×CO)}{k:Kn}{t:T}{M:Mem}{c:Nat}{pend:List (Nat×Nat×bv)}{reads:List (Nat×Nat)}{R:DS→Prop}(hg:cd t g= .b (!want)):
 kj base ((i,mask,.mk dst o (some (g,want)))::r) k (.mk t M c pend reads) R=kj base r k (.mk (setT t dst undef) M c pend reads) R:=by
 have hw:wanted t (some (g,want))=false:=by
  show fX want (cd t g)=_;rw[hg];cases want<;>rfl
 have hs:pX k base (i,mask,.mk dst o (some (g,want))) (.mk t M c pend reads)=some (.mk (setT t dst undef) M c pend reads):=by
  show(bif wanted t (some (g,want))then _ else(setT t dst undef).force fun t=>some (DS.mk t M c pend reads))=_;rw[hw];show(setT t dst undef).force (fun t=>some (DS.mk t M c pend reads))=_;rw[Tr.force_eq]
 apply propext
 rw[ed,hs]
 constructor
 ·rintro⟨s',h,q⟩;obtain rfl:=ae h;exact q
 ·exact fun q=>⟨_,rfl,q⟩
theorem b02{base i mask:Nat}{dst:Option aJ}{o:OK}{g:aJ}{want:Bool}{r:List (Nat×Nat×CO)}{k:Kn}{t:T}{M:Mem}{c:Nat}{pend:List (Nat×Nat×bv)}{reads:List (Nat×Nat)}{R:DS→Prop}(hg:cd t g=undef):
 kj base ((i,mask,.mk dst o (some (g,want)))::r) k (.mk t M c pend reads) R=kj base r k (.mk (setT t dst undef) M c pend reads) R:=by
 have hw:wanted t (some (g,want))=false:=by
  show fX want (cd t g)=_;rw[hg];rfl
 have hs:pX k base (i,mask,.mk dst o (some (g,want))) (.mk t M c pend reads)=some (.mk (setT t dst undef) M c pend reads):=by
  show(bif wanted t (some (g,want))then _ else(setT t dst undef).force fun t=>some (DS.mk t M c pend reads))=_;rw[hw];show(setT t dst undef).force (fun t=>some (DS.mk t M c pend reads))=_;rw[Tr.force_eq]
 apply propext
 rw[ed,hs]
 constructor
 ·rintro⟨s',h,q⟩;obtain rfl:=ae h;exact q
 ·exact fun q=>⟨_,rfl,q⟩
theorem ac3(n:Nat)(b o:Nat)(M:Mem){vs:List V}(h:loadN F M b o n=some vs)(t:T)(x:X)(hx:x.ev t= .p b o):kh (.ldn n x) F M t= .r (.g vs) b:=by
 have hblk:∃blk,look F M b=some blk:=by
  unfold loadN at h;cases hl:look F M b with
  |none=>rw[hl]at h;cases h
  |some blk=>exact⟨blk,rfl⟩
 obtain⟨blk,hb⟩:=hblk
 have q:∀F' M',loadN F' M' b o n=some vs→cG (.ldn n x) F' M' t= .r (.g vs) b:=by
  intro F' M' h';show(qf (x.ev t) .f fun b o=>qgb b (loadN F' M' b o n))=_;rw[hx];show qgb b (loadN F' M' b o n)=_;rw[h'];rfl
 show Eo (.ldn n x) F M t (cG (.ldn n x) F M t)=_
 rw[q F M h]
 show Lu (.ldn n x) t b (look F M b)=_
 rw[hb]
 show yg b (cG (.ldn n x) [(b,blk)] .e t)=_
 have h':loadN [(b,blk)] .e b o n=some vs:=by
  unfold loadN at h⊢;rw[hb]at h;rw[aR (show(Tr.e:Mem).get b=none from rfl),cg,ac rfl];exact h
 rw[q _ _ h'];rfl
def aN4(n:Nat)(X:V)(F:RO)(M:Mem):QR:=kh (.ldn n (.c X)) F M .e
def aN5(b:Nat):Option (List V)→QR
 |some vs=> .r (.g vs) b
 |none=> .f
theorem EV(b:Nat)(vs:List V):aN5 b (some vs)= .r (.g vs) b:=Eq.trans rfl (Eq.refl _)
theorem QE(n:Nat)(x:X)(M:Mem)(t:T):kh (.ldn n x) F M t=aN4 n (x.ev t) F M:=Eq.trans rfl (Eq.refl _)
theorem ac2(n b o:Nat)(M:Mem):aN4 n (.p b o) F M=aN5 b (loadN F M b o n):=by
 cases h:loadN F M b o n with
 |some vs=>exact ac3 n b o M h .e _ rfl
 |none=>
  show Eo (.ldn n (.c (.p b o))) F M .e (qgb b (loadN F M b o n))=_;rw[h];rfl
theorem aJ7(c a b:X)(M:Mem)(t:T):kh (.pk c a b) F M t=oV (pkV (c.ev t) (a.ev t) (b.ev t)):=by
 refine(eU ?_).trans (congrArg oV (aU7 (F:=F) c a b M t))
 intro F' M'
 show(CN (c.ev t) QR.f fun x=>Bool.rec (motive:=fun _=>QR) (.v (b.ev t)) (.v (a.ev t)) x)=oV (CN (c.ev t) QR.f fun x=>Bool.rec (motive:=fun _=>QR) (.v (b.ev t)) (.v (a.ev t)) x).val
 cases c.ev t with
 |b x=>cases x<;>rfl
 |_=>rfl
theorem aJ8(op:UnOp)(x:X)(M:Mem)(t:T):kh (.un op x) F M t=oV (unV op (x.ev t)):=by
 refine(eU ?_).trans (congrArg oV (aU8 (F:=F) op x M t))
 intro F' M'
 refine je ?_
 show(cG (.un op x) F' M' t= .f∨_)
 cases op with
 |neg=>
  show((rN (x.ev t) QR.f fun k n=>vI k (wr k (Int.sub 0 n)))= .f∨ ∃y,(rN (x.ev t) QR.f fun k n=>vI k (wr k (Int.sub 0 n)))= .v y);cases x.ev t with
  |i k n=>exact .inr ⟨_,ft _ _⟩
  |_=>exact .inl rfl
 |not=>
  show((CN (x.ev t) QR.f fun b=>vB (oM b))= .f∨ ∃y,(CN (x.ev t) QR.f fun b=>vB (oM b))= .v y);cases x.ev t with
  |b b=>exact .inr ⟨_,lh _⟩
  |_=>exact .inl rfl
 |xor=>
  show((rN (x.ev t) QR.f fun k n=>ix k (Nat.xor (Nat.sub (Nat.pow 2 (jX k)) 1) (kW k n)))= .f∨ ∃y,(rN (x.ev t) QR.f fun k n=>ix k (Nat.xor (Nat.sub (Nat.pow 2 (jX k)) 1) (kW k n)))= .v y);cases x.ev t with
  |i k n=>exact .inr ⟨_,ft _ _⟩
  |_=>exact .inl rfl
 |plus=>exact .inl rfl
def sj:Sh→Bool
 | .ptr=>false
 | .agg _=>false
 |_=>true
def pL:List (Nat×Sh)→Bool
 |[]=>true
 |(_,s)::r=>sj s&&pL r
def FB:Sh→Bool
 | .ptr=>false
 | .agg ks=>pL ks
 |_=>true
theorem LM{sh:Sh}(h:sj sh=true)(F':RO)(M M':Mem)(lit:Bool)(x y:V):yZ F' M' sh lit x y=yZ F M sh lit x y:=by
 cases sh<;>first|rfl|cases h
theorem rt(F':RO)(M M':Mem)(xs ys:List V):∀{ks:List (Nat×Sh)},pL ks=true→jV F' M' xs ys ks=jV F M xs ys ks
 |[],_=>rfl
 |(o,s)::r,h=>by
  have h':(sj s&&pL r)=true:=h;rw[ay]at h';rw[mt,mt,rt F' M M' xs ys h'.2]
  congr 1
  cases xs[o]? with
  |none=>rfl
  |some x=>
   cases ys[o]? with
   |none=>rfl
   |some y=>exact LM h'.1 F' M M' false x y
theorem LQ{sh:Sh}(h:FB sh=true)(F':RO)(M M':Mem)(lit:Bool)(x y:V):tW F' M' sh lit x y=tW F M sh lit x y:=by
 cases sh with
 |agg ks=>
  show tU F' M' ks x y=tU F M ks x y;unfold tU;cases x<;>first|rfl|skip
  cases y<;>first|rfl|skip
  exact rt F' M M' _ _ h
 |ptr=>cases h
 |_=>rfl
theorem aJ3(neg:Bool)(sh:Sh)(lit:Bool)(x y:X)(M:Mem)(t:T)(h:FB sh=true):kh (.eq neg sh lit x y) F M t=oV (Rj neg (tW F M sh lit (x.ev t) (y.ev t))):=by
 refine(eU ?_).trans (congrArg oV (aT9 (F:=F) neg sh lit x y M t))
 intro F' M'
 show uh neg (tW F' M' sh lit (x.ev t) (y.ev t))=oV (uh neg (tW [] .e sh lit (x.ev t) (y.ev t))).val
 rw[LQ (F:=[]) h F' .e M']
 refine je ?_
 cases tW [] .e sh lit (x.ev t) (y.ev t)with
 |none=>exact .inl rfl
 |some r=>exact .inr ⟨_,lh _⟩
theorem Nu(ks:List (Nat×Sh)):FB (.agg ks)=pL ks:=rfl
theorem FF:pL []=true:=Eq.trans rfl (Eq.refl _)
theorem Bo(o:Nat)(s:Sh)(r:List (Nat×Sh)):pL ((o,s)::r)=(sj s&&pL r):=rfl
theorem FC:sj .int=true:=Eq.trans rfl (Eq.refl _)
theorem Bn:sj .bool=true:=Eq.trans rfl (Eq.refl _)
theorem FD:sj .str=true:=Eq.trans rfl (Eq.refl _)
theorem Nv:FB .int=true:=Eq.trans rfl (Eq.refl _)
theorem FE:FB .bool=true:=Eq.trans rfl (Eq.refl _)
theorem Nw:FB .str=true:=Eq.trans rfl (Eq.refl _)
theorem LP(lit:Bool)(M:Mem)(a b:Bool):tW F M .bool lit (.b a) (.b b)=some (decide (a=b)):=xr (F:=F) lit M a b
theorem aJ5(off:Nat)(x:X)(M:Mem)(t:T):kh (.fa off x) F M t=oV (match x.ev t with| .p b o=>some (.p b (o+off))|_=>none):=by
 refine(eU ?_).trans (congrArg oV (aU1 (F:=F) off x M t))
 intro F' M'
 refine je ?_
 show((qf (x.ev t) QR.f fun b o=>sW b (Nat.add o off))= .f∨ ∃y,(qf (x.ev t) QR.f fun b o=>sW b (Nat.add o off))= .v y)
 cases x.ev t with
 |p b o=>exact .inr ⟨.p b (o+off),by show sW b (o+off)=_;unfold sW;rw[bo]⟩
 |_=>exact .inl rfl
theorem aa0(x:X)(M:Mem)(t:T):kh (.ln .slice x) F M t=oV (sU (x.ev t)):=by
 refine(eU ?_).trans (congrArg oV ((ai1 (F:=F) .slice x M t).trans (aN9 (F:=F) M _)))
 intro F' M'
 refine je ?_
 show(D7 (Ay (x.ev t))= .f∨ ∃y,D7 (Ay (x.ev t))= .v y)
 cases Ay (x.ev t)with
 |none=>exact .inl rfl
 |some n=>exact .inr ⟨_,rfl⟩
theorem aa1(x:X)(M:Mem)(t:T):kh (.ln .str x) F M t=oV (lnV .str F M (x.ev t)):=by
 refine(eU ?_).trans (congrArg oV (ai1 (F:=F) .str x M t))
 intro F' M'
 refine je ?_
 show((ua (x.ev t) QR.f fun n _=> .v (.i .i64 (.ofNat n)))= .f∨ ∃y,(ua (x.ev t) QR.f fun n _=>QR.v (.i .i64 (.ofNat n)))= .v y)
 cases x.ev t with
 |s n x=>exact .inr ⟨_,rfl⟩
 |_=>exact .inl rfl
theorem a07(x i:X)(M:Mem)(t:T):kh (.ixS x i) F M t=oV (vv (x.ev t) (i.ev t)):=by
 refine(eU ?_).trans (congrArg oV (YN (F:=F) x i M t))
 intro F' M'
 refine je ?_
 show((ua (x.ev t) QR.f fun n s=>Option.rec (motive:=fun _=>QR) .f (fun i=>mG n s i) (pV (i.ev t)))= .f∨ ∃y,(ua (x.ev t) QR.f fun n s=>Option.rec (motive:=fun _=>QR) .f (fun i=>mG n s i) (pV (i.ev t)))= .v y)
 cases x.ev t with
 |s n x=>
  show(Option.rec (motive:=fun _=>QR) .f (fun i=>mG n x i) (pV (i.ev t))= .f∨ ∃y,(Option.rec (motive:=fun _=>QR) .f (fun i=>mG n x i) (pV (i.ev t)):QR)= .v y);cases pV (i.ev t)with
  |none=>exact .inl rfl
  |some k=>
   show(Bool.rec (motive:=fun _=>QR) .f (fN (Nat.mod (Nat.div x (kJ k)) 256) fun c=> .v (.i .u8 (.ofNat c))) (Nat.blt k n)= .f∨ ∃y,(Bool.rec (motive:=fun _=>QR) .f (fN (Nat.mod (Nat.div x (kJ k)) 256) fun c=> .v (.i .u8 (.ofNat c))) (Nat.blt k n):QR)= .v y);cases Nat.blt k n with
   |false=>exact .inl rfl
   |true=>exact .inr ⟨_,by show fN _ _=_;rw[bo]⟩
 |_=>exact .inl rfl
def uO(u:List (Option V))(i:Nat):Option V:=(u[i]?).join
def s9(I:Nat→St→Prop)(n:Nat)(Q:Ex→St→Prop):Ex→St→Prop
 | .nrm,s=>∃m,m<n∧I m s
 |e,s=>Q e s
theorem Bf(I:Nat→St→Prop)(n:Nat)(Q:Ex→St→Prop)(s:St):s9 I n Q .nrm s=∃m,m<n∧I m s:=Eq.trans rfl (Eq.refl _)
theorem Bg(I:Nat→St→Prop)(n:Nat)(Q:Ex→St→Prop)(s:St):s9 I n Q .ret s=Q .ret s:=Eq.trans rfl (Eq.refl _)
theorem Be(I:Nat→St→Prop)(n:Nat)(Q:Ex→St→Prop)(s:St)(id:Nat):s9 I n Q (.ext id) s=Q (.ext id) s:=Eq.trans rfl (Eq.refl _)
theorem bT{b:CC}{Q:Ex→St→Prop}(I:Nat→St→Prop)(h:∀n s,I n s→Wp b (K Φ rd fn F) s (s9 I n Q)):∀n s,I n s→Wp (.loop b) (K Φ rd fn F) s Q:=
 FV I fun n s hs=>(h n s hs).mono fun e s' he=>by cases e<;>exact he
end
section
variable{Φ:Nat→Option CF}{rd:Option Nat}{fn:Nat}{F:RO}
theorem FL{M:Mem}{b o ty n fz:Nat}{ex str:Bool}{d vs:List V}{t:T}(hM:M.get b=some (.cells ty n ex fz str d t))(h1:o+vs.length≤n)(h2:fz≤o)(h3:aC vs=true):
 bK M b o vs=some (M.set b (.cells ty n ex fz str d (bG vs o t))):=by
 show Option.rec (motive:=fun _=>Option Mem) none (fun blk=>lG M b o vs blk) (M.get b)=_
 rw[hM]
 show(Bool.rec (motive:=fun _=>Option Mem) none (Bool.rec (motive:=fun _=>Option Mem) none (Bool.rec (motive:=fun _=>Option Mem) none (dU M b o vs ty n ex fz str d t) (aC vs)) (Nat.ble fz o)) (Nat.ble (Nat.add o vs.length) n))=_
 rw[bb,bb,bb,bW,bW,aj (show Nat.add o vs.length≤n from h1),aj h2,h3]
 simp only[if_true]
 unfold dU
 rw[Tr.force_eq,Tr.force_eq]
def ph(M:Mem)(c0 c b ty sz cap:Nat)(v:V)(es:List (List V)):Prop:=
 (∀e∈es,e.length=sz)∧es.length≤cap∧c0≤b∧b<c∧v= .l b 0 es.length cap∧ ∃d t,M.get b=some (.cells ty (cap*sz) true 0 false d t)∧ ∀k,k<es.flatten.length→cell (cap*sz) d t k=es.flatten[k]?
def b74(ty sz bytes:Nat)(zero:List V)(l c:V)(b:Nat):Option (V×bv):=iV (.mks ty sz bytes zero (.c l) (.c c)) b .e
theorem Q9(ty sz bytes:Nat)(zero:List V)(l c:X)(b:Nat)(t:T):iV (.mks ty sz bytes zero l c) b t=b74 ty sz bytes zero (l.ev t) (c.ev t) b:=Eq.trans rfl (Eq.refl _)
def ko(F:RO)(M:Mem)(lo c sz:Nat)(v:V)(es:List (List V)):Prop:=∀M':Mem,(∀b,lo≤b→b<c→M'.get b=M.get b)→cq F M' c sz v es
theorem ko.sl{M:Mem}{lo c sz:Nat}{v:V}{es:List (List V)}(h:ko F M lo c sz v es):cq F M c sz v es:=h M fun _ _ _=>rfl
theorem ko.up{M M':Mem}{lo lo' c c' sz:Nat}{v:V}{es:List (List V)}(h:ko F M lo c sz v es)(hc:c≤c')(hl:lo'≤lo)(hM:∀b,lo≤b→b<c→M'.get b=M.get b):ko F M' lo' c' sz v es:=by
 intro M2 h2
 have h3:=h M2 fun b h1 h4=>(h2 b (by omega) (by omega)).trans (hM b h1 h4)
 rcases h3 with⟨a,b|⟨b,o,hv,hb,hcs⟩⟩
 ·exact⟨a,.inl b⟩
 ·exact⟨a,.inr ⟨b,o,hv,by omega,hcs⟩⟩
theorem ko.gr{M M':Mem}{lo c c' sz:Nat}{v:V}{es:List (List V)}(h:ko F M lo c sz v es)(hg:Gr c M c' M'):ko F M' lo c' sz v es:=h.up hg.le (ag _) fun b _ hb=>hg.old b hb
theorem bm.own{M:Mem}{c0 c b ty sz:Nat}{v:V}{es:List (List V)}(h:bm M c0 c b ty sz v es):ko F M c0 c sz v es:=by
 intro M' hM
 refine bm.sl (c0:=c0) (b:=b) (ty:=ty) (M:=M') ?_
 rcases h with⟨h0,h|⟨h1,h2,rfl,h3⟩⟩
 ·exact⟨h0,.inl h⟩
 ·exact⟨h0,.inr ⟨h1,h2,rfl,by rw[hM b h1 h2];exact h3⟩⟩
theorem cV.put{M:Mem}{c b:Nat}{x y:bv}(h:cV F M c)(hb:b<c)(hx:M.get b=some x):cV F (M.set b y) c:=by
 refine⟨fun b' hb'=>?_,h.hiF,fun b' hb'=>?_,h.ge⟩
 ·rw[ah _ _ (by omega)];exact h.hiM b' hb'
 ·have:b'≠b:=by
   intro e;subst e;rw[h.ap b' hb']at hx;cases hx
  rw[ah _ _ this];exact h.ap b' hb'
theorem aH{M:Mem}{b ty:Nat}{l:List V}(h:M.get b=some (af ty l))(o:Nat)(vs:List V)(h1:o+vs.length≤l.length)(h2:aC vs=true):bK M b o vs=some (M.set b (af ty (over l o vs))):=by
 have:=pM M b o ty l vs h1 h2
 rwa [←d8 h]at this
theorem aq{M:Mem}{b ty:Nat}{l:List V}(h:M.get b=some (af ty l))(o:Nat):load1 F M b o=l[o]?:=by
 rw[d8 h];exact rJ M b o ty l
theorem bc{M:Mem}{b ty:Nat}{l:List V}(h:M.get b=some (af ty l))(n:Nat)(hn:l.length=n):loadN F M b 0 n=some l:=by
 rw[d8 h,d7 M b 0 n ty l (by omega),List.drop_zero,←hn,List.take_length]
theorem xX:AL .none= .nrm:=Eq.trans rfl (Eq.refl _)
theorem FU(a b:CC)(k:Kn)(t:T)(d:List Nat)(M:Mem)(c:Nat)(Q:Ex→St→Prop):Wp (.cond (.c (.b true)) a b) k (.mk t d M c) Q=Wp a k (.mk t d M c) Q:=yJ rfl
theorem FT(a b:CC)(k:Kn)(t:T)(d:List Nat)(M:Mem)(c:Nat)(Q:Ex→St→Prop):Wp (.cond (.c (.b false)) a b) k (.mk t d M c) Q=Wp b k (.mk t d M c) Q:=yI rfl
end
theorem ai{a b:Prop}(x:a)(y:b):a∧b:=⟨x,y⟩
def WL:=ai @Sp (ai @L6 (ai @tI (ai @Ys (ai @Bd (ai @dD (ai @ah (ai @Tr.get_e (ai @vu (ai @LD (ai @nE (ai @av0 (ai @bi5 (ai @af0 (ai @ae9 (ai @Rn (ai @aJ6 (ai @aJ2 (ai @a05 (ai @aG8 (ai @aJ4 (ai @a08 (ai @aN3 (ai @Mw (ai @a06 (ai @aU3 (ai @aN9 (ai @Yo (ai @Mx (ai @AC (ai @My (ai @BN (ai @yr (ai @Np (ai @Nn (ai @av2 (ai @av3 (ai @DK (ai @Sq (ai @OG (ai @zW (ai @zX (ai @zU (ai @F3 (ai @F4 (ai @EZ (ai @av1 (ai @bj1 (ai @bi9 (ai @bj0 (ai @b18 (ai @b07 (ai @b06 (ai @b08 (ai @yJ (ai @yI (ai @bf2 (ai @bf0 (ai @bf1 (ai @aQ2 (ai @jg (ai @FA (ai @bg9 (ai @aU7 (ai @aP9 (ai @aP8 (ai @ai0 (ai @zT (ai @ZJ (ai @ZH (ai @ZI (ai @ZG (ai @ZF (ai @ZL (ai @aU8 (ai @ah8 (ai @ai1 (ai @lnS (ai @YN (ai @aU4 (ai @aU5 (ai @aN2 (ai @aN7 (ai @rJ (ai @aU1 (ai @vg (ai @QQ (ai @Sy (ai @Ek (ai @ev_t (ai @ev_c (ai @QT (ai @LU (ai @Tr.setP_h (ai @Tr.setP_l (ai @Tr.setP_r (ai @ab1 (ai @ab3 (ai @ab2 (ai @ab4 (ai @LJ (ai @LL (ai @b67 (ai @Ft (ai @ag1 (ai @A9 (ai @MI (ai @MJ (ai @Bool.not_true (ai @Bool.not_false (ai @Bool.false_eq_true (ai @Bool.true_eq_false (ai @decide_true (ai @decide_false (ai @MW (ai @MF (ai @EB (ai @EE (ai @EI (ai @EH (ai @Al (ai @EF (ai @EJ (ai @Aj (ai @EG (ai @Ak (ai @EC (ai @Ai (ai @ED (ai @ce (ai @aE (ai @R1 (ai @R3 (ai @R7 (ai @R6 (ai @Mn (ai @R4 (ai @R8 (ai @Ml (ai @R5 (ai @R2 (ai @Mk (ai @Bool.and_true (ai @Bool.true_and (ai @QS (ai @xB (ai @Ez (ai @rv (ai @MM (ai @F9 (ai @Nat.zero_add (ai @and_self (ai @and_true (ai @true_and (ai @YL (ai @mH (ai @YM (ai @aU2 (ai @aU0 (ai @aT8 (ai @E7 (ai @Eu (ai @Et (ai @mt (ai @ac9 (ai @ad0 (ai @aT9 (ai @QM (ai @QN (ai @QK (ai @xr (ai @b17 (ai @Qu (ai @aU6 (ai @RT (ai @RQ (ai @xO (ai @MA (ai @d7 (ai @pM (ai @Bu (ai @F5 (ai @Q5 (ai @Q8 (ai @O3 (ai @oI (ai @Rh (ai @Ri (ai @ac8 (ai @Nat.add_assoc (ai @OJ (ai @YO (ai @bg6 (ai @Q7 (ai @LT (ai @oE (ai @AJ (ai @kK (ai @Ee (ai @YP (ai @b73 (ai @r5 (ai @r6 (ai @Cv (ai @QP (ai @b01 (ai @b00 (ai @b02 (ai @QE (ai @ac2 (ai @EV (ai @aJ7 (ai @aa0 (ai @aa1 (ai @a07 (ai @aJ8 (ai @aJ3 (ai @Nu (ai @FF (ai @Bo (ai @FC (ai @Bn (ai @FD (ai @LP (ai @Nv (ai @FE (ai @Nw (ai @aJ5 (ai @aQ1 (ai @Q9 (ai @FU (ai @FT (ai @Bf (ai @Bg (ai @Be (ai @decide_eq_true_eq (ai @or_self (ai @or_true (ai @or_false (ai @true_or (ai @false_or (ai @and_false (@false_and))))))))))))))))))))))))))))))))))))))))))))))))))))))))))))))))))))))))))))))))))))))))))))))))))))))))))))))))))))))))))))))))))))))))))))))))))))))))))))))))))))))))))))))))))))))))))))))))))))))))))))))))))))))))))))))))))))))))))))))))))
def WM:=ai @cond_true.{1} (ai @cond_false.{1} (ai @List.getElem?_cons_zero.{0} (ai @List.getElem?_cons_succ.{0} (ai @Option.getD_some.{0} (ai @if_true.{1} (ai @if_false.{1} (ai @ite_true.{1} (ai @ite_false.{1} (ai @List.set_cons_zero.{0} (ai @List.set_cons_succ.{0} (ai @List.length_cons.{0} (ai @List.length_nil.{0} (ai @List.nil_append.{0} (ai @List.append_nil.{0} (ai @List.cons_append.{0} (ai @List.drop_zero.{0} (ai @List.take_succ_cons.{0} (ai @List.take_zero.{0} (ai @List.take_nil.{0} (ai @List.drop_succ_cons.{0} (ai @Option.map_some.{0,0} (ai @Option.isSome_some.{0} (@Option.map_none.{0,0})))))))))))))))))))))))
def WX:=ai @WL @WM
abbrev a0:aJ:= .h
abbrev z0:X:= .t a0
abbrev a1:aJ:= .l a0
abbrev z1:X:= .t a1
abbrev a2:aJ:= .r a0
abbrev z2:X:= .t a2
abbrev a3:aJ:= .l a1
abbrev z3:X:= .t a3
abbrev a4:aJ:= .r a1
abbrev z4:X:= .t a4
abbrev a5:aJ:= .l a2
abbrev z5:X:= .t a5
abbrev a6:aJ:= .r a2
abbrev z6:X:= .t a6
abbrev a7:aJ:= .l a3
abbrev z7:X:= .t a7
abbrev a8:aJ:= .r a3
abbrev z8:X:= .t a8
abbrev a9:aJ:= .l a4
abbrev z9:X:= .t a9
abbrev dX:aJ:= .r a4
abbrev gc:X:= .t dX
abbrev fy:aJ:= .l a5
abbrev eg:X:= .t fy
abbrev fR:aJ:= .r a5
abbrev eX:X:= .t fR
abbrev fc:aJ:= .l a6
abbrev ey:X:= .t fc
abbrev gQ:aJ:= .r a6
abbrev iH:X:= .t gQ
abbrev eN:aJ:= .l a7
abbrev iq:X:= .t eN
abbrev iw:aJ:= .r a7
abbrev jP:X:= .t iw
abbrev gk:aJ:= .l a8
abbrev gH:X:= .t gk
abbrev gS:aJ:= .r a8
abbrev ir:X:= .t gS
abbrev lj:aJ:= .l a9
abbrev lQ:X:= .t lj
abbrev ke:aJ:= .r a9
abbrev mR:X:= .t ke
abbrev gT:aJ:= .l dX
abbrev oc:X:= .t gT
abbrev lL:aJ:= .r dX
abbrev og:X:= .t lL
abbrev kl:aJ:= .l fy
abbrev mW:X:= .t kl
abbrev kf:aJ:= .r fy
abbrev pf:X:= .t kf
abbrev mS:aJ:= .l fR
abbrev qQ:X:= .t mS
abbrev mg:aJ:= .r fR
abbrev qx:X:= .t mg
abbrev iU:aJ:= .l fc
abbrev qy:X:= .t iU
abbrev mT:aJ:= .r fc
abbrev qR:X:= .t mT
abbrev ll:aJ:= .l gQ
abbrev sN:X:= .t ll
abbrev mh:aJ:= .r gQ
abbrev sY:X:= .t mh
abbrev mU:aJ:= .l eN
abbrev sZ:X:= .t mU
abbrev sQ:aJ:= .r eN
abbrev wy:X:= .t sQ
abbrev sR:aJ:= .l iw
abbrev wz:X:= .t sR
abbrev qz:aJ:= .r iw
abbrev wA:X:= .t qz
abbrev lM:aJ:= .l gk
abbrev we:X:= .t lM
abbrev tA:aJ:= .r gk
abbrev yO:X:= .t tA
abbrev pS:aJ:= .l gS
abbrev uz:X:= .t pS
abbrev mV:aJ:= .r gS
abbrev wf:X:= .t mV
abbrev ou:aJ:= .l lj
abbrev wB:X:= .t ou
abbrev tB:aJ:= .r lj
abbrev yP:X:= .t tB
abbrev t4:aJ:= .l ke
abbrev wg:X:= .t t4
abbrev tC:aJ:= .r ke
abbrev yQ:X:= .t tC
abbrev tD:aJ:= .l gT
abbrev yR:X:= .t tD
abbrev qX:aJ:= .r gT
abbrev wC:X:= .t qX
abbrev uJ:aJ:= .l lL
abbrev zc:X:= .t uJ
abbrev ow:aJ:= .r lL
abbrev DO:X:= .t ow
abbrev uK:aJ:= .l kl
abbrev zd:X:= .t uK
abbrev wh:aJ:= .r kl
abbrev BS:X:= .t wh
abbrev wN:aJ:= .l kf
abbrev FX:X:= .t wN
abbrev wO:aJ:= .r kf
abbrev FY:X:= .t wO
abbrev wj:aJ:= .l mS
abbrev BT:X:= .t wj
abbrev sS:aJ:= .r mS
abbrev FZ:X:= .t sS
abbrev wP:aJ:= .l mg
abbrev Gj:X:= .t wP
abbrev BZ:aJ:= .r mg
abbrev Gk:X:= .t BZ
abbrev C0:aJ:= .l iU
abbrev OQ:X:= .t C0
abbrev zj:aJ:= .r iU
abbrev G0:X:= .t zj
abbrev C2:aJ:= .l mT
abbrev Pl:X:= .t C2
abbrev C3:aJ:= .r mT
abbrev OR:X:= .t C3
abbrev wl:aJ:= .l ll
abbrev OS:X:= .t wl
abbrev C4:aJ:= .r ll
abbrev OT:X:= .t C4
abbrev wm:aJ:= .l mh
abbrev Pm:X:= .t wm
abbrev wn:aJ:= .r mh
abbrev OU:X:= .t wn
abbrev wo:aJ:= .l mU
abbrev Gl:X:= .t wo
abbrev C5:aJ:= .r mU
abbrev Pn:X:= .t C5
abbrev zk:aJ:= .l sQ
abbrev G3:X:= .t zk
abbrev qY:aJ:= .r sQ
abbrev Gm:X:= .t qY
abbrev uL:aJ:= .l sR
abbrev Gn:X:= .t uL
abbrev zl:aJ:= .r sR
abbrev Gp:X:= .t zl
abbrev zm:aJ:= .l qz
abbrev Gq:X:= .t zm
abbrev zn:aJ:= .r qz
abbrev OV:X:= .t zn
abbrev wQ:aJ:= .l lM
abbrev G5:X:= .t wQ
abbrev yW:aJ:= .r lM
abbrev OW:X:= .t yW
abbrev fA:aJ:= .l tA
abbrev wD:X:= .t fA
abbrev yX:aJ:= .r tA
abbrev OX:X:= .t yX
abbrev C6:aJ:= .l pS
abbrev OY:X:= .t C6
abbrev C7:aJ:= .r pS
abbrev OZ:X:= .t C7
abbrev C8:aJ:= .l mV
abbrev P0:X:= .t C8
abbrev C9:aJ:= .r mV
abbrev P2:X:= .t C9
abbrev t5:aJ:= .l ou
abbrev P3:X:= .t t5
abbrev DW:aJ:= .r ou
abbrev Po:X:= .t DW
abbrev DX:aJ:= .l tB
abbrev Pp:X:= .t DX
abbrev qZ:aJ:= .r tB
abbrev Pq:X:= .t qZ
abbrev wR:aJ:= .l t4
abbrev Ps:X:= .t wR
abbrev GA:aJ:= .r t4
abbrev Pt:X:= .t GA
abbrev GB:aJ:= .l tC
abbrev Pu:X:= .t GB
abbrev GC:aJ:= .r tC
abbrev SD:X:= .t GC
abbrev GD:aJ:= .l tD
abbrev Pv:X:= .t GD
abbrev wS:aJ:= .r tD
abbrev Pw:X:= .t wS
abbrev GE:aJ:= .l qX
abbrev Px:X:= .t GE
abbrev Pa:aJ:= .r qX
abbrev SE:X:= .t Pa
abbrev Pb:aJ:= .l uJ
abbrev SF:X:= .t Pb
abbrev Pd:aJ:= .r uJ
abbrev SG:X:= .t Pd
abbrev Pe:aJ:= .l ow
abbrev SH:X:= .t Pe
abbrev Pf:aJ:= .r ow
abbrev Zl:X:= .t Pf
abbrev SQ:aJ:= .l uK
abbrev z95:X:= .t SQ
abbrev ST:aJ:= .r uK
abbrev z96:X:= .t ST
abbrev SU:aJ:= .l wh
abbrev z97:X:= .t SU
abbrev SV:aJ:= .r wh
abbrev z98:X:= .t SV
abbrev SW:aJ:= .l wN
abbrev z99:X:= .t SW
abbrev uF:aJ:= .r wN
abbrev yN:X:= .t uF
abbrev uG:aJ:= .l wO
abbrev SB:X:= .t uG
abbrev wJ:aJ:= .r wO
abbrev BP:X:= .t wJ
abbrev wL:aJ:= .l wj
abbrev BQ:X:= .t wL
abbrev wM:aJ:= .r wj
abbrev BR:X:= .t wM
abbrev PE:aJ:= .l sS
abbrev aw5:X:= .t PE
abbrev zg:aJ:= .r sS
abbrev aw6:X:= .t zg
abbrev PF:aJ:= .l wP
abbrev aw7:X:= .t PF
abbrev PG:aJ:= .r wP
abbrev aw8:X:= .t PG
abbrev PH:aJ:= .l BZ
abbrev aw9:X:= .t PH
abbrev PI:aJ:= .r BZ
abbrev ax0:X:= .t PI
abbrev uH:aJ:= .l C0
abbrev ax1:X:= .t uH
abbrev PJ:aJ:= .r C0
abbrev ax2:X:= .t PJ
abbrev PK:aJ:= .l zj
abbrev ax3:X:= .t PK
abbrev PL:aJ:= .r zj
abbrev ax4:X:= .t PL
abbrev PM:aJ:= .l C2
abbrev ax5:X:= .t PM
abbrev PN:aJ:= .r C2
abbrev ax6:X:= .t PN
abbrev PP:aJ:= .l C3
abbrev ax7:X:= .t PP
abbrev t0:aJ:= .r C3
abbrev ax8:X:= .t t0
abbrev PQ:aJ:= .l wl
abbrev ax9:X:= .t PQ
abbrev PR:aJ:= .r wl
abbrev SC:X:= .t PR
abbrev PS:aJ:= .l C4
abbrev ay0:X:= .t PS
abbrev PT:aJ:= .r C4
abbrev ay1:X:= .t PT
abbrev PU:aJ:= .l wm
abbrev ay2:X:= .t PU
abbrev PV:aJ:= .r wm
abbrev ay3:X:= .t PV
abbrev PW:aJ:= .l wn
abbrev ay4:X:= .t PW
abbrev t3:aJ:= .r wn
abbrev ay5:X:= .t t3
abbrev PX:aJ:= .l wo
abbrev ay6:X:= .t PX
abbrev uI:aJ:= .r wo
abbrev ay7:X:= .t uI
abbrev PY:aJ:= .l C5
abbrev ay8:X:= .t PY
abbrev PZ:aJ:= .r C5
abbrev ay9:X:= .t PZ
abbrev Q0:aJ:= .l zk
abbrev az0:X:= .t Q0
abbrev zh:aJ:= .r zk
abbrev az1:X:= .t zh
abbrev Q1:aJ:= .l qY
abbrev az3:X:= .t Q1
abbrev zi:aJ:= .r qY
abbrev az4:X:= .t zi
abbrev Q2:aJ:= .l uL
abbrev az5:X:= .t Q2
abbrev Q3:aJ:= .r uL
abbrev az6:X:= .t Q3
abbrev Q4:aJ:= .l zl
abbrev az7:X:= .t Q4
abbrev Zu:aJ:= .r zl
abbrev b19:X:= .t Zu
abbrev Gz:aJ:= .l zm
abbrev b20:X:= .t Gz
abbrev Zv:aJ:= .r zm
abbrev b21:X:= .t Zv
abbrev Zw:aJ:= .l zn
abbrev b22:X:= .t Zw
abbrev Zx:aJ:= .r zn
abbrev b23:X:= .t Zx
abbrev aC7:aJ:= .l wQ
abbrev bj2:X:= .t aC7
abbrev aC8:aJ:= .r wQ
abbrev bj3:X:= .t aC8
abbrev aC9:aJ:= .l yW
abbrev bj4:X:= .t aC9
abbrev aD0:aJ:= .r yW
abbrev bj5:X:= .t aD0
abbrev aD1:aJ:= .l fA
abbrev bj6:X:= .t aD1
abbrev aD2:aJ:= .r fA
abbrev bj7:X:= .t aD2
abbrev aD3:aJ:= .l yX
abbrev bj8:X:= .t aD3
abbrev aD4:aJ:= .r yX
abbrev bj9:X:= .t aD4
abbrev aD5:aJ:= .l C6
abbrev bk0:X:= .t aD5
abbrev aD6:aJ:= .r C6
abbrev bk1:X:= .t aD6
abbrev aD7:aJ:= .l C7
abbrev bk2:X:= .t aD7
abbrev aD8:aJ:= .r C7
abbrev bk3:X:= .t aD8
abbrev aD9:aJ:= .l C8
abbrev bk4:X:= .t aD9
abbrev aE0:aJ:= .r C8
abbrev bk5:X:= .t aE0
abbrev aE1:aJ:= .l C9
abbrev bk6:X:= .t aE1
abbrev aE2:aJ:= .r C9
abbrev bk7:X:= .t aE2
abbrev aE3:aJ:= .l t5
abbrev bk8:X:= .t aE3
abbrev aE4:aJ:= .r t5
abbrev bk9:X:= .t aE4
abbrev aE5:aJ:= .l DW
abbrev bl0:X:= .t aE5
abbrev aE6:aJ:= .r DW
abbrev bl1:X:= .t aE6
abbrev aE7:aJ:= .l DX
abbrev bl2:X:= .t aE7
abbrev aE8:aJ:= .r DX
abbrev bl3:X:= .t aE8
abbrev aE9:aJ:= .l qZ
abbrev bl4:X:= .t aE9
abbrev aF0:aJ:= .r qZ
abbrev bl5:X:= .t aF0
abbrev sk1:T:= .n .e none .e
abbrev mL:T:= .n sk1 none sk1
abbrev iE:T:= .n mL none mL
abbrev jY:T:= .n iE none iE
abbrev Bp:T:= .n jY none jY
abbrev FH:T:= .n Bp none Bp
abbrev dA(u:List (Option V))(a:Nat):T:= .n .e (uO u a) .e
abbrev ec(u:List (Option V))(a b c:Nat):T:= .n (dA u a) (uO u b) (dA u c)
abbrev aQ(u:List (Option V))(a b c d e f g:Nat):T:= .n (ec u a b c) (uO u d) (ec u e f g)
abbrev qq(d:aJ)(o:QO):CO:=⟨some d,.q o,none⟩
abbrev mw(d:aJ)(o:EO)(g:aJ):CO:=⟨some d,.e o,some (g,false)⟩
abbrev pZ(d:aJ)(o:EO)(g:aJ):CO:=⟨some d,.e o,some (g,true)⟩
abbrev aK(d:aJ)(o:QO)(g:aJ):CO:=⟨some d,.q o,some (g,false)⟩
abbrev aW(d:aJ)(o:QO)(g:aJ):CO:=⟨some d,.q o,some (g,true)⟩
abbrev aa(d:aJ)(o:AO):CO:=⟨some d,.a o,none⟩
abbrev ee(d:aJ)(o:EO):CO:=⟨some d,.e o,none⟩
abbrev ez(o:EO):CO:=⟨none,.e o,none⟩
abbrev x6(n:Int):X:= .c (.i .i64 n)
abbrev xT:X:= .c (.b true)
abbrev xF:X:= .c (.b false)
theorem wu{b b1:CC}(h:b=b1)(k:Kn)(s:St)(R:Ex→St→Prop):Wp b k s R=Wp b1 k s R:=congrArg (fun x=>Wp x k s R) h
def X1{x0:Option V}(l:List (Option V)):List (Option V):=x0::l
def G1(l:List (Option V)):List (Option V):=none::l
def X2{x0 x1:Option V}(l:List (Option V)):List (Option V):=x0::x1::l
def G2(l:List (Option V)):List (Option V):=none::none::l
def X4{x0 x1 x2 x3:Option V}(l:List (Option V)):List (Option V):=x0::x1::x2::x3::l
def G4(l:List (Option V)):List (Option V):=none::none::none::none::l
def X8{x0 x1 x2 x3 x4 x5 x6 x7:Option V}(l:List (Option V)):List (Option V):=x0::x1::x2::x3::x4::x5::x6::x7::l
def G8(l:List (Option V)):List (Option V):=none::none::none::none::none::none::none::none::l
def cw{x0 x1 x2 x3 x4 x5 x6 x7 x8 x9 x10 x11 x12 x13 x14 x15:Option V}(l:List (Option V)):List (Option V):=x0::x1::x2::x3::x4::x5::x6::x7::x8::x9::x10::x11::x12::x13::x14::x15::l
def cP{x0 x1 x2 x3 x4 x5 x6 x7 x8 x9 x10 x11 x12 x13 x14 x15 x16 x17 x18 x19 x20 x21 x22 x23 x24 x25 x26 x27 x28 x29 x30 x31:Option V}(l:List (Option V)):List (Option V):=x0::x1::x2::x3::x4::x5::x6::x7::x8::x9::x10::x11::x12::x13::x14::x15::x16::x17::x18::x19::x20::x21::x22::x23::x24::x25::x26::x27::x28::x29::x30::x31::l
def d9{x0 x1 x2 x3 x4 x5 x6 x7 x8 x9 x10 x11 x12 x13 x14 x15 x16 x17 x18 x19 x20 x21 x22 x23 x24 x25 x26 x27 x28 x29 x30 x31 x32 x33 x34 x35 x36 x37 x38 x39 x40 x41 x42 x43 x44 x45 x46 x47 x48 x49 x50 x51 x52 x53 x54 x55 x56 x57 x58 x59 x60 x61 x62 x63:Option V}(l:List (Option V)):List (Option V):=x0::x1::x2::x3::x4::x5::x6::x7::x8::x9::x10::x11::x12::x13::x14::x15::x16::x17::x18::x19::x20::x21::x22::x23::x24::x25::x26::x27::x28::x29::x30::x31::x32::x33::x34::x35::x36::x37::x38::x39::x40::x41::x42::x43::x44::x45::x46::x47::x48::x49::x50::x51::x52::x53::x54::x55::x56::x57::x58::x59::x60::x61::x62::x63::l
section
variable{Φ:Nat→Option CF}{rd:Option Nat}{fn:Nat}{F:RO}
def ac7:V→Option V
 | .p b o=>some (.p b o)
 | .f g h c=>some (.f g h c)
 | .y l=>some (.y l)
 | .a t v=>some (.a t v)
 |_=>none
theorem ux(x:X)(M:Mem)(t:T):(cG (.nck x) F M t).val=ac7 (x.ev t):=by
 show(kN x F M t).val=_
 unfold kN
 cases x.ev t<;>rfl
theorem iL(b o:Nat):ac7 (.p b o)=some (.p b o):=Eq.trans rfl (Eq.refl _)
theorem oD(x:X)(M:Mem)(t:T):kh (.nck x) F M t=oV (ac7 (x.ev t)):=by
 refine(eU ?_).trans (congrArg oV (ux (F:=F) x M t))
 intro F' M'
 refine je ?_
 show(kN x F' M' t= .f∨ ∃y,kN x F' M' t= .v y)
 unfold kN
 cases x.ev t<;>first|exact .inl rfl|exact .inr ⟨_,rfl⟩
def cpV:V→Option V
 | .l0=>some (.i .i64 0)
 | .l _ _ _ c=>some (.i .i64 (c:Int))
 |_=>none
theorem bg7(x:X)(M:Mem)(t:T):(cG (.cp x) F M t).val=cpV (x.ev t):=by
 show(rW x F M t).val=_
 unfold rW
 cases x.ev t<;>rfl
theorem Aa:cpV .l0=some (.i .i64 0):=Eq.trans rfl (Eq.refl _)
theorem Lz(x:X)(M:Mem)(t:T):kh (.cp x) F M t=oV (cpV (x.ev t)):=by
 refine(eU ?_).trans (congrArg oV (bg7 (F:=F) x M t))
 intro F' M'
 refine je ?_
 show(rW x F' M' t= .f∨ ∃y,rW x F' M' t= .v y)
 unfold rW
 cases x.ev t<;>first|exact .inl rfl|exact .inr ⟨_,rfl⟩
def sdV:V→Option V
 | .l0=>some .p0
 | .l b o _ c=>if c=0 then none else some (.p b o)
 | .u b o _ el kn=>if el<kn then some (.p b o)else none
 |_=>none
theorem vK(x:X)(M:Mem)(t:T):rY x F M t=oV (sdV (x.ev t)):=by
 unfold rY
 cases x.ev t with
 |l b o n c=>
  show(bif Nat.beq c 0 then QR.f else .v (.p b o))=oV (if c=0 then none else some (.p b o));rw[bI];by_cases h:c=0
  ·rw[aj h,ac h];rfl
  ·rw[ak h,ab h];rfl
 |u b o n el kn=>
  show(bif Nat.blt el kn then QR.v (.p b o)else .f)=oV (if el<kn then some (.p b o)else none);rw[fG];by_cases h:el<kn
  ·rw[aj h,ac h];rfl
  ·rw[ak h,ab h];rfl
 |_=>rfl
theorem ME(o:Option V):(oV o).val=o:=by cases o<;>rfl
theorem bh0(x:X)(M:Mem)(t:T):(cG (.sd x) F M t).val=sdV (x.ev t):=by
 show(rY x F M t).val=_
 rw[vK,ME]
theorem LA(x:X)(M:Mem)(t:T):kh (.sd x) F M t=oV (sdV (x.ev t)):=by
 refine(eU ?_).trans (congrArg oV (bh0 (F:=F) x M t))
 intro F' M'
 show rY x F' M' t=oV (rY x [] .e t).val
 rw[vK,vK,ME]
theorem ag3:sdV .l0=some .p0:=Eq.trans rfl (Eq.refl _)
theorem Yx{b o n el kn:Nat}(h:el<kn):sdV (.u b o n el kn)=some (.p b o):=ac h
def upV(F:RO)(M:Mem)(x:V):Option V:=(cG (.up (.c x)) F M .e).val
theorem bh1(x:X)(M:Mem)(t:T):(cG (.up x) F M t).val=upV F M (x.ev t):=Eq.trans rfl (Eq.refl _)
theorem Sk{M:Mem}{b o ty n:Nat}{ex str:Bool}{fz:Nat}{d:List V}{t:T}(h:M.get b=some (.cells ty n ex fz str d t))(ho:o<n):upV F M (.p b o)=some (.p b o):=by
 show(jp (look F M b) QR.f fun n _ _=>bif Nat.blt o n then QR.r (.p b o) b else .f).val=_
 rw[au h]
 show(bif Nat.blt o n then QR.r (.p b o) b else .f).val=_
 rw[fG,aj ho];rfl
def dnV(ty sz:Nat)(F:RO)(M:Mem)(x:V):Option V:=(cG (.dn ty sz (.c x)) F M .e).val
theorem bg8(ty sz:Nat)(x:X)(M:Mem)(t:T):(cG (.dn ty sz x) F M t).val=dnV ty sz F M (x.ev t):=Eq.trans rfl (Eq.refl _)
theorem QC{M:Mem}{b ty n:Nat}{str:Bool}{fz:Nat}{d:List V}{t:T}(h:M.get b=some (.cells ty n true fz str d t)):dnV ty n F M (.p b 0)=some (.p b 0):=by
 show(a04 ty n b (look F M b)).val=_
 rw[au h]
 show(bif Nat.beq ty ty&&Nat.beq n n then QR.r (.p b 0) b else .f).val=_
 rw[Nat.beq_refl,Nat.beq_refl];rfl
def QV(r:QR):Prop:=r= .f∨ ∃y,r= .v y
theorem oW{r:QR}(b:Bool)(h:QV r):QV (bif b then r else .f):=by
 cases b with
 |false=>exact .inl rfl
 |true=>exact h
theorem Dd{r s:QR}(b:Bool)(h:QV r)(h':QV s):QV (bif b then r else s):=by
 cases b with
 |false=>exact h'
 |true=>exact h
theorem N6(b o n c:Nat):QV (Yp b o n c):= .inr ⟨_,MD b o n c⟩
theorem N8(b o n e k:Nat):QV (Yq b o n e k):= .inr ⟨_,vA b o n e k⟩
theorem S6(sz:Nat)(v:V)(a b d:Option Nat):QV (qt sz v a b d):=by
 unfold qt
 refine oW _ ?_
 cases v with
 |l b0 o len cap=>exact oW _ (N6 _ _ _ _)
 |l0=>exact oW _ (.inr ⟨_,rfl⟩)
 |u b0 o len el kn=>
  cases d with
  |none=>exact oW _ (Dd _ (N8 _ _ _ _ _) (Dd _ (N8 _ _ _ _ _) (.inr ⟨_,by rw[bo]⟩)))
  |some m=>exact oW _ (N6 _ _ _ _)
 |ue b0 o0 o=>exact oW _ (.inr ⟨_,rfl⟩)
 |_=>exact .inl rfl
theorem aa2(sz:Nat)(x:X)(lo hi mx:Option X)(M:Mem)(t:T):kh (.slL sz x lo hi mx) F M t=oV (tj sz (x.ev t) (lo.map fun x=>x.ev t) (hi.map fun x=>x.ev t) (mx.map fun x=>x.ev t)):=by
 refine(eU ?_).trans (congrArg oV (YO (F:=F) sz x lo hi mx M t))
 intro F' M'
 refine je ?_
 show QV (oU sz (x.ev t) (optNN t lo) (optNN t hi) (optNN t mx))
 cases optNN t lo with
 |none=>exact .inl rfl
 |some a=>
  cases optNN t hi with
  |none=>exact .inl rfl
  |some b=>
   cases optNN t mx with
   |none=>exact .inl rfl
   |some d=>exact S6 _ _ _ _ _
def SN(o:Option (V×bv))(base i:Nat)(p:aJ)(r:List (Nat×Nat×CO))(k:Kn)(t:T)(M:Mem)(c:Nat)(pend:List (Nat×Nat×bv))(reads:List (Nat×Nat))(R:DS→Prop):Prop:=match o with
 |some x=>kj base r k (.mk (t.setP p x.1) M c ((i,base+i,x.2)::pend) reads) R
 |none=>False
theorem nN(v:V)(b:bv)(base i:Nat)(p:aJ)(r:List (Nat×Nat×CO))(k:Kn)(t:T)(M:Mem)(c:Nat)(pend:List (Nat×Nat×bv))(reads:List (Nat×Nat))(R:DS→Prop):
 SN (some (v,b)) base i p r k t M c pend reads R=kj base r k (.mk (t.setP p v) M c ((i,base+i,b)::pend) reads) R:=Eq.trans rfl (Eq.refl _)
theorem w8(base i mask:Nat)(p:aJ)(o:AO)(r:List (Nat×Nat×CO))(t:T)(M:Mem)(c:Nat)(pend:List (Nat×Nat×bv))(reads:List (Nat×Nat))(R:DS→Prop)(hl:(look F M (base+i)).isNone=true)(hr:bN (base+i) reads=true):
 kj base ((i,mask,.mk (some p) (.a o) none)::r) (K Φ rd fn F) (.mk t M c pend reads) R=SN (iV o (base+i) t) base i p r (K Φ rd fn F) t M c pend reads R:=by
 have he:pX (K Φ rd fn F) base (i,mask,.mk (some p) (.a o) none) (.mk t M c pend reads)=Ac i (base+i) (some p) t M c pend reads (iV o (base+i) t):=by
  show(fN (Nat.add base i) fun b=>bif (look F M b).isNone&&bN b reads then Ac i b (some p) t M c pend reads (iV o b t)else none)=_;rw[bo];show(bif (look F M (base+i)).isNone&&bN (base+i) reads then Ac i (base+i) (some p) t M c pend reads (iV o (base+i) t)else none)=_;rw[hl,hr];rfl
 apply propext
 rw[ed,he]
 cases iV o (base+i) t with
 |none=>exact⟨fun⟨s',h,_⟩=>(by cases h),False.elim⟩
 |some x=>
  have h2:Ac i (base+i) (some p) t M c pend reads (some x)=some (.mk (t.setP p x.1) M c ((i,base+i,x.2)::pend) reads):=by
   show((setT t (some p) x.1).force fun t=>some (DS.mk t M c ((i,base+i,x.2)::pend) reads))=_;rw[Tr.force_eq];rfl
  rw[h2];constructor
  ·rintro⟨s',h,q⟩;obtain rfl:=ae h;exact q
  ·exact fun q=>⟨_,rfl,q⟩
theorem iJ(i b:Nat)(x:bv)(r:List (Nat×Nat×bv))(M:Mem):cT ((i,b,x)::r) M=cT r (M.set b x):=by
 show(M.set b x).force (fun M=>cT r M)=_
 rw[Tr.force_eq]
theorem cJ(b:Nat):bN b []=true:=Eq.trans rfl (Eq.refl _)
theorem bu(b i b':Nat)(r:List (Nat×Nat))(h:b'≠b):bN b ((i,b')::r)=bN b r:=by
 show(bif Nat.beq b' b then false else bN b r)=_
 rw[bI,ak h];rfl
def p5(ty n:Nat)(row:List V):bv:= .cells ty n false 0 false [] (gE row)
def nzA(ty:Nat)(l:V)(b:Nat):Option (V×bv):=iV (.nz ty (.c l)) b .e
theorem Zz(ty:Nat)(l:X)(b:Nat)(t:T):iV (.nz ty l) b t=nzA ty (l.ev t) b:=Eq.trans rfl (Eq.refl _)
theorem aO9(ty n b:Nat)(h:n≤1099511627776):nzA ty (.i .i64 (n:Int)) b=some (.u b 0 n 0 n,p5 ty n []):=by
 show(match Cf (.i .i64 (n:Int))with|some n=>bif Nat.ble n 1099511627776 then some (V.u b 0 n 0 n,bv.cells ty n false 0 false [] .e)else none|none=>none)=_
 show(bif Nat.ble n 1099511627776 then some (V.u b 0 n 0 n,bv.cells ty n false 0 false [] .e)else none)=_
 rw[bW,aj h];rfl
theorem Fx{n:Nat}{row:List V}(h:row.length≤n)(i:Nat)(hi:i<row.length):cell n [] (gE row) i=row[i]?:=by
 rw[cI,ac (by omega)]
 unfold gE
 rw[d6,ac (by omega)]
 simp only[Nat.sub_zero]
 rw[List.getElem?_eq_getElem hi]
theorem sa{M:Mem}{b ty n:Nat}{row:List V}(h:M.get b=some (p5 ty n row))(hn:row.length≤n):cO F M b 0 row:=fun k hk=>by
 rw[Nat.zero_add]
 unfold Ev.load1
 rw[au h]
 exact Fx hn k hk
theorem Bh{M:Mem}{b ty n:Nat}{row vs:List V}(h:M.get b=some (p5 ty n row))(hn:row.length+vs.length≤n)(h1:aC vs=true):bK M b row.length vs=some (M.set b (p5 ty n (row++vs))):=by
 rw[FL h hn (aB _) h1]
 unfold p5 gE
 have:=kF row vs 0 .e
 rw[Nat.zero_add]at this
 rw[this]
def pg(M:Mem)(c0 c b:Nat)(v:V)(l:List UInt8):Prop:=
 (l=[]∧v= .l0)∨(c0≤b∧b<c∧ ∃n,(l.length≤n∧0<n)∧v= .u b 0 l.length 0 n∧M.get b=some (p5 5 n (l.map bV)))
theorem pg.up{M M':Mem}{c0 c c' b:Nat}{v:V}{l:List UInt8}(h:pg M c0 c b v l)(hc:c≤c')(hb:b<c→M'.get b=M.get b):pg M' c0 c' b v l:=by
 rcases h with h|⟨h1,h2,n,h3,h4,h5⟩
 ·exact .inl h
 ·exact .inr ⟨h1,by omega,n,h3,h4,by rw[hb h2];exact h5⟩
theorem ZO{M0 M:Mem}{c0 c b:Nat}{v:V}{l s:List UInt8}(h:pg M c0 c b v l)(hg:Gr c0 M0 c M)(hr:kR (l.length+s.length) 1=true):
 kc (r4 F M c 5 1 1 v (sV s)) fun v' M' c'=>∃b',pg M' c0 c' b' v' (l++s)∧Gr c0 M0 c' M'∧c≤c'∧(∀x,x<c→x≠b→M'.get x=M.get x)∧(b'=b∨c≤b'):=by
 unfold r4
 rw[Dt]
 have e1:mr F M c 5 1 1 v (some (s.length,s.map bV))=app F M c 5 1 1 v s.length (s.map bV):=by
  show(bif aC (s.map bV)&&Nat.beq (s.map bV).length (Nat.mul s.length 1)then _ else _)=_;rw[gm,bI,aj (show(s.map bV).length=Nat.mul s.length 1 by rw[List.length_map];exact(Nat.mul_one _).symm)];rfl
 rw[e1]
 have hmap:(l++s).map bV=l.map bV++s.map bV:=List.map_append
 by_cases hz:s=[]
 ·subst hz;have e2:app F M c 5 1 1 v 0 []= .k v M c:=by
   show(bif Nat.beq 0 0 then(bif u3 v then RC.k v M c else .f)else _)=_;have:u3 v=true:=by
    rcases h with⟨_,rfl⟩|⟨_,_,n,⟨hn,_⟩,rfl,_⟩
    ·rfl
    ·show Nat.ble l.length (Nat.sub n 0)=true;rw[bW];exact aj hn
   rw[this];rfl
  exact⟨v,M,c,e2,b,by rw[bQ];exact h,hg,ag _,fun _ _ _=>rfl,.inl rfl⟩
 ·have hn0:s.length≠0:=fun e=>hz (List.length_eq_zero_iff.1 e);have grownEq:∀(N:Mem) (vs:List V) (k:Nat),kR k 1=true→vs.length=k→gg N c 5 1 k 0 false vs= .k (.u c 0 k 0 k) (N.set c (p5 5 k vs)) (c+1):=by
   intro N vs k hk hv;rw[nA N c 5 1 k vs hk];unfold qm p5;rw[hv]
  rcases h with⟨rfl,rfl⟩|⟨ha,hb,n,⟨hn,hn1⟩,rfl,hM⟩
  ·rw[aV,Nat.zero_add]at hr;refine⟨_,_,_,(Cd hn0).trans (grownEq M (s.map bV) s.length hr (List.length_map ..)),c,.inr ⟨hg.le,by omega,s.length,⟨ag _,by omega⟩,rfl,?_⟩,hg.set c _ hg.le (by omega) (by omega),by omega,fun x hx _=>ah _ _ (by omega),.inr (ag _)⟩;rw[Tr.get_set,ac rfl];rfl
  ·by_cases hfit:l.length+s.length≤n
   ·have hst:=Bh hM (vs:=s.map bV) (by rw[List.length_map,List.length_map];exact hfit) (gm s);rw[List.length_map]at hst;have e3:lR F M c 5 1 1 b 0 l.length 0 n s.length (s.map bV)= .k (.u b 0 (l.length+s.length) 0 n) (M.set b (p5 5 n (l.map bV++s.map bV))) c:=by
     unfold lR;rw[bW,aj (show Nat.add (Nat.add 0 l.length) s.length≤n by show 0+l.length+s.length≤n;omega),cond_true];unfold wX;rw[show Nat.add 0 (Nat.mul l.length 1)=l.length by show 0+l.length*1=l.length;omega,hst];show fN (l.length+s.length) (fun len=>RC.k (.u b 0 len 0 n) _ c)=_;rw[bo]
    refine⟨_,_,_,(zr hn0).trans e3,b,.inr ⟨ha,hb,n,⟨by rw[aF];exact hfit,hn1⟩,by rw[aF],?_⟩,hg.set b _ ha hb (ag _),ag _,fun x _ hxb=>ah _ _ hxb,.inl rfl⟩;rw[Tr.get_set,ac rfl,hmap]
   ·have hcl:=(sa (F:=F) hM (by rw[List.length_map];exact hn))
    have hcl2:cO F M b 0 (l.map fun x=>[bV x]).flatten:=by rw[hJ];exact hcl
    obtain⟨r,hrd⟩:=kP Nat.one_pos (es:=l.map fun x=>[bV x]) (fun e he=>by obtain⟨x,_,rfl⟩:=List.mem_map.1 he;rfl) hcl2;rw[List.length_map,hJ]at hrd;have hmw:fj M b 5 (Nat.add 0 (Nat.mul l.length 1)) (Nat.add 0 (Nat.mul (Nat.sub n 0) 1))=some (0,false):=by
     unfold fj;rw[hM];show(bif Nat.beq 5 5&&Nat.beq n (0+(n-0)*1)&&Nat.ble 0 (0+l.length*1)&&Nat.ble (0+l.length*1) (0+(n-0)*1)then some (0,false)else none)=_;rw[bI,bI,bW,bW,aj (show 5=5 from rfl),aj (show n=0+(n-0)*1 by omega),aj (aB _),aj (show 0+l.length*1≤0+(n-0)*1 by omega)];rfl
    have e3:lR F M c 5 1 1 b 0 l.length 0 n s.length (s.map bV)=gg (M.del b) c 5 1 (l.length+s.length) 0 false (l.map bV++s.map bV):=by
     unfold lR;rw[bW,ak (show¬Nat.add (Nat.add 0 l.length) s.length≤n by show¬0+l.length+s.length≤n;omega),cond_false,hmw];show oH (M.del b) c 5 1 (l.length+s.length) 0 false (s.map bV) (readB F M 1 l.length b 0)=_;rw[hrd];rfl
    refine⟨_,_,_,((zr hn0).trans e3).trans (grownEq _ _ _ hr (by rw[aF,List.length_map,List.length_map])),c,.inr ⟨by omega,by omega,l.length+s.length,⟨by rw[aF];exact ag _,by omega⟩,by rw[aF],?_⟩,(hg.del b ha).set c _ (by omega) (by omega) (by omega),by omega,fun x hx hxb=>?_,.inr (ag _)⟩
    ·rw[Tr.get_set,ac rfl,hmap]
    ·rw[ah _ _ (by omega),Tr.get_del,ab hxb]
def aI6(F:RO)(M:Mem)(c sz:Nat)(x y:V):RC:=xq sz (.c x) (.c y) F M c .e
theorem OL(sz:Nat)(x y:X)(M:Mem)(c:Nat)(t:T):eE (.cpy sz x y) (K Φ rd fn F) M c t=aI6 F M c sz (x.ev t) (y.ev t):=Eq.trans rfl (Eq.refl _)
theorem ZY(M:Mem)(c sz b o e k:Nat):aI6 F M c sz (.u b o 0 e k) .l0= .k (.i .i64 0) M c:=by
 show fN (bif Nat.ble 0 0 then 0 else 0) (fun n=>bif Nat.beq n 0 then RC.k (.i .i64 0) M c else aI7 M c n (.u b o 0 e k) (ri F M sz n .l0))=_
 rw[bo];rfl
end
theorem sH{Φ:Nat→Option CF}{rd:Option Nat}{fn:Nat}{F:RO}(base i mask j b:Nat)(blk:bv)(dst:Option aJ)(o:EO)(r:List (Nat×Nat×CO))(t:T)(M:Mem)(c:Nat)(reads:List (Nat×Nat))(R:DS→Prop)(hj:(mask/2^j%2==1)=true)(hb:wZ mask reads=true):
 kj base ((i,mask,.mk dst (.e o) none)::r) (K Φ rd fn F) (.mk t M c [(j,b,blk)] reads) R=BW (eE o (K Φ rd fn F) (M.set b blk) c t) F dst base r (K Φ rd fn F) t reads R:=by
 have hp:=gq hb
 have hj':testBit mask j=true:=by
  show Nat.beq (Nat.mod (Nat.div mask (Nat.pow 2 j)) 2) 1=true;rw[bI];exact aj (show mask/2^j%2=1 by simpa using hj)
 have hmg:dM mask [(j,b,blk)] M=(M.set b blk,[]):=by
  show(bif testBit mask j then(M.set b blk).force (fun M=>dM mask [] M)else _)=_;rw[hj',cond_true,Tr.force_eq];rfl
 have he:pX (K Φ rd fn F) base (i,mask,.mk dst (.e o) none) (.mk t M c [(j,b,blk)] reads)=lN F dst t [] reads [] (eE o (K Φ rd fn F) (M.set b blk) c t):=by
  show t8 o (K Φ rd fn F) mask dst t c reads (dM mask [(j,b,blk)] M)=_;rw[hmg];show oB o (K Φ rd fn F) dst t c [] reads (bD mask reads F (M.set b blk) [])=_;rw[hp];rfl
 apply propext
 rw[ed,he]
 cases hd:eE o (K Φ rd fn F) (M.set b blk) c t with
 |f=>exact⟨fun⟨s',h,_⟩=>(by cases h),False.elim⟩
 |k v M' c'=>
  have h2:lN F dst t [] reads [] (.k v M' c')=if bH M' F=true then some (DS.mk (setT t dst v) M' c' [] reads)else none:=by
   show(bif bH M' F&&bS F M' []then(aU [] M').force fun M=>(setT t dst v).force fun t=>some (DS.mk t M c' [] reads)else none)=_;cases hr:bH M' F with
   |false=>rfl
   |true=>
    show((aU [] M').force fun M=>(setT t dst v).force fun t=>some (DS.mk t M c' [] reads))=_;rw[Tr.force_eq,Tr.force_eq];rfl
  rw[h2];show _↔(bH M' F=true∧kj base r (K Φ rd fn F) (.mk (setT t dst v) M' c' [] reads) R);cases hr:bH M' F with
  |false=>exact⟨fun⟨s',h,_⟩=>(by simp at h),fun h=>(by cases h.1)⟩
  |true=>
   constructor
   ·rintro⟨s',h,q⟩;simp only[if_true]at h;obtain rfl:=ae h;exact⟨rfl,q⟩
   ·exact fun h=>⟨_,rfl,h.2⟩
section
variable{Φ:Nat→Option CF}{rd:Option Nat}{fn:Nat}{F:RO}
def jI(I:Nat→Nat→St→Prop)(n:Nat)(Q:Ex→St→Prop):Ex→St→Prop
 | .gto l,s=>∃m,m<n∧I m l s
 |e,s=>Q e s
theorem jJ(I:Nat→Nat→St→Prop)(n:Nat)(Q:Ex→St→Prop)(l:Nat)(s:St):jI I n Q (.gto l) s=∃m,m<n∧I m l s:=Eq.trans rfl (Eq.refl _)
theorem dG(I:Nat→Nat→St→Prop)(n:Nat)(Q:Ex→St→Prop)(s:St):jI I n Q .ret s=Q .ret s:=Eq.trans rfl (Eq.refl _)
theorem mJ(I:Nat→Nat→St→Prop)(n:Nat)(Q:Ex→St→Prop)(id:Nat)(s:St):jI I n Q (.ext id) s=Q (.ext id) s:=Eq.trans rfl (Eq.refl _)
theorem ga(b:CC)(k:Kn)(Q:Ex→St→Prop)(l:Nat)(s:St):qp b k Q (.gto l) s=Q (.gto l) s:=Eq.trans rfl (Eq.refl _)
theorem zV(id:Nat)(Q:Ex→St→Prop)(l:Nat)(s:St):mm id Q (.gto l) s=Q (.gto l) s:=Eq.trans rfl (Eq.refl _)
theorem iF(l:Nat)(k:Kn)(s:St)(Q:Ex→St→Prop):Wp (.goto l) k s Q=Q (.gto l) s:=by
 apply propext;constructor
 ·rintro⟨e,s',h,q⟩;have h':Rs.k (.gto l) s= .k e s':=h;injection h' with h1 h2
  subst h1 h2;exact q
 ·exact fun h=>⟨_,_,rfl,h⟩
theorem uy{tbl:CC}{Q:Ex→St→Prop}(I:Nat→Nat→St→Prop)(h:∀n l s,I n l s→ ∃c,gf l tbl=some c∧Wp c (K Φ rd fn F) s (jI I n Q)):
 ∀n b s,Wp b (K Φ rd fn F) s (jI I n Q)→Wp (.scope b tbl) (K Φ rd fn F) s Q:=by
 intro n
 induction n using Nat.strongRecOn with
 |_ n ih=>
  rintro b s ⟨e,s',he,q⟩;have h0:b8 (.scope b tbl) (K Φ rd fn F) s=fW tbl (K Φ rd fn F) (b8 b (K Φ rd fn F) s):=rfl;cases e with
  |gto l=>
   obtain⟨m,hm,hI⟩:=q;obtain⟨c,hc,hw⟩:=h m l s' hI;obtain⟨e2,s2,h2,q2⟩:=ih m hm c s' hw;refine⟨e2,s2,?_,q2⟩;rw[h0,he];show mI tbl (K Φ rd fn F) s' (gf l tbl)=_;rw[hc];show n9 (K Φ rd fn F) (.scope c tbl) s'=_;rw[←h2];exact oC Φ rd fn F (.scope c tbl) s'
  |nrm=>exact⟨_,_,by rw[h0,he];rfl,q⟩
  |ret=>exact⟨_,_,by rw[h0,he];rfl,q⟩
  |ext id=>exact⟨_,_,by rw[h0,he];rfl,q⟩
end
end
end Go.Proofs.YtmbpllipombieaaDoor.Ev
