/- What is proved here: pieces of the evaluator's soundness: if the evaluator comes to a value, the model's run comes to it, for every world and tape; no conditions beyond the hypotheses of each theorem. -/
import Derived.Test.YtmbpllipombieaaDoorEv3
import GoSem.ClaimChange
import Derived.Stop.LaidErr
set_option linter.unusedSimpArgs false
set_option linter.unusedVariables false
set_option linter.defProp false
set_option maxRecDepth 100000
namespace Go.Proofs.YtmbpllipombieaaDoor.Ev
open Go Go.RowKit Go.ChangeShapes
noncomputable section
inductive Ty where
 |bool|int (k:IntKind)|str|sl (e:Ty)|nil|cons (a b:Ty)
def Ty.D:Ty→Type
 | .bool=>Bool
 | .int _=>Int
 | .str=>List UInt8
 | .sl e=>List e.D
 | .nil=>Unit
 | .cons a b=>a.D×b.D
def Ty.size:Ty→Nat
 | .nil=>0
 | .cons a b=>a.size+b.size
 |_=>1
def Ty.hasSl:Ty→Bool
 | .sl _=>true
 | .cons a b=>a.hasSl||b.hasSl
 |_=>false
def Ty.deep:Ty→Bool
 | .sl e=>e.hasSl
 | .cons a b=>a.deep||b.deep
 |_=>false
def Rp(F:RO)(M:Mem)(c:Nat):(t:Ty)→List V→t.D→Prop
 | .bool,vs,x=>vs=[.b x]
 | .int k,vs,n=>(fun z:Int=>vs=[.i k z]∧k.min≤z∧z≤k.max) n
 | .str,vs,x=>(fun l:List UInt8=>vs=[sV l]∧l.length≤Go.maxLen) x
 | .sl e,vs,x=>(fun l:List e.D=>∃v es,vs=[v]∧cE F M c e.size v es∧l.length≤Go.maxLen∧es.length=l.length∧ ∀i (h:i<es.length) (h':i<l.length),Rp F M c e es[i] l[i]) x
 | .nil,vs,_=>vs=[]
 | .cons a b,vs,x=>∃v1 v2,vs=v1++v2∧Rp F M c a v1 x.1∧Rp F M c b v2 x.2
theorem Rp.len{F:RO}{M:Mem}{c:Nat}:∀{t:Ty} {vs:List V} {x:t.D},Rp F M c t vs x→vs.length=t.size
 | .bool,vs,x,h=>by obtain rfl:vs=[.b x]:=h;rfl
 | .int k,vs,x,h=>by obtain⟨rfl,_⟩:=h;rfl
 | .str,vs,x,h=>by obtain⟨rfl,_⟩:=h;rfl
 | .sl e,vs,x,h=>by obtain⟨v,es,rfl,_⟩:=h;rfl
 | .nil,vs,x,h=>by obtain rfl:vs=[]:=h;rfl
 | .cons a b,vs,x,h=>by
   obtain⟨v1,v2,rfl,h1,h2⟩:=h;rw[aH,h1.len,h2.len];rfl
mutual
def sk(P:Program):Ty→TypeId→Bool
 | .bool,t=>match P.underlying t with|some .bool=>true|_=>false
 | .int k,t=>match P.underlying t with|some (.int k')=>decide (k'=k)|_=>false
 | .str,t=>match P.underlying t with|some .string=>true|_=>false
 | .sl e,t=>match P.underlying t with|some (.slice te)=>decide (P.cellsOf te=e.size)&&sk P e te|_=>false
 | .nil,_=>false
 | .cons a b,t=>match P.underlying t with
   |some (.struct fs)=>decide (P.cellsOf t=a.size+b.size)&&match fs.toList with
    |f::r=>decide (f.offset=0)&&(decide (P.cellsOf f.type=a.size)&&(sk P a f.type&&HM P b r a.size))
    |[]=>false
   |_=>false
def HM(P:Program):Ty→List Field→Nat→Bool
 | .nil,[],_=>true
 | .cons a b,f::r,o=>decide (f.offset=o)&&(decide (P.cellsOf f.type=a.size)&&(sk P a f.type&&HM P b r (o+a.size)))
 |_,_,_=>false
end
theorem eM{α β:Type}{f:α→Option β}:∀{l:List α} {r:List β},l.mapM f=some r→r.length=l.length∧ ∀i (h:i<l.length) (h':i<r.length),f l[i]=some r[i]
 |[],r,h=>by
  rw[List.mapM_nil]at h;obtain rfl:[]=r:=ag h;exact⟨rfl,fun i h=>by cases h⟩
 |a::l,r,h=>by
  rw[List.mapM_cons]at h;cases h1:f a with
  |none=>rw[h1]at h;cases h
  |some b=>
   rw[h1]at h;have h':(l.mapM f).bind (fun bs=>some (b::bs))=some r:=h;cases h2:l.mapM f with
   |none=>rw[h2]at h';cases h'
   |some bs=>
    rw[h2]at h';obtain rfl:b::bs=r:=ag h';obtain⟨h3,h4⟩:=eM h2;refine⟨by simp[h3],fun i hi hi'=>?_⟩;cases i with
    |zero=>exact h1
    |succ i=>exact h4 i (by simpa using hi) (by simpa using hi')
def I6(C:Nat):Value→Prop
 | .slice (some a) 0 0=>(a.spot=none∧a.block<C)∨zD a<C
 |_=>True
def zt(C:Nat)(cs:List Value)(vs:List V):Prop:=cs.map (B6 C)=vs.map some
theorem zt.conc{C:Nat}:∀{cs:List Value} {vs:List V},zt C cs vs→aI E0 vs=cs∧gd (· <C) vs
 |[],[],_=>⟨rfl,trivial⟩
 |[],_::_,h=>by cases h
 |_::_,[],h=>by cases h
 |c::cs,v::vs,h=>by
  have h':B6 C c::cs.map (B6 C)=some v::vs.map some:=h;injection h' with h1 h2
  obtain⟨a1,a2⟩:=zt.conc (cs:=cs) (vs:=vs) h2;obtain⟨b1,b2⟩:=uC h1;exact⟨by rw[aI,a1,b1],b2,a2⟩
theorem zt.append{C:Nat}{cs cs':List Value}{vs vs':List V}(h:zt C cs vs)(h':zt C cs' vs'):zt C (cs++cs') (vs++vs'):=by
 unfold zt at *
 rw[List.map_append,List.map_append,h,h']
theorem zt.len{C:Nat}{cs:List Value}{vs:List V}(h:zt C cs vs):cs.length=vs.length:=by
 have:=congrArg List.length h
 simpa using this
theorem zt.get{C:Nat}{cs:List Value}{vs:List V}(h:zt C cs vs)(i:Nat)(hi:i<cs.length):B6 C cs[i]=vs[i]?:=by
 have:=congrArg (fun l:List (Option V)=>l[i]?) h
 simp only[List.getElem?_map]at this
 rw[List.getElem?_eq_getElem hi,List.getElem?_eq_getElem (by rw[←h.len];exact hi)]at this
 rw[List.getElem?_eq_getElem (by rw[←h.len];exact hi)]
 simpa using this
section
variable{H:Type}{enc:TypeId×Value→H}{P:Program}{W:World}{C:Nat}{sp:Nat→Bool}{held:Bool}
theorem Tv{r o:Nat}{cs:List Value}{vs:List V}(h:zt C cs vs)(hc:∀i (hi:i<cs.length),W.cell? ⟨r,o+i,none⟩=some cs[i]):dh (eF W C) .e r o vs:=by
 intro k hk
 have hk':k<cs.length:=by rw[h.len];exact hk
 have:=h.get k hk'
 rw[List.getElem?_eq_getElem hk]at this⊢
 exact HP (hc k hk') this
theorem wS{t:TypeId}{cs:List Value}{fuel:Nat}{r:DataW H×List MemPlace}(hu:P.underlying t=some .bool)(h:DataW.trod enc P W 0 sp held fuel t cs=some r):∃b,cs=[.bool b]:=by
 cases fuel with
 |zero=>cases h
 |succ fuel=>
  unfold DataW.trod at h;rw[hu]at h;split at h<;>first|(rename_i e;cases e;done)|cases h|skip
  all_goals simp_all
theorem AY{t:TypeId}{k:IntKind}{cs:List Value}{fuel:Nat}{r:DataW H×List MemPlace}(hu:P.underlying t=some (.int k))(h:DataW.trod enc P W 0 sp held fuel t cs=some r):∃n,cs=[.int k n]∧k.min≤n∧n≤k.max:=by
 cases fuel with
 |zero=>cases h
 |succ fuel=>
  unfold DataW.trod at h;rw[hu]at h;split at h<;>first|(rename_i e;cases e;done)|cases h|skip
  rename_i k0 k' n e;simp only[Option.some.injEq,TypeDesc.int.injEq]at e;subst e;split at h
  ·rename_i hk;obtain⟨rfl,hw⟩:=hk;have hw':(decide (k'.min≤n)&&decide (n≤k'.max))=true:=hw;simp only[aV,decide_eq_true_eq]at hw';exact⟨n,rfl,hw'⟩
  ·cases h
theorem AZ{t:TypeId}{cs:List Value}{fuel:Nat}{r:DataW H×List MemPlace}(hu:P.underlying t=some .string)(h:DataW.trod enc P W 0 sp held fuel t cs=some r):∃s:ByteArray,cs=[.string s]∧s.data.toList.length≤Go.maxLen:=by
 cases fuel with
 |zero=>cases h
 |succ fuel=>
  unfold DataW.trod at h;rw[hu]at h;split at h<;>first|(rename_i e;cases e;done)|cases h|skip
  rename_i s e;split at h
  ·rename_i hk;exact⟨s,rfl,by simpa using hk⟩
  ·cases h
theorem Gv{t te:TypeId}{cs:List Value}{fuel:Nat}{r:DataW H×List MemPlace}(hu:P.underlying t=some (.slice te))(h:DataW.trod enc P W 0 sp held fuel t cs=some r):
 cs=[.slice none 0 0]∨ ∃a len cap fuel',cs=[.slice (some a) len cap]∧len≤cap∧cap≤Go.maxLen∧
  (∀i,i<len→ ∃es x,W.cells? 0 (a.add (i*P.cellsOf te)) (P.cellsOf te)=some es∧DataW.trod enc P W 0 sp held fuel' te es=some x)∧
  (sp a.block=true→0<cap→ ∃es,W.cells? 0 a (P.cellsOf te)=some es):=by
 cases fuel with
 |zero=>cases h
 |succ fuel=>
  unfold DataW.trod at h;rw[hu]at h;split at h<;>first|(rename_i e;cases e;done)|cases h|skip
  ·exact .inl rfl
  ·rename_i e0 a len cap e;simp only[Option.some.injEq,TypeDesc.slice.injEq]at e;subst e;simp only at h;split at h
   ·rename_i hk;obtain⟨_,h1,h2⟩:=hk;cases hm:(List.range len).mapM fun i=>(W.cells? 0 (a.add (i*P.cellsOf te)) (P.cellsOf te)).bind (DataW.trod enc P W 0 sp held fuel te)with
    |none=>rw[hm]at h;cases h
    |some elems=>
     obtain⟨hl,hget⟩:=eM hm
     have hel:∀i,i<len→ ∃es x,W.cells? 0 (a.add (i*P.cellsOf te)) (P.cellsOf te)=some es∧DataW.trod enc P W 0 sp held fuel te es=some x:=fun i hi=>by
      have:=hget i (by simpa using hi) (by rw[hl];simpa using hi);simp only[List.getElem_range]at this;cases hc:W.cells? 0 (a.add (i*P.cellsOf te)) (P.cellsOf te)with
      |none=>rw[hc]at this;cases this
      |some es=>rw[hc]at this;exact⟨es,_,rfl,this⟩
     refine .inr ⟨a,len,cap,fuel,rfl,h1,h2,hel,fun hsp h0=>?_⟩;by_cases hlen:0<len
     ·obtain⟨es,_,he,_⟩:=hel 0 hlen;rw[Nat.zero_mul]at he;exact⟨es,by simpa [Addr.add]using he⟩
     ·rw[hm]at h;simp only[Option.bind_some,ac hsp]at h;cases hm2:(List.range (cap-len)).mapM fun j=>(W.cells? 0 (a.add ((len+j)*P.cellsOf te)) (P.cellsOf te)).bind (DataW.trod enc P W 0 sp held fuel te)with
      |none=>rw[hm2]at h;cases h
      |some rest=>
       obtain⟨g1,g2⟩:=eM hm2;rw[List.length_range]at g1;have:=g2 0 (by rw[List.length_range];omega) (by omega);simp only[List.getElem_range]at this;rw[show(len+0)*P.cellsOf te=0 by rw[show len=0 by omega];simp]at this;cases hc:W.cells? 0 (a.add 0) (P.cellsOf te)with
       |none=>rw[hc]at this;cases this
       |some es=>exact⟨es,by simpa [Addr.add]using hc⟩
   ·cases h
theorem Gw{t:TypeId}{fs:Array Field}{cs:List Value}{fuel:Nat}{r:DataW H×List MemPlace}(hu:P.underlying t=some (.struct fs))(h:DataW.trod enc P W 0 sp held fuel t cs=some r):
 cs.length=P.cellsOf t∧ ∃fuel',∀f∈fs.toList,∃x,DataW.trod enc P W 0 sp held fuel' f.type ((cs.drop f.offset).take (P.cellsOf f.type))=some x:=by
 cases fuel with
 |zero=>cases h
 |succ fuel=>
  have key:(if cs.length=P.cellsOf t then(fs.toList.mapM fun f=>DataW.trod enc P W 0 sp held fuel f.type ((cs.drop f.offset).take (P.cellsOf f.type))).map fun xs=>(DataW.agg (xs.map (·.1)),xs.flatMap (·.2))else none)=some r:=by
   unfold DataW.trod at h;rw[hu]at h;split at h<;>first|(rename_i e;cases e;done)|cases h|skip
   ·rename_i e;simp only[Option.some.injEq,TypeDesc.struct.injEq]at e;subst e;exact h
   ·exact(‹∀fs_1:Array Field,some (TypeDesc.struct fs)=some (TypeDesc.struct fs_1)→False› fs rfl).elim
  split at key
  ·rename_i hk;refine⟨hk,fuel,fun f hf=>?_⟩;rw[bv]at key;obtain⟨xs,hm,_⟩:=key;obtain⟨hl,hget⟩:=eM hm;obtain⟨i,hi,rfl⟩:=List.getElem_of_mem hf;exact⟨_,hget i hi (by rw[hl];exact hi)⟩
  ·cases key
theorem IP{a:Addr}{n c:Nat}(h1:a.spot=none)(h2:a.block<C):B6 C (.slice (some a) n c)=some (.l a.block a.off n c):=by
 show(if a.spot=none∧a.block<C then some (V.l a.block a.off n c)else _)=_
 rw[ac ⟨h1,h2⟩]
theorem zM{a:Addr}{n:Nat}{cs:List Value}(hc:W.cells? 0 a n=some cs)(hn:0<n):a.spot=none∧a.block<W.heap.size:=by
 unfold World.cells? at hc
 rw[ac (aD _)]at hc
 obtain⟨h1,h2⟩:=eM hc
 rw[List.length_range]at h1
 have:=h2 0 (by rw[List.length_range];exact hn) (by omega)
 rw[List.getElem_range,show a.add 0=a from rfl]at this
 unfold World.cell? at this
 split at this
 ·rename_i hh;split at this
  ·cases this
  ·rename_i hs;refine⟨?_,(Array.getElem?_eq_some_iff.1 hh).1⟩;cases hsp:a.spot with
   |none=>rfl
   |some k=>rw[hsp]at hs;simp at hs
 ·cases this
theorem TM{sz:Nat}{a:Addr}{len cap:Nat}{Q:List Value→List V→Prop}(hs:a.spot=none)(hb:a.block<C)(hlc:len≤cap)
 (h:∀i,i<len→ ∃cs vs,W.cells? 0 (a.add (i*sz)) sz=some cs∧zt C cs vs∧Q cs vs):
 ∃es:List (List V),es.length=len∧cE (eF W C) .e C sz (.l a.block a.off len cap) es∧ ∀i (hi:i<es.length),∃cs,Q cs es[i]:=by
 obtain⟨b,o,sp⟩:=a
 obtain rfl:sp=none:=hs
 have hget:∀i,i<len→ ∃cs vs,zt C cs vs∧Q cs vs∧cs.length=sz∧ ∀k (hk:k<cs.length),W.cell? ⟨b,o+i*sz+k,none⟩=some cs[k]:=by
  intro i hi;obtain⟨cs,vs,h1,h2,h3⟩:=h i hi;rw[Addr.add_eq]at h1;unfold World.cells? at h1;rw[ac (aD _)]at h1;obtain⟨h4,h5⟩:=eM h1;rw[List.length_range]at h4;refine⟨cs,vs,h2,h3,h4,fun k hk=>?_⟩;have:=h5 k (by rw[List.length_range];omega) hk;rw[List.getElem_range,Addr.add_eq]at this;exact this
 have key:∀n,n≤len→ ∃es:List (List V),es.length=n∧(∀e∈es,e.length=sz)∧dh (eF W C) .e b o es.flatten∧ ∀i (hi:i<es.length),∃cs,Q cs es[i]:=by
  intro n
  induction n with
  |zero=>intro _;exact⟨[],rfl,fun e he=>(by cases he),fun k hk=>(by simp at hk),fun i hi=>(by simp at hi)⟩
  |succ n ih=>
   intro hn;obtain⟨es,h1,h2,h3,h4⟩:=ih (by omega);obtain⟨cs,vs,g1,g2,g3,g4⟩:=hget n (by omega);have hvl:vs.length=sz:=by rw[←g1.len];exact g3
   have h2':∀e∈es++[vs],e.length=sz:=by
    intro e he;rw[List.mem_append,List.mem_singleton]at he;rcases he with he|rfl
    ·exact h2 e he
    ·exact hvl
   have hfl:es.flatten.length=n*sz:=by rw[fe h2,h1]
   refine⟨es++[vs],by simp[h1],h2',?_,fun i hi=>?_⟩
   ·intro k hk;rw[List.flatten_append]at hk⊢;simp only[List.flatten_cons,List.flatten_nil,bH,aH]at hk⊢;by_cases hk1:k<es.flatten.length
    ·rw[List.getElem?_append_left hk1];exact h3 k hk1
    ·rw[List.getElem?_append_right (by omega),hfl];have hr:=Tv (o:=o+n*sz) g1 g4 (k-n*sz) (by omega);rw[←hr];congr 1;omega
   ·by_cases hi1:i<es.length
    ·rw[dC hi1];exact h4 i hi1
    ·rw[dB (by omega)];have:i-es.length=0:=by simp at hi;omega
     simp only[this,List.getElem_cons_zero];exact⟨cs,g2⟩
 obtain⟨es,h1,h2,h3,h4⟩:=key len (aj _)
 refine⟨es,h1,⟨h2,.inr ⟨b,o,.inl ⟨cap,by omega,by rw[h1]⟩,hb,h3⟩⟩,h4⟩
theorem Xt{α:Type}{n:Nat}{Q:Nat→α→Prop}(h:∀i,i<n→ ∃x,Q i x):∃l:List α,l.length=n∧ ∀i (hi:i<l.length),Q i l[i]:=by
 induction n with
 |zero=>exact⟨[],rfl,fun i hi=>(by simp at hi)⟩
 |succ n ih=>
  obtain⟨l,h1,h2⟩:=ih fun i hi=>h i (by omega);obtain⟨x,hx⟩:=h n (by omega);refine⟨l++[x],by simp[h1],fun i hi=>?_⟩;by_cases hi1:i<l.length
  ·rw[dC hi1];exact h2 i hi1
  ·rw[dB (by omega)];have e:i=n:=by simp at hi;omega
   subst e;simp only[h1,Nat.sub_self,List.getElem_cons_zero];exact hx
theorem Ty.size_pos{P:Program}{ty:Ty}{t:TypeId}(h:sk P ty t=true):0<ty.size:=by
 induction ty generalizing t with
 |cons a b iha _=>
  rw[sk]at h;split at h
  ·simp only[aV]at h;obtain⟨_,h⟩:=h;split at h
   ·simp only[aV]at h;have:=iha h.2.2.1;show 0<a.size+b.size;omega
   ·cases h
  ·cases h
 |nil=>cases h
 |_=>exact Nat.one_pos
mutual
theorem sE(hsp:∀b,sp b=true)(hC:W.heap.size≤C):∀(ty:Ty) (t:TypeId) (cs:List Value) (fuel:Nat) (r:DataW H×List MemPlace),sk P ty t=true→DataW.trod enc P W 0 sp held fuel t cs=some r→
 (ty.hasSl=true→ ∀v∈cs,I6 C v)→(ty.deep=true→ ∀a x,W.cell? a=some x→I6 C x)→ ∃vs x,zt C cs vs∧Rp (eF W C) .e C ty vs x
 | .bool,t,cs,fuel,r,hb,h,h1,h2=>by
   rw[sk]at hb;split at hb
   ·rename_i hu;obtain⟨b,rfl⟩:=wS hu h;exact⟨[.b b],b,rfl,rfl⟩
   ·cases hb
 | .int k,t,cs,fuel,r,hb,h,h1,h2=>by
   rw[sk]at hb;split at hb
   ·rename_i k' hu;obtain rfl:=bW hb;obtain⟨n,rfl,hn⟩:=AY hu h;exact⟨[.i k' n],n,rfl,rfl,hn⟩
   ·cases hb
 | .str,t,cs,fuel,r,hb,h,h1,h2=>by
   rw[sk]at hb;split at hb
   ·rename_i hu;obtain⟨s,rfl,hs⟩:=AZ hu h;exact⟨[sV s.data.toList],s.data.toList,rfl,rfl,hs⟩
   ·cases hb
 | .sl e,t,cs,fuel,r,hb,h,h1,h2=>by
   rw[sk]at hb;split at hb
   ·rename_i te hu;simp only[aV,decide_eq_true_eq]at hb;obtain⟨hsz,hb⟩:=hb;have hpos:=Ty.size_pos hb;rcases Gv hu h with rfl|⟨a,len,cap,fuel',rfl,hlc,hcap,hel,hfirst⟩
    ·exact⟨[.l0],[],rfl,.l0,[],rfl,⟨fun e he=>(by cases he),.inl ⟨rfl,.inl rfl⟩⟩,aD _,rfl,fun i hi=>(by cases hi)⟩
    ·have hz:=h1 rfl _ (List.mem_singleton.2 rfl);rw[hsz]at hel hfirst;have hok:(a.spot=none∧a.block<C)∨(len=0∧cap=0∧zD a<C∧ ¬(a.spot=none∧a.block<C)):=by
      by_cases h0:0<cap
      ·obtain⟨es,he⟩:=hfirst (hsp _) h0;obtain⟨g1,g2⟩:=zM he hpos;exact .inl ⟨g1,Nat.lt_of_lt_of_le g2 hC⟩
      ·obtain rfl:cap=0:=by omega
       obtain rfl:len=0:=by omega
       by_cases hq:a.spot=none∧a.block<C
       ·exact .inl hq
       ·exact .inr ⟨rfl,rfl,hz.resolve_left hq,hq⟩
     rcases hok with hok|⟨rfl,rfl,he,hq⟩
     rotate_left
     ·refine⟨[.ue (zD a) 1 0],[],?_,.ue (zD a) 1 0,[],rfl,⟨fun e he=>(by cases he),.inl ⟨rfl,.inr ⟨_,_,_,rfl⟩⟩⟩,aD _,rfl,fun i hi=>(by cases hi)⟩;show[B6 C _]=[some _]
      congr 1
      show(if a.spot=none∧a.block<C then _ else if 0=0∧0=0∧zD a<C then some (V.ue (zD a) 1 0)else none)=_;rw[ab hq,ac ⟨rfl,rfl,he⟩]
     obtain⟨es,hl,hS,hQ⟩:=TM (cap:=cap) (C:=C) (Q:=fun _ vs=>∃x,Rp (eF W C) .e C e vs x) hok.1 hok.2 hlc (fun i hi=>by
      obtain⟨cs',x,hc,ht⟩:=hel i hi
      obtain⟨vs,y,hv,hR⟩:=sE hsp hC e te cs' fuel' x hb ht
       (fun he v hv=>by
        obtain⟨j,hj,rfl⟩:=List.getElem_of_mem hv;unfold World.cells? at hc;rw[ac (aD _)]at hc;obtain⟨h4,h5⟩:=eM hc;exact h2 he _ _ (h5 j (by rw[List.length_range]at h4⊢;omega) hj))
       (fun he=>h2 (by
        have key:∀t:Ty,t.deep=true→t.hasSl=true:=by
         intro t
         induction t with
         |cons a b iha ihb=>
          intro hd;have hd':(a.deep||b.deep)=true:=hd;show(a.hasSl||b.hasSl)=true;rw[Bool.or_eq_true]at hd'⊢;exact hd'.imp iha ihb
         |sl e _=>intro _;rfl
         |_=>intro hd;cases hd
        exact key e he))
      exact⟨cs',vs,hc,hv,y,hR⟩)
     obtain⟨xs,hxl,hx⟩:=Xt (n:=es.length) (Q:=fun i x=>∀h:i<es.length,Rp (eF W C) .e C e es[i] x) (fun i hi=>by
      obtain⟨_,x,hR⟩:=hQ i hi;exact⟨x,fun _=>hR⟩)
     refine⟨[.l a.block a.off len cap],xs,?_,.l a.block a.off len cap,es,rfl,hS,?_,hxl.symm,fun i hi hi'=>hx i hi' hi⟩
     ·show[B6 C _]=[some _]
      rw[IP hok.1 hok.2]
     ·show List.length xs≤_;omega
   ·cases hb
 | .nil,t,cs,fuel,r,hb,h,h1,h2=>by cases hb
 | .cons a b,t,cs,fuel,r,hb,h,h1,h2=>by
   rw[sk]at hb;split at hb
   ·rename_i fs hu;simp only[aV,decide_eq_true_eq]at hb;obtain⟨hsz,hb⟩:=hb;obtain⟨hlen,fuel',hf⟩:=Gw hu h;split at hb
    ·rename_i f rest hfs;simp only[aV,decide_eq_true_eq]at hb;obtain⟨ho,hfa,hta,hrest⟩:=hb;rw[hfs]at hf;obtain⟨x,hx⟩:=hf f (bX ..);rw[ho,hfa]at hx;have hs:(a.hasSl=true→ ∀v∈(cs.drop 0).take a.size,I6 C v):=fun ha v hv=>h1 (by show(a.hasSl||b.hasSl)=true;rw[ha];rfl) v (List.mem_of_mem_drop (List.mem_of_mem_take hv));obtain⟨v1,x1,hv1,hR1⟩:=sE hsp hC a f.type _ fuel' x hta hx hs (fun ha=>h2 (by show(a.deep||b.deep)=true;rw[ha];rfl))
     obtain⟨v2,x2,hv2,hR2⟩:=G7 hsp hC b rest cs fuel' a.size hrest (by rw[hlen,hsz]) (fun f' hf'=>hf f' (bJ _ hf'))
      (fun hb' v hv=>h1 (by show(a.hasSl||b.hasSl)=true;rw[hb'];simp) v (List.mem_of_mem_drop hv)) (fun hb'=>h2 (by show(a.deep||b.deep)=true;rw[hb'];simp))
     refine⟨v1++v2,(x1,x2),?_,v1,v2,rfl,hR1,hR2⟩;have:=hv1.append hv2
     rwa [List.drop_zero,List.take_append_drop]at this
    ·cases hb
   ·cases hb
theorem G7(hsp:∀b,sp b=true)(hC:W.heap.size≤C):∀(ty:Ty) (fs:List Field) (cs:List Value) (fuel o:Nat),HM P ty fs o=true→cs.length=o+ty.size→
 (∀f∈fs,∃x,DataW.trod enc P W 0 sp held fuel f.type ((cs.drop f.offset).take (P.cellsOf f.type))=some x)→
 (ty.hasSl=true→ ∀v∈cs.drop o,I6 C v)→(ty.deep=true→ ∀a x,W.cell? a=some x→I6 C x)→ ∃vs x,zt C (cs.drop o) vs∧Rp (eF W C) .e C ty vs x
 | .nil,[],cs,fuel,o,hb,hl,hf,h1,h2=>by
   refine⟨[],(),?_,rfl⟩;rw[List.drop_eq_nil_of_le (by have:(Ty.nil).size=0:=rfl;omega)];rfl
 | .nil,_::_,cs,fuel,o,hb,hl,hf,h1,h2=>by cases hb
 | .bool,fs,cs,fuel,o,hb,hl,hf,h1,h2=>by cases fs<;>cases hb
 | .int k,fs,cs,fuel,o,hb,hl,hf,h1,h2=>by cases fs<;>cases hb
 | .str,fs,cs,fuel,o,hb,hl,hf,h1,h2=>by cases fs<;>cases hb
 | .sl e,fs,cs,fuel,o,hb,hl,hf,h1,h2=>by cases fs<;>cases hb
 | .cons a b,[],cs,fuel,o,hb,hl,hf,h1,h2=>by cases hb
 | .cons a b,f::rest,cs,fuel,o,hb,hl,hf,h1,h2=>by
   rw[HM]at hb;simp only[aV,decide_eq_true_eq]at hb;obtain⟨ho,hfa,hta,hrest⟩:=hb;have hl':cs.length=o+(a.size+b.size):=hl;obtain⟨x,hx⟩:=hf f (bX ..);rw[ho,hfa]at hx;obtain⟨v1,x1,hv1,hR1⟩:=sE hsp hC a f.type _ fuel x hta hx (fun ha v hv=>h1 (by show(a.hasSl||b.hasSl)=true;rw[ha];rfl) v (List.mem_of_mem_take hv)) (fun ha=>h2 (by show(a.deep||b.deep)=true;rw[ha];rfl))
   obtain⟨v2,x2,hv2,hR2⟩:=G7 hsp hC b rest cs fuel (o+a.size) hrest (by omega) (fun f' hf'=>hf f' (bJ _ hf'))
    (fun hb' v hv=>h1 (by show(a.hasSl||b.hasSl)=true;rw[hb'];simp) v (by rw[←List.drop_drop]at hv;exact List.mem_of_mem_drop hv)) (fun hb'=>h2 (by show(a.deep||b.deep)=true;rw[hb'];simp))
   refine⟨v1++v2,(x1,x2),?_,v1,v2,rfl,hR1,hR2⟩;have:=hv1.append hv2
   rwa [←List.drop_drop,List.take_append_drop]at this
end
theorem D6{W W':World}(h:∀i,i<W.heap.size→W'.heap[i]?=W.heap[i]?){a:Addr}{n:Nat}{cs:List Value}(hc:W.cells? 0 a n=some cs):W'.cells? 0 a n=some cs:=by
 unfold World.cells? at hc⊢
 rw[ac (aD _)]at hc⊢
 have key:∀(l:List Nat) (r:List Value),(l.mapM fun i=>W.cell? (a.add i))=some r→(l.mapM fun i=>W'.cell? (a.add i))=some r:=by
  intro l
  induction l with
  |nil=>intro r hr;exact hr
  |cons x l ih=>
   intro r hr;rw[List.mapM_cons]at hr⊢;cases h1:W.cell? (a.add x)with
   |none=>rw[h1]at hr;cases hr
   |some v=>
    have e:W'.cell? (a.add x)=some v:=by
     unfold World.cell? at h1⊢;split at h1
     ·rename_i hh;rw[h _ (Array.getElem?_eq_some_iff.1 hh).1,hh];exact h1
     ·cases h1
    rw[h1]at hr;rw[e];cases h2:l.mapM fun i=>W.cell? (a.add i)with
    |none=>rw[h2]at hr;cases hr
    |some vs=>
     rw[h2]at hr;rw[ih vs h2];exact hr
 exact key _ _ hc
theorem RW{W:World}{a:Addr}{n:Nat}{cs:List Value}(hc:W.cells? 0 a n=some cs)(hn:0<n):a.block<W.heap.size:=by
 unfold World.cells? at hc
 rw[ac (aD _)]at hc
 obtain⟨h1,h2⟩:=eM hc
 rw[List.length_range]at h1
 have:=h2 0 (by rw[List.length_range];exact hn) (by omega)
 rw[List.getElem_range]at this
 unfold World.cell? at this
 split at this
 ·rename_i hh;have:=(Array.getElem?_eq_some_iff.1 hh).1;unfold Addr.add at this
  simpa using this
 ·cases this
theorem pg{α β:Type}{f g:α→Option β}:∀{l:List α} {r:List β},l.mapM f=some r→(∀x∈l,∀y,f x=some y→g x=some y)→l.mapM g=some r
 |[],r,h,_=>h
 |a::l,r,h,hfg=>by
  rw[List.mapM_cons]at h⊢;cases h1:f a with
  |none=>rw[h1]at h;cases h
  |some b=>
   rw[h1]at h;rw[hfg a (bX ..) b h1];cases h2:l.mapM f with
   |none=>rw[h2]at h;cases h
   |some bs=>
    rw[h2]at h;rw[pg h2 fun x hx=>hfg x (bJ _ hx)];exact h
theorem Em{t:TypeId}{fs:Array Field}{cs:List Value}{fuel:Nat}(hu:P.underlying t=some (.struct fs))(hlen:cs.length=P.cellsOf t):DataW.trod enc P W 0 sp held (fuel+1) t cs=
 (fs.toList.mapM fun f=>DataW.trod enc P W 0 sp held fuel f.type ((cs.drop f.offset).take (P.cellsOf f.type))).map fun xs=>(DataW.agg (xs.map (·.1)),xs.flatMap (·.2)):=by
 rw[DataW.trod_step]
 unfold DataW.trodStep
 rw[hu]
 clear hu
 split
 all_goals first
  |(rename_i e;simp only[Option.some.injEq,TypeDesc.struct.injEq]at e;subst e;rw[ac hlen];done)
  |(rename_i e;cases e;done)
  |exact(‹∀fs_1:Array Field,some (TypeDesc.struct fs)=some (TypeDesc.struct fs_1)→False› fs rfl).elim
  |skip
mutual
theorem nb{W W':World}(hW:∀i,i<W.heap.size→W'.heap[i]?=W.heap[i]?):∀(ty:Ty) (t:TypeId) (cs:List Value) (fuel:Nat) (r:DataW H×List MemPlace),sk P ty t=true→
 DataW.trod enc P W 0 (fun _=>true) held fuel t cs=some r→DataW.trod enc P W' 0 (fun b=>decide (b<W.heap.size)) held fuel t cs=some r
 |ty,t,cs,0,r,hb,h=>by cases h
 | .bool,t,cs,fuel+1,r,hb,h=>by
   rw[sk]at hb;split at hb
   ·rename_i hu;obtain⟨b,rfl⟩:=wS hu h;simp only[DataW.trod,hu]at h⊢;exact h
   ·cases hb
 | .int k,t,cs,fuel+1,r,hb,h=>by
   rw[sk]at hb;split at hb
   ·rename_i k' hu;obtain rfl:=bW hb;obtain⟨n,rfl,hn⟩:=AY hu h;simp only[DataW.trod,hu]at h⊢;exact h
   ·cases hb
 | .str,t,cs,fuel+1,r,hb,h=>by
   rw[sk]at hb;split at hb
   ·rename_i hu;obtain⟨s,rfl,hs⟩:=AZ hu h;simp only[DataW.trod,hu]at h⊢;exact h
   ·cases hb
 | .sl e,t,cs,fuel+1,r,hb,h=>by
   rw[sk]at hb;split at hb
   ·rename_i te hu;simp only[aV,decide_eq_true_eq]at hb;obtain⟨hsz,hb⟩:=hb;have hpos:=Ty.size_pos hb;rcases Gv hu h with rfl|⟨a,len,cap,fuel',rfl,hlc,hcap,hel⟩
    ·simp only[DataW.trod,hu]at h⊢;exact h
    ·simp only[DataW.trod,hu]at h⊢;rw[ac ⟨aD _,hlc,hcap⟩]at h⊢
     have elem:∀i y,(W.cells? 0 (a.add (i*P.cellsOf te)) (P.cellsOf te)).bind (DataW.trod enc P W 0 (fun _=>true) held fuel te)=some y→
      (W'.cells? 0 (a.add (i*P.cellsOf te)) (P.cellsOf te)).bind (DataW.trod enc P W' 0 (fun b=>decide (b<W.heap.size)) held fuel te)=some y:=by
      intro i y hy;cases hc:W.cells? 0 (a.add (i*P.cellsOf te)) (P.cellsOf te)with
      |none=>rw[hc]at hy;cases hy
      |some es=>
       rw[hc]at hy;rw[D6 hW hc];exact nb hW e te es fuel y hb hy
     cases hm:(List.range len).mapM fun i=>(W.cells? 0 (a.add (i*P.cellsOf te)) (P.cellsOf te)).bind (DataW.trod enc P W 0 (fun _=>true) held fuel te)with
     |none=>rw[hm]at h;cases h
     |some elems=>
      rw[hm]at h;rw[pg hm fun i _=>elem i];simp only[Option.bind_some,if_true]at h⊢;by_cases hblk:a.block<W.heap.size
      ·rw[ah hblk];simp only[if_true];cases hm2:(List.range (cap-len)).mapM fun j=>(W.cells? 0 (a.add ((len+j)*P.cellsOf te)) (P.cellsOf te)).bind (DataW.trod enc P W 0 (fun _=>true) held fuel te)with
       |none=>rw[hm2]at h;cases h
       |some rest=>
        rw[hm2]at h;rw[pg hm2 fun i _=>elem (len+i)];exact h
      ·rw[af hblk];have h0:cap-len=0:=by
        by_cases h0:cap-len=0
        ·exact h0
        ·exfalso;cases hm2:(List.range (cap-len)).mapM fun j=>(W.cells? 0 (a.add ((len+j)*P.cellsOf te)) (P.cellsOf te)).bind (DataW.trod enc P W 0 (fun _=>true) held fuel te)with
         |none=>rw[hm2]at h;cases h
         |some rest=>
          obtain⟨g1,g2⟩:=eM hm2;rw[List.length_range]at g1;have:=g2 0 (by rw[List.length_range];omega) (by omega);cases hc:W.cells? 0 (a.add ((len+(List.range (cap-len))[0]'(by rw[List.length_range];omega))*P.cellsOf te)) (P.cellsOf te)with
          |none=>rw[hc]at this;cases this
          |some es=>
           have:=RW hc (by omega);unfold Addr.add at this;split at this<;>exact hblk this
       rw[h0]at h;simp only[List.range_zero,List.mapM_nil]at h;exact h
   ·cases hb
 | .nil,t,cs,fuel+1,r,hb,h=>by cases hb
 | .cons a b,t,cs,fuel+1,r,hb,h=>by
   rw[sk]at hb;split at hb
   ·rename_i fs hu;simp only[aV,decide_eq_true_eq]at hb;obtain⟨hsz,hb⟩:=hb;obtain⟨hlen,_⟩:=Gw hu h;rw[Em hu hlen]at h⊢;split at hb
    ·rename_i f rest hfs;simp only[aV,decide_eq_true_eq]at hb;obtain⟨ho,hfa,hta,hrest⟩:=hb;rw[bv]at h;obtain⟨xs,hm,rfl⟩:=h;rw[hfs]at hm⊢
     rw[pg hm fun g hg y hy=>by
      rcases bq.1 hg with rfl|hg
      ·exact nb hW a _ _ fuel y hta hy
      ·exact wl hW b rest fuel a.size hrest g hg _ y hy]
     rfl
    ·cases hb
   ·cases hb
theorem wl{W W':World}(hW:∀i,i<W.heap.size→W'.heap[i]?=W.heap[i]?):∀(ty:Ty) (fs:List Field) (fuel o:Nat),HM P ty fs o=true→ ∀f∈fs,∀(cs:List Value) (y:DataW H×List MemPlace),
 DataW.trod enc P W 0 (fun _=>true) held fuel f.type cs=some y→DataW.trod enc P W' 0 (fun b=>decide (b<W.heap.size)) held fuel f.type cs=some y
 | .nil,[],fuel,o,hb,f,hf,cs,y,h=>by cases hf
 | .nil,_::_,fuel,o,hb,f,hf,cs,y,h=>by cases hb
 | .bool,fs,fuel,o,hb,f,hf,cs,y,h=>by cases fs<;>cases hb
 | .int k,fs,fuel,o,hb,f,hf,cs,y,h=>by cases fs<;>cases hb
 | .str,fs,fuel,o,hb,f,hf,cs,y,h=>by cases fs<;>cases hb
 | .sl e,fs,fuel,o,hb,f,hf,cs,y,h=>by cases fs<;>cases hb
 | .cons a b,[],fuel,o,hb,f,hf,cs,y,h=>by cases hb
 | .cons a b,g::rest,fuel,o,hb,f,hf,cs,y,h=>by
   rw[HM]at hb;simp only[aV,decide_eq_true_eq]at hb;obtain⟨ho,hfa,hta,hrest⟩:=hb;rcases bq.1 hf with rfl|hf
   ·exact nb hW a _ _ fuel y hta h
   ·exact wl hW b rest fuel _ hrest f hf cs y h
end
def Ty.arg:Ty→List V→V
 | .cons _ _,vs=> .g vs
 |_,v::_=>v
 |_,[]=>undef
def Jf(F:RO)(C:Nat):List Ty→List V→Prop
 |[],as=>as=[]
 |ty::r,as=>∃vs x a',as=ty.arg vs::a'∧Rp F .e C ty vs x∧Jf F C r a'
def IM(P:Program):List Ty→List TypeId→Bool
 |[],[]=>true
 |ty::r,t::ts=>sk P ty t&&IM P r ts
 |_,_=>false
theorem An{base:Nat}{u:TypeId}{v:Value}(h:Cell.okWide P W .any base u v)(hC:W.heap.size≤C):I6 C v:=by
 unfold I6
 split
 ·rename_i a;have key:W.has P .any base a 0 0∨ ∃e n,W.has P .any base a e n:=by
   unfold Cell.okWide at h;split at h<;>first|(rename_i e;cases e;done)|skip
   ·rename_i hne;unfold Cell.ok at h;split at h<;>first|(rename_i e;cases e;done)|skip
    all_goals first
     |exact h.elim
     |skip
    all_goals (rename_i e1 e2;first|cases e2|skip)
    exact .inr ⟨_,_,h.2.2⟩
  have:∃e n,W.has P .any base a e n:=by
   rcases key with h|h
   ·exact⟨0,0,h⟩
   ·exact h
  obtain⟨e,n,_,h1,row,cells,h2,_⟩:=this;refine .inl ⟨h1,?_⟩;unfold World.shape? at h2;split at h2
  ·rename_i hh;exact Nat.lt_of_lt_of_le (Array.getElem?_eq_some_iff.1 hh).1 hC
  ·cases h2
 ·trivial
theorem XD{base:Nat}{t:TypeId}{v:Value}(h:Value.okWide P W .any base t v)(hC:W.heap.size≤C):∀x∈v.cells.toList,I6 C x:=by
 intro x hx
 unfold Value.okWide at h
 have agg:(∃cs,v= .agg cs∧cs.size=P.cellsOf t∧Row.okWide P W .any base t cs)→I6 C x:=by
  rintro⟨cs,rfl,_,ts,_,_,hcell⟩;obtain⟨i,hi,rfl⟩:=List.getElem_of_mem hx
  obtain⟨u,_,hu⟩:=hcell i _ (by
   show cs[i]?=some _;rw[Array.getElem?_eq_getElem (by simpa [Value.cells]using hi)])
  exact An hu hC
 split at h
 ·exact agg h
 ·exact agg h
 ·have hv:v.cells=#[v]∨ ∃cs,v= .agg cs:=by
   cases v<;>first|exact .inl rfl|exact .inr ⟨_,rfl⟩
  rcases hv with hv|⟨cs,rfl⟩
  ·rw[hv]at hx;obtain rfl:x=v:=by simpa using hx
   exact An h hC
  ·exfalso;unfold Cell.okWide at h;split at h<;>first|(rename_i e1 e2;cases e2;done)|skip
   unfold Cell.ok at h;split at h<;>first|(rename_i e1 e2;cases e2;done)|exact h
theorem aO9{base:Nat}{t:TypeId}{v:Value}{fs:Array Field}(h:Value.okWide P W .any base t v)(hu:P.underlying t=some (.struct fs)):∃cs,v= .agg cs:=by
 unfold Value.okWide at h
 rw[hu]at h
 obtain⟨cs,e,_⟩:=h
 exact⟨cs,e⟩
theorem WF{ty:Ty}{t:TypeId}{base:Nat}{v:Value}(h:Value.okWide P W .any base t v)(hb:sk P ty t=true)(hn:∀a b,ty≠ .cons a b):v.cells=#[v]:=by
 have hu:∀fs,P.underlying t≠some (.struct fs):=by
  intro fs hu;cases ty with
  |cons a b=>exact hn a b rfl
  |nil=>cases hb
  |_=>rw[sk,hu]at hb;cases hb
 have hu2:∀n e,P.underlying t≠some (.array n e):=by
  intro n e hu;cases ty with
  |cons a b=>exact hn a b rfl
  |nil=>cases hb
  |_=>rw[sk,hu]at hb;cases hb
 unfold Value.okWide at h
 split at h
 ·exact(hu _ (by assumption)).elim
 ·exact(hu2 _ _ (by assumption)).elim
 ·cases v<;>first|rfl|skip
  exfalso;unfold Cell.okWide at h;split at h<;>first|(rename_i e1 e2;cases e2;done)|skip
  unfold Cell.ok at h;split at h<;>first|(rename_i e1 e2;cases e2;done)|exact h
theorem aP2(hsp:∀b,sp b=true){ty:Ty}{t:TypeId}{base:Nat}{v:Value}{d:DataW H}{ps:List MemPlace}(hb:sk P ty t=true)(h:DataW.Trod enc P W 0 sp held t v d ps)(hv:Value.okWide P W .any base t v)(hC:W.heap.size≤C)
 (hd:ty.deep=true→ ∀a x,W.cell? a=some x→I6 C x):∃vs x,conc E0 (ty.arg vs)=v∧bd (· <C) (ty.arg vs)∧Rp (eF W C) .e C ty vs x:=by
 obtain⟨fuel,h⟩:=h
 obtain⟨vs,x,h1,h2⟩:=sE hsp hC ty t _ fuel _ hb h (fun _=>XD hv hC) hd
 obtain⟨c1,c2⟩:=h1.conc
 refine⟨vs,x,?_,?_,h2⟩
 ·cases ty with
  |cons a b=>
   rw[sk]at hb;split at hb
   ·rename_i fs hu;obtain⟨cs,rfl⟩:=aO9 hv hu;show Value.agg (aI E0 vs).toArray=_;rw[c1];simp[Value.cells]
   ·cases hb
  |nil=>cases hb
  |_=>
   have hc:=WF hv hb (by intro a b e;cases e);rw[hc]at c1 h1;have hl:=h1.len
   match vs,hl with
   |[w],_=>
    have:[conc E0 w]=[v]:=c1;injection this
 ·cases ty with
  |cons a b=>exact c2
  |nil=>cases hb
  |_=>
   cases vs with
   |nil=>trivial
   |cons w r=>exact c2.1
theorem F8(hsp:∀b,sp b=true){base:Nat}(hC:W.heap.size≤C):∀{BF:List Ty} {ts:List TypeId} {vs:List Value} {ds:List (DataW H)} {ps:List MemPlace},IM P BF ts=true→DataW.TrodAll enc P W 0 sp held ts vs ds ps→
 (∀(j:Nat) t v,ts[j]?=some t→vs[j]?=some v→Value.okWide P W .any base t v)→(BF.any Ty.deep=true→ ∀a x,W.cell? a=some x→I6 C x)→ ∃as,aI E0 as=vs∧gd (· <C) as∧Jf (eF W C) C BF as
 |[],[],[],ds,ps,hb,h,hv,hd=>⟨[],rfl,trivial,rfl⟩
 |[],[],_::_,ds,ps,hb,h,hv,hd=>by cases ds<;>cases h
 |[],_::_,vs,ds,ps,hb,h,hv,hd=>by cases hb
 |_::_,[],vs,ds,ps,hb,h,hv,hd=>by cases hb
 |ty::BF,t::ts,[],ds,ps,hb,h,hv,hd=>by cases ds<;>cases h
 |ty::BF,t::ts,v::vs,[],ps,hb,h,hv,hd=>by cases h
 |ty::BF,t::ts,v::vs,d::ds,ps,hb,h,hv,hd=>by
  have hb':(sk P ty t&&IM P BF ts)=true:=hb;rw[aV]at hb';obtain⟨p,q,h1,h2,_⟩:=h;obtain⟨ws,x,g1,g2,g3⟩:=aP2 hsp hb'.1 h1 (hv 0 t v rfl rfl) hC (fun hh=>hd (by rw[List.any_cons,hh];rfl));obtain⟨as,a1,a2,a3⟩:=F8 hsp hC hb'.2 h2 (fun j t v ht hv'=>hv (j+1) t v ht hv') (fun hh=>hd (by rw[List.any_cons,hh];simp));exact⟨ty.arg ws::as,by rw[aI,g1,a1],⟨g2,a2⟩,ws,x,as,rfl,g3,a3⟩
theorem zF{W':World}(hW:∀i,i<W.heap.size→W'.heap[i]?=W.heap[i]?):∀{BF:List Ty} {ts:List TypeId} {vs:List Value} {ds:List (DataW H)} {ps:List MemPlace},IM P BF ts=true→
 DataW.TrodAll enc P W 0 (fun _=>true) held ts vs ds ps→DataW.TrodAll enc P W' 0 (fun b=>decide (b<W.heap.size)) held ts vs ds ps
 |[],[],[],[],ps,hb,h=>h
 |[],[],[],_::_,ps,hb,h=>by cases h
 |[],[],_::_,ds,ps,hb,h=>by cases ds<;>cases h
 |[],_::_,vs,ds,ps,hb,h=>by cases hb
 |_::_,[],vs,ds,ps,hb,h=>by cases hb
 |ty::BF,t::ts,[],ds,ps,hb,h=>by cases ds<;>cases h
 |ty::BF,t::ts,v::vs,[],ps,hb,h=>by cases h
 |ty::BF,t::ts,v::vs,d::ds,ps,hb,h=>by
  have hb':(sk P ty t&&IM P BF ts)=true:=hb;rw[aV]at hb';obtain⟨p,q,⟨fuel,h1⟩,h2,e⟩:=h;exact⟨p,q,⟨fuel,nb hW ty t _ fuel _ hb'.1 h1⟩,zF hW hb'.2 h2,e⟩
theorem SX{W:World}{C:Nat}(hC:W.heap.size≤C)(hk:1000≤C):cR (eF W C) .e C:=by
 refine⟨fun _ _=>rfl,fun b hb=>?_,fun _ _=>rfl,hk⟩
 rw[mT,Array.getElem?_eq_none (by omega)];rfl
def Wr:Value→Nat
 | .slice (some a) 0 0=>zD a+1
 |_=>0
theorem zK:∀l:List Value,∃B,∀x∈l,Wr x≤B
 |[]=>⟨0,fun x hx=>by cases hx⟩
 |v::l=>by
  obtain⟨B,hB⟩:=zK l;refine⟨max (Wr v) B,fun x hx=>?_⟩;rcases bq.1 hx with rfl|hx
  ·exact Nat.le_max_left _ _
  ·exact bm (hB x hx) (Nat.le_max_right _ _)
theorem zJ:∀l:List Obj,∃B,∀cs t f,Obj.cells cs t f∈l→ ∀x∈cs.toList,Wr x≤B
 |[]=>⟨0,fun cs t f h=>by cases h⟩
 |o::l=>by
  obtain⟨B,hB⟩:=zJ l;obtain⟨B',hB'⟩:∃B',∀cs t f,o=Obj.cells cs t f→ ∀x∈cs.toList,Wr x≤B':=by
   cases o with
   |cells cs t f=>
    obtain⟨B',h⟩:=zK cs.toList;exact⟨B',fun cs' t' f' e=>by injection e with e1 e2 e3;subst e1;exact h⟩
   |_=>exact⟨0,fun cs t f e=>by cases e⟩
  refine⟨max B B',fun cs t f h x hx=>?_⟩;rcases bq.1 h with h|h
  ·exact bm (hB' cs t f h.symm x hx) (Nat.le_max_right _ _)
  ·exact bm (hB cs t f h x hx) (Nat.le_max_left _ _)
theorem aR9(W:World):∃C,1000≤C∧W.heap.size≤C∧ ∀a x,W.cell? a=some x→I6 C x:=by
 obtain⟨B,hB⟩:=zJ W.heap.toList
 refine⟨max 1000 (max W.heap.size B),Nat.le_max_left _ _,bm (Nat.le_max_left _ _) (Nat.le_max_right _ _),fun a x hx=>?_⟩
 unfold World.cell? at hx
 split at hx
 ·rename_i cs t f hh;split at hx
  ·cases hx
  ·have hm:Obj.cells cs t f∈W.heap.toList:=by
    obtain⟨h1,h2⟩:=Array.getElem?_eq_some_iff.1 hh;rw[←h2];exact Array.getElem_mem_toList h1
   have hxm:x∈cs.toList:=by
    obtain⟨h1,h2⟩:=Array.getElem?_eq_some_iff.1 hx;rw[←h2];exact Array.getElem_mem_toList h1
   have hb:=hB cs t f hm x hxm;unfold I6;split
   ·rename_i a';have hb':zD a'+1≤B:=hb;right;have:=Nat.le_max_right 1000 (max W.heap.size B);have:=Nat.le_max_right W.heap.size B;omega
   ·trivial
 ·cases hx
end
section
variable{Φ:Nat→Option CF}{rd:Option Nat}{fn:Nat}{F:RO}
theorem kD{M:Mem}(b:Nat):∀{F:RO},bT M F=true→bT (M.del b) F=true
 |[],_=>rfl
 |(b',x)::F,h=>by
  rw[dV,aV]at h;rw[dV,kD b h.2,Tr.get_del];split
  ·rfl
  ·rw[h.1];rfl
def bu8(o:Option V)(p:Option aQ)(base:Nat)(r:List (Nat×Nat×CO))(k:Kn)(t:T)(M:Mem)(c:Nat)(reads:List (Nat×Nat))(R:DS→Prop):Prop:=match o with
 |some v=>ly base r k (.mk (setT t p v) M c [] reads) R
 |none=>False
theorem bM4(v:V)(p:Option aQ)(base:Nat)(r:List (Nat×Nat×CO))(k:Kn)(t:T)(M:Mem)(c:Nat)(reads:List (Nat×Nat))(R:DS→Prop):bu8 (some v) p base r k t M c reads R=ly base r k (.mk (setT t p v) M c [] reads) R:=Eq.trans rfl (Eq.refl _)
theorem c01{base i mask:Nat}{dst:Option aQ}{o:OK}{g:aQ}{want:Bool}{r:List (Nat×Nat×CO)}{k:Kn}{t:T}{M:Mem}{c:Nat}{pend:List (Nat×Nat×bK)}{reads:List (Nat×Nat)}{R:DS→Prop}(hg:cJ t g= .b want):
 ly base ((i,mask,.mk dst o (some (g,want)))::r) k (.mk t M c pend reads) R=ly base ((i,mask,.mk dst o none)::r) k (.mk t M c pend reads) R:=by
 have hw:wanted t (some (g,want))=true:=by
  show gH want (cJ t g)=_;rw[hg];cases want<;>rfl
 have hs:rZ k base (i,mask,.mk dst o (some (g,want))) (.mk t M c pend reads)=rZ k base (i,mask,.mk dst o none) (.mk t M c pend reads):=by
  show(bif wanted t (some (g,want))then _ else _)=_;rw[hw];rfl
 apply propext
 rw[eS,eS,hs]
theorem c00{base i mask:Nat}{dst:Option aQ}{o:OK}{g:aQ}{want:Bool}{r:List (Nat×Nat×CO)}{k:Kn}{t:T}{M:Mem}{c:Nat}{pend:List (Nat×Nat×bK)}{reads:List (Nat×Nat)}{R:DS→Prop}(hg:cJ t g= .b (!want)):
 ly base ((i,mask,.mk dst o (some (g,want)))::r) k (.mk t M c pend reads) R=ly base r k (.mk (setT t dst undef) M c pend reads) R:=by
 have hw:wanted t (some (g,want))=false:=by
  show gH want (cJ t g)=_;rw[hg];cases want<;>rfl
 have hs:rZ k base (i,mask,.mk dst o (some (g,want))) (.mk t M c pend reads)=some (.mk (setT t dst undef) M c pend reads):=by
  show(bif wanted t (some (g,want))then _ else(setT t dst undef).force fun t=>some (DS.mk t M c pend reads))=_;rw[hw];show(setT t dst undef).force (fun t=>some (DS.mk t M c pend reads))=_;rw[Tr.force_eq]
 apply propext
 rw[eS,hs]
 constructor
 ·rintro⟨s',h,q⟩;obtain rfl:=ag h;exact q
 ·exact fun q=>⟨_,rfl,q⟩
theorem c02{base i mask:Nat}{dst:Option aQ}{o:OK}{g:aQ}{want:Bool}{r:List (Nat×Nat×CO)}{k:Kn}{t:T}{M:Mem}{c:Nat}{pend:List (Nat×Nat×bK)}{reads:List (Nat×Nat)}{R:DS→Prop}(hg:cJ t g=undef):
 ly base ((i,mask,.mk dst o (some (g,want)))::r) k (.mk t M c pend reads) R=ly base r k (.mk (setT t dst undef) M c pend reads) R:=by
 have hw:wanted t (some (g,want))=false:=by
  show gH want (cJ t g)=_;rw[hg];rfl
 have hs:rZ k base (i,mask,.mk dst o (some (g,want))) (.mk t M c pend reads)=some (.mk (setT t dst undef) M c pend reads):=by
  show(bif wanted t (some (g,want))then _ else(setT t dst undef).force fun t=>some (DS.mk t M c pend reads))=_;rw[hw];show(setT t dst undef).force (fun t=>some (DS.mk t M c pend reads))=_;rw[Tr.force_eq]
 apply propext
 rw[eS,hs]
 constructor
 ·rintro⟨s',h,q⟩;obtain rfl:=ag h;exact q
 ·exact fun q=>⟨_,rfl,q⟩
theorem aV1(n:Nat)(b o:Nat)(M:Mem){vs:List V}(h:loadN F M b o n=some vs)(t:T)(x:X)(hx:x.ev t= .p b o):lq (.ldn n x) F M t= .r (.g vs) b:=by
 have hblk:∃blk,look F M b=some blk:=by
  unfold loadN at h;cases hl:look F M b with
  |none=>rw[hl]at h;cases h
  |some blk=>exact⟨blk,rfl⟩
 obtain⟨blk,hb⟩:=hblk
 have q:∀F' M',loadN F' M' b o n=some vs→cX (.ldn n x) F' M' t= .r (.g vs) b:=by
  intro F' M' h';show(sa (x.ev t) .f fun b o=>qgb b (loadN F' M' b o n))=_;rw[hx];show qgb b (loadN F' M' b o n)=_;rw[h'];rfl
 show Ht (.ldn n x) F M t (cX (.ldn n x) F M t)=_
 rw[q F M h]
 show S1 (.ldn n x) t b (look F M b)=_
 rw[hb]
 show Ay b (cX (.ldn n x) [(b,blk)] .e t)=_
 have h':loadN [(b,blk)] .e b o n=some vs:=by
  unfold loadN at h⊢;rw[hb]at h;rw[aY (show(Tr.e:Mem).get b=none from rfl),cO,ac rfl];exact h
 rw[q _ _ h'];rfl
def bJ5(n:Nat)(X:V)(F:RO)(M:Mem):QR:=lq (.ldn n (.c X)) F M .e
def bJ6(b:Nat):Option (List V)→QR
 |some vs=> .r (.g vs) b
 |none=> .f
theorem HU(b:Nat)(vs:List V):bJ6 b (some vs)= .r (.g vs) b:=Eq.trans rfl (Eq.refl _)
theorem WR(n:Nat)(x:X)(M:Mem)(t:T):lq (.ldn n x) F M t=bJ5 n (x.ev t) F M:=Eq.trans rfl (Eq.refl _)
theorem aV0(n b o:Nat)(M:Mem):bJ5 n (.p b o) F M=bJ6 b (loadN F M b o n):=by
 cases h:loadN F M b o n with
 |some vs=>exact aV1 n b o M h .e _ rfl
 |none=>
  show Ht (.ldn n (.c (.p b o))) F M .e (qgb b (loadN F M b o n))=_;rw[h];rfl
theorem bF7(c a b:X)(M:Mem)(t:T):lq (.pk c a b) F M t=oV (pkV (c.ev t) (a.ev t) (b.ev t)):=by
 refine(fw ?_).trans (congrArg oV (bS0 (F:=F) c a b M t))
 intro F' M'
 show(FB (c.ev t) QR.f fun x=>Bool.rec (motive:=fun _=>QR) (.v (b.ev t)) (.v (a.ev t)) x)=oV (FB (c.ev t) QR.f fun x=>Bool.rec (motive:=fun _=>QR) (.v (b.ev t)) (.v (a.ev t)) x).val
 cases c.ev t with
 |b x=>cases x<;>rfl
 |_=>rfl
theorem bF8(op:UnOp)(x:X)(M:Mem)(t:T):lq (.un op x) F M t=oV (unV op (x.ev t)):=by
 refine(fw ?_).trans (congrArg oV (bS1 (F:=F) op x M t))
 intro F' M'
 refine jQ ?_
 show(cX (.un op x) F' M' t= .f∨_)
 cases op with
 |neg=>
  show((u3 (x.ev t) QR.f fun k n=>vI k (wr k (Int.sub 0 n)))= .f∨ ∃y,(u3 (x.ev t) QR.f fun k n=>vI k (wr k (Int.sub 0 n)))= .v y);cases x.ev t with
  |i k n=>exact .inr ⟨_,g9 _ _⟩
  |_=>exact .inl rfl
 |not=>
  show((FB (x.ev t) QR.f fun b=>vB (qm b))= .f∨ ∃y,(FB (x.ev t) QR.f fun b=>vB (qm b))= .v y);cases x.ev t with
  |b b=>exact .inr ⟨_,la _⟩
  |_=>exact .inl rfl
 |xor=>
  show((u3 (x.ev t) QR.f fun k n=>jc k (Nat.xor (Nat.sub (Nat.pow 2 (kZ k)) 1) (oE k n)))= .f∨ ∃y,(u3 (x.ev t) QR.f fun k n=>jc k (Nat.xor (Nat.sub (Nat.pow 2 (kZ k)) 1) (oE k n)))= .v y);cases x.ev t with
  |i k n=>exact .inr ⟨_,g9 _ _⟩
  |_=>exact .inl rfl
 |plus=>exact .inl rfl
def uo:Sh→Bool
 | .ptr=>false
 | .agg _=>false
 |_=>true
def rA:List (Nat×Sh)→Bool
 |[]=>true
 |(_,s)::r=>uo s&&rA r
def IB:Sh→Bool
 | .ptr=>false
 | .agg ks=>rA ks
 |_=>true
theorem Sg{sh:Sh}(h:uo sh=true)(F':RO)(M M':Mem)(lit:Bool)(x y:V):Fl F' M' sh lit x y=Fl F M sh lit x y:=by
 cases sh<;>first|rfl|cases h
theorem tK(F':RO)(M M':Mem)(xs ys:List V):∀{ks:List (Nat×Sh)},rA ks=true→kV F' M' xs ys ks=kV F M xs ys ks
 |[],_=>rfl
 |(o,s)::r,h=>by
  have h':(uo s&&rA r)=true:=h;rw[aV]at h';rw[nX,nX,tK F' M M' xs ys h'.2]
  congr 1
  cases xs[o]? with
  |none=>rfl
  |some x=>
   cases ys[o]? with
   |none=>rfl
   |some y=>exact Sg h'.1 F' M M' false x y
theorem Sk{sh:Sh}(h:IB sh=true)(F':RO)(M M':Mem)(lit:Bool)(x y:V):zh F' M' sh lit x y=zh F M sh lit x y:=by
 cases sh with
 |agg ks=>
  show wh F' M' ks x y=wh F M ks x y;unfold wh;cases x<;>first|rfl|skip
  cases y<;>first|rfl|skip
  exact tK F' M M' _ _ h
 |ptr=>cases h
 |_=>rfl
theorem bF3(neg:Bool)(sh:Sh)(lit:Bool)(x y:X)(M:Mem)(t:T)(h:IB sh=true):lq (.eq neg sh lit x y) F M t=oV (Xy neg (zh F M sh lit (x.ev t) (y.ev t))):=by
 refine(fw ?_).trans (congrArg oV (bR2 (F:=F) neg sh lit x y M t))
 intro F' M'
 show wI neg (zh F' M' sh lit (x.ev t) (y.ev t))=oV (wI neg (zh [] .e sh lit (x.ev t) (y.ev t))).val
 rw[Sk (F:=[]) h F' .e M']
 refine jQ ?_
 cases zh [] .e sh lit (x.ev t) (y.ev t)with
 |none=>exact .inl rfl
 |some r=>exact .inr ⟨_,la _⟩
theorem TG(ks:List (Nat×Sh)):IB (.agg ks)=rA ks:=rfl
theorem IF:rA []=true:=Eq.trans rfl (Eq.refl _)
theorem Ee(o:Nat)(s:Sh)(r:List (Nat×Sh)):rA ((o,s)::r)=(uo s&&rA r):=rfl
theorem IC:uo .int=true:=Eq.trans rfl (Eq.refl _)
theorem Ed:uo .bool=true:=Eq.trans rfl (Eq.refl _)
theorem ID:uo .str=true:=Eq.trans rfl (Eq.refl _)
theorem TH:IB .int=true:=Eq.trans rfl (Eq.refl _)
theorem IE:IB .bool=true:=Eq.trans rfl (Eq.refl _)
theorem TI:IB .str=true:=Eq.trans rfl (Eq.refl _)
theorem Sj(lit:Bool)(M:Mem)(a b:Bool):zh F M .bool lit (.b a) (.b b)=some (decide (a=b)):=zU (F:=F) lit M a b
theorem bF5(off:Nat)(x:X)(M:Mem)(t:T):lq (.fa off x) F M t=oV (match x.ev t with| .p b o=>some (.p b (o+off))|_=>none):=by
 refine(fw ?_).trans (congrArg oV (bR4 (F:=F) off x M t))
 intro F' M'
 refine jQ ?_
 show((sa (x.ev t) QR.f fun b o=>uX b (Nat.add o off))= .f∨ ∃y,(sa (x.ev t) QR.f fun b o=>uX b (Nat.add o off))= .v y)
 cases x.ev t with
 |p b o=>exact .inr ⟨.p b (o+off),by show uX b (o+off)=_;unfold uX;rw[bG]⟩
 |_=>exact .inl rfl
theorem aS7(x:X)(M:Mem)(t:T):lq (.ln .slice x) F M t=oV (pf (x.ev t)):=by
 refine(fw ?_).trans (congrArg oV ((b07 (F:=F) .slice x M t).trans (bK0 (F:=F) M _)))
 intro F' M'
 refine jQ ?_
 show(FQ (DA (x.ev t))= .f∨ ∃y,FQ (DA (x.ev t))= .v y)
 cases DA (x.ev t)with
 |none=>exact .inl rfl
 |some n=>exact .inr ⟨_,rfl⟩
theorem aS8(x:X)(M:Mem)(t:T):lq (.ln .str x) F M t=oV (lnV .str F M (x.ev t)):=by
 refine(fw ?_).trans (congrArg oV (b07 (F:=F) .str x M t))
 intro F' M'
 refine jQ ?_
 show((wC (x.ev t) QR.f fun n _=> .v (.i .i64 (.ofNat n)))= .f∨ ∃y,(wC (x.ev t) QR.f fun n _=>QR.v (.i .i64 (.ofNat n)))= .v y)
 cases x.ev t with
 |s n x=>exact .inr ⟨_,rfl⟩
 |_=>exact .inl rfl
theorem aS4(x i:X)(M:Mem)(t:T):lq (.ixS x i) F M t=oV (nn (x.ev t) (i.ev t)):=by
 refine(fw ?_).trans (congrArg oV (aJ1 (F:=F) x i M t))
 intro F' M'
 refine jQ ?_
 show((wC (x.ev t) QR.f fun n s=>Option.rec (motive:=fun _=>QR) .f (fun i=>oe n s i) (rX (i.ev t)))= .f∨ ∃y,(wC (x.ev t) QR.f fun n s=>Option.rec (motive:=fun _=>QR) .f (fun i=>oe n s i) (rX (i.ev t)))= .v y)
 cases x.ev t with
 |s n x=>
  show(Option.rec (motive:=fun _=>QR) .f (fun i=>oe n x i) (rX (i.ev t))= .f∨ ∃y,(Option.rec (motive:=fun _=>QR) .f (fun i=>oe n x i) (rX (i.ev t)):QR)= .v y);cases rX (i.ev t)with
  |none=>exact .inl rfl
  |some k=>
   show(Bool.rec (motive:=fun _=>QR) .f (fN (Nat.mod (Nat.div x (md k)) 256) fun c=> .v (.i .u8 (.ofNat c))) (Nat.blt k n)= .f∨ ∃y,(Bool.rec (motive:=fun _=>QR) .f (fN (Nat.mod (Nat.div x (md k)) 256) fun c=> .v (.i .u8 (.ofNat c))) (Nat.blt k n):QR)= .v y);cases Nat.blt k n with
   |false=>exact .inl rfl
   |true=>exact .inr ⟨_,by show fN _ _=_;rw[bG]⟩
 |_=>exact .inl rfl
def uO(u:List (Option V))(i:Nat):Option V:=(u[i]?).join
def gW(I:Nat→St→Prop)(n:Nat)(Q:Ex→St→Prop):Ex→St→Prop
 | .nrm,s=>∃m,m<n∧I m s
 |e,s=>Q e s
theorem E8(I:Nat→St→Prop)(n:Nat)(Q:Ex→St→Prop)(s:St):gW I n Q .nrm s=∃m,m<n∧I m s:=Eq.trans rfl (Eq.refl _)
theorem E9(I:Nat→St→Prop)(n:Nat)(Q:Ex→St→Prop)(s:St):gW I n Q .ret s=Q .ret s:=Eq.trans rfl (Eq.refl _)
theorem E7(I:Nat→St→Prop)(n:Nat)(Q:Ex→St→Prop)(s:St)(id:Nat):gW I n Q (.ext id) s=Q (.ext id) s:=Eq.trans rfl (Eq.refl _)
theorem bw{b:CC}{Q:Ex→St→Prop}(I:Nat→St→Prop)(h:∀n s,I n s→Wp b (K Φ rd fn F) s (gW I n Q)):∀n s,I n s→Wp (.loop b) (K Φ rd fn F) s Q:=
 IU I fun n s hs=>(h n s hs).mono fun e s' he=>by cases e<;>exact he
end
section
variable{Φ:Nat→Option CF}{rd:Option Nat}{fn:Nat}{F:RO}
theorem qJ{M:Mem}{b o ty n fz:Nat}{ex str:Bool}{d vs:List V}{t:T}(hM:M.get b=some (.cells ty n ex fz str d t))(h1:o+vs.length≤n)(h2:fz≤o)(h3:aK vs=true):
 bR M b o vs=some (M.set b (.cells ty n ex fz str d (bP vs o t))):=by
 show Option.rec (motive:=fun _=>Option Mem) none (fun blk=>n7 M b o vs blk) (M.get b)=_
 rw[hM]
 show(Bool.rec (motive:=fun _=>Option Mem) none (Bool.rec (motive:=fun _=>Option Mem) none (Bool.rec (motive:=fun _=>Option Mem) none (eJ M b o vs ty n ex fz str d t) (aK vs)) (Nat.ble fz o)) (Nat.ble (Nat.add o vs.length) n))=_
 rw[bb,bb,bb,cG,cG,ah (show Nat.add o vs.length≤n from h1),ah h2,h3]
 simp only[if_true]
 unfold eJ
 rw[Tr.force_eq,Tr.force_eq]
def qW(M:Mem)(c0 c b ty sz cap:Nat)(v:V)(es:List (List V)):Prop:=
 (∀e∈es,e.length=sz)∧es.length≤cap∧c0≤b∧b<c∧v= .l b 0 es.length cap∧ ∃d t,M.get b=some (.cells ty (cap*sz) true 0 false d t)∧ ∀k,k<es.flatten.length→cell (cap*sz) d t k=es.flatten[k]?
theorem qW.sl{M:Mem}{c0 c b ty sz cap:Nat}{v:V}{es:List (List V)}(h:qW M c0 c b ty sz cap v es):cE F M c sz v es:=by
 obtain⟨h0,h1,h2,h3,rfl,d,t,hM,hc⟩:=h
 refine⟨h0,.inr ⟨b,0,.inl ⟨cap,h1,rfl⟩,h3,fun k hk=>?_⟩⟩
 rw[Nat.zero_add]
 unfold Ev.load1
 rw[ax hM]
 exact hc k hk
theorem qW.up{M M':Mem}{c0 c c' b ty sz cap:Nat}{v:V}{es:List (List V)}(h:qW M c0 c b ty sz cap v es)(hc:c≤c')(hb:b<c→M'.get b=M.get b):qW M' c0 c' b ty sz cap v es:=by
 obtain⟨h0,h1,h2,h3,rfl,d,t,hM,hcell⟩:=h
 exact⟨h0,h1,h2,by omega,rfl,d,t,by rw[hb h3];exact hM,hcell⟩
theorem qW.gr{M M':Mem}{c0 c c' b ty sz cap:Nat}{v:V}{es:List (List V)}(h:qW M c0 c b ty sz cap v es)(hg:Gr c M c' M'):qW M' c0 c' b ty sz cap v es:=h.up hg.le fun hb=>hg.old b hb
def ch2(ty sz bytes:Nat)(zero:List V)(l c:V)(b:Nat):Option (V×bK):=jD (.mks ty sz bytes zero (.c l) (.c c)) b .e
theorem Wh(ty sz bytes:Nat)(zero:List V)(l c:X)(b:Nat)(t:T):jD (.mks ty sz bytes zero l c) b t=ch2 ty sz bytes zero (l.ev t) (c.ev t) b:=Eq.trans rfl (Eq.refl _)
def jB(F:RO)(M:Mem)(lo c sz:Nat)(v:V)(es:List (List V)):Prop:=∀M':Mem,(∀b,lo≤b→b<c→M'.get b=M.get b)→cE F M' c sz v es
theorem jB.sl{M:Mem}{lo c sz:Nat}{v:V}{es:List (List V)}(h:jB F M lo c sz v es):cE F M c sz v es:=h M fun _ _ _=>rfl
theorem jB.up{M M':Mem}{lo lo' c c' sz:Nat}{v:V}{es:List (List V)}(h:jB F M lo c sz v es)(hc:c≤c')(hl:lo'≤lo)(hM:∀b,lo≤b→b<c→M'.get b=M.get b):jB F M' lo' c' sz v es:=by
 intro M2 h2
 have h3:=h M2 fun b h1 h4=>(h2 b (by omega) (by omega)).trans (hM b h1 h4)
 rcases h3 with⟨a,b|⟨b,o,hv,hb,hcs⟩⟩
 ·exact⟨a,.inl b⟩
 ·exact⟨a,.inr ⟨b,o,hv,by omega,hcs⟩⟩
theorem jB.gr{M M':Mem}{lo c c' sz:Nat}{v:V}{es:List (List V)}(h:jB F M lo c sz v es)(hg:Gr c M c' M'):jB F M' lo c' sz v es:=h.up hg.le (aj _) fun b _ hb=>hg.old b hb
theorem aX.own{M:Mem}{c0 c b ty sz:Nat}{v:V}{es:List (List V)}(h:aX M c0 c b ty sz v es):jB F M c0 c sz v es:=by
 intro M' hM
 refine aX.sl (c0:=c0) (b:=b) (ty:=ty) (M:=M') ?_
 rcases h with⟨h0,h|⟨h1,h2,rfl,h3⟩⟩
 ·exact⟨h0,.inl h⟩
 ·exact⟨h0,.inr ⟨h1,h2,rfl,by rw[hM b h1 h2];exact h3⟩⟩
theorem cR.put{M:Mem}{c b:Nat}{x y:bK}(h:cR F M c)(hb:b<c)(hx:M.get b=some x):cR F (M.set b y) c:=by
 refine⟨fun b' hb'=>?_,h.hiF,fun b' hb'=>?_,h.ge⟩
 ·rw[ak _ _ (by omega)];exact h.hiM b' hb'
 ·have:b'≠b:=by
   intro e;subst e;rw[h.ap b' hb']at hx;cases hx
  rw[ak _ _ this];exact h.ap b' hb'
theorem aC{M:Mem}{b ty:Nat}{l:List V}(h:M.get b=some (ae ty l))(o:Nat)(vs:List V)(h1:o+vs.length≤l.length)(h2:aK vs=true):bR M b o vs=some (M.set b (ae ty (over l o vs))):=by
 have:=rB M b o ty l vs h1 h2
 rwa [←cq h]at this
theorem au{M:Mem}{b ty:Nat}{l:List V}(h:M.get b=some (ae ty l))(o:Nat):load1 F M b o=l[o]?:=by
 rw[cq h];exact tZ M b o ty l
theorem aP{M:Mem}{b ty:Nat}{l:List V}(h:M.get b=some (ae ty l))(n:Nat)(hn:l.length=n):loadN F M b 0 n=some l:=by
 rw[cq h,cN M b 0 n ty l (by omega),List.drop_zero,←hn,List.take_length]
theorem IR(a b:CC)(k:Kn)(t:T)(d:List Nat)(M:Mem)(c:Nat)(Q:Ex→St→Prop):Wp (.cond (.c (.b true)) a b) k (.mk t d M c) Q=Wp a k (.mk t d M c) Q:=Bd rfl
theorem IQ(a b:CC)(k:Kn)(t:T)(d:List Nat)(M:Mem)(c:Nat)(Q:Ex→St→Prop):Wp (.cond (.c (.b false)) a b) k (.mk t d M c) Q=Wp b k (.mk t d M c) Q:=Bc rfl
end
theorem ai{a b:Prop}(x:a)(y:b):a∧b:=⟨x,y⟩
def WL:=ai @Yq (ai @Rz (ai @w7 (ai @aG3 (ai @E6 (ai @dV (ai @ak (ai @Tr.get_e (ai @yp (ai @S9 (ai @ix (ai @br1 (ai @ct8 (ai @aX9 (ai @aX8 (ai @XC (ai @bF6 (ai @bF2 (ai @aS2 (ai @bC8 (ai @bF4 (ai @aS5 (ai @bJ4 (ai @SL (ai @aS3 (ai @bR6 (ai @bK0 (ai @Fv (ai @Ah (ai @o6 (ai @SO (ai @yU (ai @AH (ai @TC (ai @TB (ai @br6 (ai @br7 (ai @GD (ai @Yr (ai @Vl (ai @CY (ai @CZ (ai @CW (ai @I0 (ai @I3 (ai @HZ (ai @br5 (ai @cu4 (ai @cu2 (ai @cu3 (ai @c38 (ai @c06 (ai @c05 (ai @c07 (ai @Bd (ai @Bc (ai @cq2 (ai @cq0 (ai @cq1 (ai @bM5 (ai @jT (ai @IA (ai @cs0 (ai @bS0 (ai @bM2 (ai @bM1 (ai @b06 (ai @xY (ai @aP8 (ai @aP6 (ai @aP7 (ai @aP5 (ai @aP4 (ai @aQ0 (ai @bS1 (ai @b04 (ai @b07 (ai @lnS (ai @aJ1 (ai @bR7 (ai @bR8 (ai @bJ3 (ai @bJ8 (ai @tZ (ai @bR4 (ai @yf (ai @X7 (ai @Yy (ai @Hp (ai @ev_t (ai @ev_c (ai @Xa (ai @Sm (ai @Tr.setP_h (ai @Tr.setP_l (ai @Tr.setP_r (ai @aT8 (ai @aU0 (ai @aT9 (ai @aU1 (ai @Se (ai @Sf (ai @cg7 (ai @Is (ai @aY9 (ai @D8 (ai @SZ (ai @T0 (ai @Bool.not_true (ai @Bool.not_false (ai @Bool.false_eq_true (ai @Bool.true_eq_false (ai @decide_true (ai @decide_false (ai @Td (ai @SW (ai @HD (ai @HG (ai @HK (ai @HJ (ai @Dk (ai @HH (ai @HL (ai @Di (ai @HI (ai @Dj (ai @HE (ai @Dh (ai @HF (ai @bO (ai @av (ai @Xh (ai @Xj (ai @Xn (ai @Xm (ai @SC (ai @Xk (ai @Xo (ai @SB (ai @Xl (ai @Xi (ai @SA (ai @Bool.and_true (ai @Bool.true_and (ai @X9 (ai @zZ (ai @HB (ai @tM (ai @T5 (ai @I8 (ai @Nat.zero_add (ai @and_self (ai @and_true (ai @true_and (ai @aI9 (ai @og (ai @aJ0 (ai @bR5 (ai @bR3 (ai @bR1 (ai @Hd (ai @Hy (ai @Hx (ai @nX (ai @aV8 (ai @aV9 (ai @bR2 (ai @X3 (ai @X5 (ai @WZ (ai @zU (ai @c37 (ai @WC (ai @bR9 (ai @Y1 (ai @Y0 (ai @Ai (ai @SQ (ai @cN (ai @rB (ai @Ei (ai @I4 (ai @Wc (ai @Wg (ai @Uh (ai @qi (ai @Xw (ai @Xx (ai @aV7 (ai @Nat.add_assoc (ai @Vp (ai @aJ2 (ai @cr7 (ai @We (ai @Sl (ai @qc (ai @DI (ai @me (ai @Hk (ai @aJ3 (ai @aV3 (ai @cM (ai @iL (ai @Fm (ai @X6 (ai @c01 (ai @c00 (ai @c02 (ai @WR (ai @aV0 (ai @HU (ai @bF7 (ai @aS7 (ai @aS8 (ai @aS4 (ai @bF8 (ai @bF3 (ai @TG (ai @IF (ai @Ee (ai @IC (ai @Ed (ai @ID (ai @Sj (ai @TH (ai @IE (ai @TI (ai @bF5 (ai @bM4 (ai @Wh (ai @IR (ai @IQ (ai @E8 (ai @E9 (ai @E7 (ai @decide_eq_true_eq (ai @or_self (ai @or_true (ai @or_false (ai @true_or (ai @false_or (ai @and_false (@false_and))))))))))))))))))))))))))))))))))))))))))))))))))))))))))))))))))))))))))))))))))))))))))))))))))))))))))))))))))))))))))))))))))))))))))))))))))))))))))))))))))))))))))))))))))))))))))))))))))))))))))))))))))))))))))))))))))))))))))))))))))
def WM:=ai @cond_true.{1} (ai @cond_false.{1} (ai @List.getElem?_cons_zero.{0} (ai @List.getElem?_cons_succ.{0} (ai @Option.getD_some.{0} (ai @if_true.{1} (ai @if_false.{1} (ai @ite_true.{1} (ai @ite_false.{1} (ai @List.set_cons_zero.{0} (ai @List.set_cons_succ.{0} (ai @List.length_cons.{0} (ai @List.length_nil.{0} (ai @List.nil_append.{0} (ai @List.append_nil.{0} (ai @List.cons_append.{0} (ai @List.drop_zero.{0} (ai @List.take_succ_cons.{0} (ai @List.take_zero.{0} (ai @List.take_nil.{0} (ai @List.drop_succ_cons.{0} (ai @Option.map_some.{0,0} (ai @Option.isSome_some.{0} (@Option.map_none.{0,0})))))))))))))))))))))))
def WX:=ai @WL @WM
abbrev a0:aQ:= .h
abbrev z0:X:= .t a0
abbrev a1:aQ:= .l a0
abbrev z1:X:= .t a1
abbrev a2:aQ:= .r a0
abbrev z2:X:= .t a2
abbrev a3:aQ:= .l a1
abbrev z3:X:= .t a3
abbrev a4:aQ:= .r a1
abbrev z4:X:= .t a4
abbrev a5:aQ:= .l a2
abbrev z5:X:= .t a5
abbrev a6:aQ:= .r a2
abbrev z6:X:= .t a6
abbrev a7:aQ:= .l a3
abbrev z7:X:= .t a7
abbrev a8:aQ:= .r a3
abbrev z8:X:= .t a8
abbrev a9:aQ:= .l a4
abbrev z9:X:= .t a9
abbrev dJ:aQ:= .r a4
abbrev eK:X:= .t dJ
abbrev ey:aQ:= .l a5
abbrev dE:X:= .t ey
abbrev eU:aQ:= .r a5
abbrev ei:X:= .t eU
abbrev eC:aQ:= .l a6
abbrev eb:X:= .t eC
abbrev dR:aQ:= .r a6
abbrev fG:X:= .t dR
abbrev dA:aQ:= .l a7
abbrev gf:X:= .t dA
abbrev eX:aQ:= .r a7
abbrev gM:X:= .t eX
abbrev gC:aQ:= .l a8
abbrev gS:X:= .t gC
abbrev fK:aQ:= .r a8
abbrev hU:X:= .t fK
abbrev i5:aQ:= .l a9
abbrev jz:X:= .t i5
abbrev gh:aQ:= .r a9
abbrev k7:X:= .t gh
abbrev fE:aQ:= .l dJ
abbrev ju:X:= .t fE
abbrev j9:aQ:= .r dJ
abbrev kL:X:= .t j9
abbrev gO:aQ:= .l ey
abbrev k8:X:= .t gO
abbrev jn:aQ:= .r ey
abbrev jA:X:= .t jn
abbrev gP:aQ:= .l eU
abbrev kM:X:= .t gP
abbrev ja:aQ:= .r eU
abbrev lw:X:= .t ja
abbrev gQ:aQ:= .l eC
abbrev lB:X:= .t gQ
abbrev kQ:aQ:= .r eC
abbrev mH:X:= .t kQ
abbrev gU:aQ:= .l dR
abbrev mI:X:= .t gU
abbrev jv:aQ:= .r dR
abbrev nv:X:= .t jv
abbrev jC:aQ:= .l dA
abbrev ny:X:= .t jC
abbrev lz:aQ:= .r dA
abbrev oC:X:= .t lz
abbrev lE:aQ:= .l eX
abbrev pQ:X:= .t lE
abbrev jx:aQ:= .r eX
abbrev pR:X:= .t jx
abbrev iK:aQ:= .l gC
abbrev pM:X:= .t iK
abbrev mK:aQ:= .r gC
abbrev pS:X:= .t mK
abbrev ka:aQ:= .l fK
abbrev oF:X:= .t ka
abbrev mL:aQ:= .r fK
abbrev qS:X:= .t mL
abbrev lA:aQ:= .l i5
abbrev qT:X:= .t lA
abbrev nj:aQ:= .r i5
abbrev rJ:X:= .t nj
abbrev jb:aQ:= .l gh
abbrev pT:X:= .t jb
abbrev kR:aQ:= .r gh
abbrev rK:X:= .t kR
abbrev oK:aQ:= .l fE
abbrev rL:X:= .t oK
abbrev lF:aQ:= .r fE
abbrev qU:X:= .t lF
abbrev oL:aQ:= .l j9
abbrev rM:X:= .t oL
abbrev ll:aQ:= .r j9
abbrev sO:X:= .t ll
abbrev oM:aQ:= .l gO
abbrev rN:X:= .t oM
abbrev kb:aQ:= .r gO
abbrev sq:X:= .t kb
abbrev lG:aQ:= .l jn
abbrev uN:X:= .t lG
abbrev qZ:aQ:= .r jn
abbrev uZ:X:= .t qZ
abbrev r0:aQ:= .l gP
abbrev uP:X:= .t r0
abbrev mM:aQ:= .r gP
abbrev v7:X:= .t mM
abbrev sv:aQ:= .l ja
abbrev vD:X:= .t sv
abbrev uS:aQ:= .r ja
abbrev wW:X:= .t uS
abbrev pO:aQ:= .l gQ
abbrev za:X:= .t pO
abbrev sZ:aQ:= .r gQ
abbrev vE:X:= .t sZ
abbrev vN:aQ:= .l kQ
abbrev BH:X:= .t vN
abbrev vO:aQ:= .r kQ
abbrev Bg:X:= .t vO
abbrev sw:aQ:= .l gU
abbrev Bh:X:= .t sw
abbrev vP:aQ:= .r gU
abbrev Bi:X:= .t vP
abbrev sy:aQ:= .l jv
abbrev BI:X:= .t sy
abbrev vQ:aQ:= .r jv
abbrev Bj:X:= .t vQ
abbrev nA:aQ:= .l jC
abbrev zk:X:= .t nA
abbrev vR:aQ:= .r jC
abbrev BJ:X:= .t vR
abbrev ve:aQ:= .l lz
abbrev zb:X:= .t ve
abbrev oN:aQ:= .r lz
abbrev zl:X:= .t oN
abbrev rS:aQ:= .l lE
abbrev vF:X:= .t rS
abbrev vf:aQ:= .r lE
abbrev zd:X:= .t vf
abbrev uT:aQ:= .l jx
abbrev ze:X:= .t uT
abbrev uU:aQ:= .r jx
abbrev zm:X:= .t uU
abbrev oD:aQ:= .l iK
abbrev zf:X:= .t oD
abbrev uV:aQ:= .r iK
abbrev zn:X:= .t uV
abbrev fF:aQ:= .l mK
abbrev ss:X:= .t fF
abbrev pP:aQ:= .r mK
abbrev zo:X:= .t pP
abbrev vg:aQ:= .l ka
abbrev zq:X:= .t vg
abbrev r4:aQ:= .r ka
abbrev zr:X:= .t r4
abbrev vT:aQ:= .l mL
abbrev Bm:X:= .t vT
abbrev vU:aQ:= .r mL
abbrev Bn:X:= .t vU
abbrev vV:aQ:= .l lA
abbrev Bo:X:= .t vV
abbrev uW:aQ:= .r lA
abbrev BK:X:= .t uW
abbrev xe:aQ:= .l nj
abbrev BL:X:= .t xe
abbrev oO:aQ:= .r nj
abbrev BM:X:= .t oO
abbrev t0:aQ:= .l jb
abbrev BN:X:= .t t0
abbrev zB:aQ:= .r jb
abbrev BO:X:= .t zB
abbrev vW:aQ:= .l kR
abbrev ES:X:= .t vW
abbrev Bv:aQ:= .r kR
abbrev GH:X:= .t Bv
abbrev Bw:aQ:= .l oK
abbrev ET:X:= .t Bw
abbrev rT:aQ:= .r oK
abbrev EU:X:= .t rT
abbrev Bx:aQ:= .l lF
abbrev EV:X:= .t Bx
abbrev BU:aQ:= .r lF
abbrev GI:X:= .t BU
abbrev BV:aQ:= .l oL
abbrev EW:X:= .t BV
abbrev BW:aQ:= .r oL
abbrev GJ:X:= .t BW
abbrev BX:aQ:= .l ll
abbrev GK:X:= .t BX
abbrev BZ:aQ:= .r ll
abbrev GL:X:= .t BZ
abbrev Bz:aQ:= .l oM
abbrev Ja:X:= .t Bz
abbrev xf:aQ:= .r oM
abbrev Jb:X:= .t xf
abbrev H5:aQ:= .l kb
abbrev Jc:X:= .t H5
abbrev H6:aQ:= .r kb
abbrev Jd:X:= .t H6
abbrev H7:aQ:= .l lG
abbrev Je:X:= .t H7
abbrev oJ:aQ:= .r lG
abbrev qR:X:= .t oJ
abbrev ie:aQ:= .l qZ
abbrev yZ:X:= .t ie
abbrev sU:aQ:= .r qZ
abbrev vz:X:= .t sU
abbrev sW:aQ:= .l r0
abbrev vA:X:= .t sW
abbrev rQ:aQ:= .r r0
abbrev vC:X:= .t rQ
abbrev BS:aQ:= .l mM
abbrev IW:X:= .t BS
abbrev v9:aQ:= .r mM
abbrev IX:X:= .t v9
abbrev GT:aQ:= .l sv
abbrev Vt:X:= .t GT
abbrev GU:aQ:= .r sv
abbrev Vu:X:= .t GU
abbrev GV:aQ:= .l uS
abbrev Vv:X:= .t GV
abbrev GW:aQ:= .r uS
abbrev Vw:X:= .t GW
abbrev sX:aQ:= .l pO
abbrev Vx:X:= .t sX
abbrev H0:aQ:= .r pO
abbrev Vy:X:= .t H0
abbrev H1:aQ:= .l sZ
abbrev Vz:X:= .t H1
abbrev H2:aQ:= .r sZ
abbrev IY:X:= .t H2
abbrev va:aQ:= .l vN
abbrev IZ:X:= .t va
abbrev BT:aQ:= .r vN
abbrev J0:X:= .t BT
abbrev vd:aQ:= .l vO
abbrev VA:X:= .t vd
abbrev rR:aQ:= .r vO
abbrev VB:X:= .t rR
abbrev H3:aQ:= .l sw
abbrev VD:X:= .t H3
abbrev Jo:aQ:= .r sw
abbrev YB:X:= .t Jo
abbrev Jp:aQ:= .l vP
abbrev YC:X:= .t Jp
abbrev Jq:aQ:= .r vP
abbrev YD:X:= .t Jq
abbrev Jr:aQ:= .l sy
abbrev YE:X:= .t Jr
abbrev Js:aQ:= .r sy
abbrev YF:X:= .t Js
abbrev Jt:aQ:= .l vQ
abbrev YG:X:= .t Jt
abbrev sY:aQ:= .r vQ
abbrev YH:X:= .t sY
abbrev Ju:aQ:= .l nA
abbrev YI:X:= .t Ju
abbrev W7:aQ:= .r nA
abbrev bs6:X:= .t W7
abbrev W8:aQ:= .l vR
abbrev bs7:X:= .t W8
abbrev W9:aQ:= .r vR
abbrev bs8:X:= .t W9
abbrev Wa:aQ:= .l ve
abbrev bs9:X:= .t Wa
abbrev Wb:aQ:= .r ve
abbrev bt0:X:= .t Wb
abbrev aN9:aQ:= .l oN
abbrev c43:X:= .t aN9
abbrev H4:aQ:= .r oN
abbrev c46:X:= .t H4
abbrev aO0:aQ:= .l rS
abbrev c47:X:= .t aO0
abbrev aO1:aQ:= .r rS
abbrev c48:X:= .t aO1
abbrev aO2:aQ:= .l vf
abbrev c49:X:= .t aO2
abbrev aO3:aQ:= .r vf
abbrev c50:X:= .t aO3
abbrev Jv:aQ:= .l uT
abbrev c51:X:= .t Jv
abbrev aO4:aQ:= .r uT
abbrev c70:X:= .t aO4
abbrev aO5:aQ:= .l uU
abbrev c85:X:= .t aO5
abbrev aO6:aQ:= .r uU
abbrev c95:X:= .t aO6
abbrev bv2:aQ:= .l oD
abbrev cu5:X:= .t bv2
abbrev bv3:aQ:= .r oD
abbrev cu6:X:= .t bv3
abbrev bv4:aQ:= .l uV
abbrev cu7:X:= .t bv4
abbrev bv5:aQ:= .r uV
abbrev cu8:X:= .t bv5
abbrev bv6:aQ:= .l fF
abbrev cu9:X:= .t bv6
abbrev bv7:aQ:= .r fF
abbrev cv0:X:= .t bv7
abbrev bv8:aQ:= .l pP
abbrev cv1:X:= .t bv8
abbrev bv9:aQ:= .r pP
abbrev cv2:X:= .t bv9
abbrev bw0:aQ:= .l vg
abbrev cv3:X:= .t bw0
abbrev bw1:aQ:= .r vg
abbrev cv4:X:= .t bw1
abbrev bw2:aQ:= .l r4
abbrev cv5:X:= .t bw2
abbrev bw3:aQ:= .r r4
abbrev cv6:X:= .t bw3
abbrev bw4:aQ:= .l vT
abbrev cv7:X:= .t bw4
abbrev bw5:aQ:= .r vT
abbrev cv8:X:= .t bw5
abbrev bw6:aQ:= .l vU
abbrev cv9:X:= .t bw6
abbrev bw7:aQ:= .r vU
abbrev cw0:X:= .t bw7
abbrev bw8:aQ:= .l vV
abbrev cw1:X:= .t bw8
abbrev bw9:aQ:= .r vV
abbrev cw2:X:= .t bw9
abbrev bx0:aQ:= .l uW
abbrev cw3:X:= .t bx0
abbrev bx1:aQ:= .r uW
abbrev cw4:X:= .t bx1
abbrev bx2:aQ:= .l xe
abbrev cw5:X:= .t bx2
abbrev bx3:aQ:= .r xe
abbrev cw6:X:= .t bx3
abbrev bx4:aQ:= .l oO
abbrev cw7:X:= .t bx4
abbrev bx5:aQ:= .r oO
abbrev cw8:X:= .t bx5
abbrev sk1:T:= .n .e none .e
abbrev sG:T:= .n sk1 none sk1
abbrev jt:T:= .n sG none sG
abbrev nr:T:= .n jt none jt
abbrev nu:T:= .n nr none nr
abbrev uY:T:= .n nu none nu
abbrev sk7:T:= .n uY none uY
abbrev gy(u:List (Option V))(a:Nat):T:= .n .e (uO u a) .e
abbrev fm(u:List (Option V))(a b c:Nat):T:= .n (gy u a) (uO u b) (gy u c)
abbrev aq(u:List (Option V))(a b c d e f g:Nat):T:= .n (fm u a b c) (uO u d) (fm u e f g)
abbrev qq(d:aQ)(o:QO):CO:=⟨some d,.q o,none⟩
abbrev jJ(d:aQ)(o:EO)(g:aQ):CO:=⟨some d,.e o,some (g,false)⟩
abbrev p5(d:aQ)(o:EO)(g:aQ):CO:=⟨some d,.e o,some (g,true)⟩
abbrev aw(d:aQ)(o:QO)(g:aQ):CO:=⟨some d,.q o,some (g,false)⟩
abbrev aE(d:aQ)(o:QO)(g:aQ):CO:=⟨some d,.q o,some (g,true)⟩
abbrev aa(d:aQ)(o:AO):CO:=⟨some d,.a o,none⟩
abbrev ee(d:aQ)(o:EO):CO:=⟨some d,.e o,none⟩
abbrev ez(o:EO):CO:=⟨none,.e o,none⟩
abbrev x6(n:Int):X:= .c (.i .i64 n)
abbrev xT:X:= .c (.b true)
abbrev xF:X:= .c (.b false)
theorem wu{b b1:CC}(h:b=b1)(k:Kn)(s:St)(R:Ex→St→Prop):Wp b k s R=Wp b1 k s R:=congrArg (fun x=>Wp x k s R) h
def X1{x0:Option V}(l:List (Option V)):List (Option V):=x0::l
def G1(l:List (Option V)):List (Option V):=none::l
def X2{x0 x1:Option V}(l:List (Option V)):List (Option V):=x0::x1::l
def G2(l:List (Option V)):List (Option V):=none::none::l
def X4{x0 x1 x2 x3:Option V}(l:List (Option V)):List (Option V):=x0::x1::x2::x3::l
def G4(l:List (Option V)):List (Option V):=none::none::none::none::l
def X8{x0 x1 x2 x3 x4 x5 x6 x7:Option V}(l:List (Option V)):List (Option V):=x0::x1::x2::x3::x4::x5::x6::x7::l
def G8(l:List (Option V)):List (Option V):=none::none::none::none::none::none::none::none::l
def br{x0 x1 x2 x3 x4 x5 x6 x7 x8 x9 x10 x11 x12 x13 x14 x15:Option V}(l:List (Option V)):List (Option V):=x0::x1::x2::x3::x4::x5::x6::x7::x8::x9::x10::x11::x12::x13::x14::x15::l
def bA{x0 x1 x2 x3 x4 x5 x6 x7 x8 x9 x10 x11 x12 x13 x14 x15 x16 x17 x18 x19 x20 x21 x22 x23 x24 x25 x26 x27 x28 x29 x30 x31:Option V}(l:List (Option V)):List (Option V):=x0::x1::x2::x3::x4::x5::x6::x7::x8::x9::x10::x11::x12::x13::x14::x15::x16::x17::x18::x19::x20::x21::x22::x23::x24::x25::x26::x27::x28::x29::x30::x31::l
def bf{x0 x1 x2 x3 x4 x5 x6 x7 x8 x9 x10 x11 x12 x13 x14 x15 x16 x17 x18 x19 x20 x21 x22 x23 x24 x25 x26 x27 x28 x29 x30 x31 x32 x33 x34 x35 x36 x37 x38 x39 x40 x41 x42 x43 x44 x45 x46 x47 x48 x49 x50 x51 x52 x53 x54 x55 x56 x57 x58 x59 x60 x61 x62 x63:Option V}(l:List (Option V)):List (Option V):=x0::x1::x2::x3::x4::x5::x6::x7::x8::x9::x10::x11::x12::x13::x14::x15::x16::x17::x18::x19::x20::x21::x22::x23::x24::x25::x26::x27::x28::x29::x30::x31::x32::x33::x34::x35::x36::x37::x38::x39::x40::x41::x42::x43::x44::x45::x46::x47::x48::x49::x50::x51::x52::x53::x54::x55::x56::x57::x58::x59::x60::x61::x62::x63::l
section
variable{Φ:Nat→Option CF}{rd:Option Nat}{fn:Nat}{F:RO}
def aV6:V→Option V
 | .p b o=>some (.p b o)
 | .f g h c=>some (.f g h c)
 | .y l=>some (.y l)
 | .a t v=>some (.a t v)
 |_=>none
theorem nP(x:X)(M:Mem)(t:T):(cX (.nck x) F M t).val=aV6 (x.ev t):=by
 show(mi x F M t).val=_
 unfold mi
 cases x.ev t<;>rfl
theorem ed(b o:Nat):aV6 (.p b o)=some (.p b o):=Eq.trans rfl (Eq.refl _)
theorem gV(x:X)(M:Mem)(t:T):lq (.nck x) F M t=oV (aV6 (x.ev t)):=by
 refine(fw ?_).trans (congrArg oV (nP (F:=F) x M t))
 intro F' M'
 refine jQ ?_
 show(mi x F' M' t= .f∨ ∃y,mi x F' M' t= .v y)
 unfold mi
 cases x.ev t<;>first|exact .inl rfl|exact .inr ⟨_,rfl⟩
def cpV:V→Option V
 | .l0=>some (.i .i64 0)
 | .l _ _ _ c=>some (.i .i64 (c:Int))
 |_=>none
theorem cr8(x:X)(M:Mem)(t:T):(cX (.cp x) F M t).val=cpV (x.ev t):=by
 show(uc x F M t).val=_
 unfold uc
 cases x.ev t<;>rfl
theorem D9:cpV .l0=some (.i .i64 0):=Eq.trans rfl (Eq.refl _)
theorem S6(x:X)(M:Mem)(t:T):lq (.cp x) F M t=oV (cpV (x.ev t)):=by
 refine(fw ?_).trans (congrArg oV (cr8 (F:=F) x M t))
 intro F' M'
 refine jQ ?_
 show(uc x F' M' t= .f∨ ∃y,uc x F' M' t= .v y)
 unfold uc
 cases x.ev t<;>first|exact .inl rfl|exact .inr ⟨_,rfl⟩
def sdV:V→Option V
 | .l0=>some .p0
 | .l b o _ c=>if c=0 then none else some (.p b o)
 | .u b o _ el kn=>if el<kn then some (.p b o)else none
 |_=>none
theorem yC(x:X)(M:Mem)(t:T):uf x F M t=oV (sdV (x.ev t)):=by
 unfold uf
 cases x.ev t with
 |l b o n c=>
  show(bif Nat.beq c 0 then QR.f else .v (.p b o))=oV (if c=0 then none else some (.p b o));rw[bU];by_cases h:c=0
  ·rw[ah h,ac h];rfl
  ·rw[af h,ab h];rfl
 |u b o n el kn=>
  show(bif Nat.blt el kn then QR.v (.p b o)else .f)=oV (if el<kn then some (.p b o)else none);rw[gk];by_cases h:el<kn
  ·rw[ah h,ac h];rfl
  ·rw[af h,ab h];rfl
 |_=>rfl
theorem SV(o:Option V):(oV o).val=o:=by cases o<;>rfl
theorem cs1(x:X)(M:Mem)(t:T):(cX (.sd x) F M t).val=sdV (x.ev t):=by
 show(uf x F M t).val=_
 rw[yC,SV]
theorem S7(x:X)(M:Mem)(t:T):lq (.sd x) F M t=oV (sdV (x.ev t)):=by
 refine(fw ?_).trans (congrArg oV (cs1 (F:=F) x M t))
 intro F' M'
 show uf x F' M' t=oV (uf x [] .e t).val
 rw[yC,yC,SV]
theorem aZ1:sdV .l0=some .p0:=Eq.trans rfl (Eq.refl _)
theorem aG7{b o n el kn:Nat}(h:el<kn):sdV (.u b o n el kn)=some (.p b o):=ac h
def upV(F:RO)(M:Mem)(x:V):Option V:=(cX (.up (.c x)) F M .e).val
theorem cs2(x:X)(M:Mem)(t:T):(cX (.up x) F M t).val=upV F M (x.ev t):=Eq.trans rfl (Eq.refl _)
theorem Yn{M:Mem}{b o ty n:Nat}{ex str:Bool}{fz:Nat}{d:List V}{t:T}(h:M.get b=some (.cells ty n ex fz str d t))(ho:o<n):upV F M (.p b o)=some (.p b o):=by
 show(kd (look F M b) QR.f fun n _ _=>bif Nat.blt o n then QR.r (.p b o) b else .f).val=_
 rw[ax h]
 show(bif Nat.blt o n then QR.r (.p b o) b else .f).val=_
 rw[gk,ah ho];rfl
def dnV(ty sz:Nat)(F:RO)(M:Mem)(x:V):Option V:=(cX (.dn ty sz (.c x)) F M .e).val
theorem cr9(ty sz:Nat)(x:X)(M:Mem)(t:T):(cX (.dn ty sz x) F M t).val=dnV ty sz F M (x.ev t):=Eq.trans rfl (Eq.refl _)
theorem WP{M:Mem}{b ty n:Nat}{str:Bool}{fz:Nat}{d:List V}{t:T}(h:M.get b=some (.cells ty n true fz str d t)):dnV ty n F M (.p b 0)=some (.p b 0):=by
 show(aS1 ty n b (look F M b)).val=_
 rw[ax h]
 show(bif Nat.beq ty ty&&Nat.beq n n then QR.r (.p b 0) b else .f).val=_
 rw[Nat.beq_refl,Nat.beq_refl];rfl
def QV(r:QR):Prop:=r= .f∨ ∃y,r= .v y
theorem qA{r:QR}(b:Bool)(h:QV r):QV (bif b then r else .f):=by
 cases b with
 |false=>exact .inl rfl
 |true=>exact h
theorem FX{r s:QR}(b:Bool)(h:QV r)(h':QV s):QV (bif b then r else s):=by
 cases b with
 |false=>exact h'
 |true=>exact h
theorem Ti(b o n c:Nat):QV (mkL b o n c):= .inr ⟨_,SU b o n c⟩
theorem Tj(b o n e k:Nat):QV (mkU b o n e k):= .inr ⟨_,yr b o n e k⟩
theorem Yb(sz:Nat)(v:V)(a b d:Option Nat):QV (sj sz v a b d):=by
 unfold sj
 refine qA _ ?_
 cases v with
 |l b0 o len cap=>exact qA _ (Ti _ _ _ _)
 |l0=>exact qA _ (.inr ⟨_,rfl⟩)
 |u b0 o len el kn=>
  cases d with
  |none=>exact qA _ (FX _ (Tj _ _ _ _ _) (FX _ (Tj _ _ _ _ _) (.inr ⟨_,by rw[bG]⟩)))
  |some m=>exact qA _ (Ti _ _ _ _)
 |ue b0 o0 o=>exact qA _ (.inr ⟨_,rfl⟩)
 |_=>exact .inl rfl
theorem aS9(sz:Nat)(x:X)(lo hi mx:Option X)(M:Mem)(t:T):lq (.slL sz x lo hi mx) F M t=oV (vu sz (x.ev t) (lo.map fun x=>x.ev t) (hi.map fun x=>x.ev t) (mx.map fun x=>x.ev t)):=by
 refine(fw ?_).trans (congrArg oV (aJ2 (F:=F) sz x lo hi mx M t))
 intro F' M'
 refine jQ ?_
 show QV (qz sz (x.ev t) (optNN t lo) (optNN t hi) (optNN t mx))
 cases optNN t lo with
 |none=>exact .inl rfl
 |some a=>
  cases optNN t hi with
  |none=>exact .inl rfl
  |some b=>
   cases optNN t mx with
   |none=>exact .inl rfl
   |some d=>exact Yb _ _ _ _ _
def YN(o:Option (V×bK))(base i:Nat)(p:aQ)(r:List (Nat×Nat×CO))(k:Kn)(t:T)(M:Mem)(c:Nat)(pend:List (Nat×Nat×bK))(reads:List (Nat×Nat))(R:DS→Prop):Prop:=match o with
 |some x=>ly base r k (.mk (t.setP p x.1) M c ((i,base+i,x.2)::pend) reads) R
 |none=>False
theorem mh(v:V)(b:bK)(base i:Nat)(p:aQ)(r:List (Nat×Nat×CO))(k:Kn)(t:T)(M:Mem)(c:Nat)(pend:List (Nat×Nat×bK))(reads:List (Nat×Nat))(R:DS→Prop):
 YN (some (v,b)) base i p r k t M c pend reads R=ly base r k (.mk (t.setP p v) M c ((i,base+i,b)::pend) reads) R:=Eq.trans rfl (Eq.refl _)
theorem uH(base i mask:Nat)(p:aQ)(o:AO)(r:List (Nat×Nat×CO))(t:T)(M:Mem)(c:Nat)(pend:List (Nat×Nat×bK))(reads:List (Nat×Nat))(R:DS→Prop)(hl:(look F M (base+i)).isNone=true)(hr:bY (base+i) reads=true):
 ly base ((i,mask,.mk (some p) (.a o) none)::r) (K Φ rd fn F) (.mk t M c pend reads) R=YN (jD o (base+i) t) base i p r (K Φ rd fn F) t M c pend reads R:=by
 have he:rZ (K Φ rd fn F) base (i,mask,.mk (some p) (.a o) none) (.mk t M c pend reads)=Db i (base+i) (some p) t M c pend reads (jD o (base+i) t):=by
  show(fN (Nat.add base i) fun b=>bif (look F M b).isNone&&bY b reads then Db i b (some p) t M c pend reads (jD o b t)else none)=_;rw[bG];show(bif (look F M (base+i)).isNone&&bY (base+i) reads then Db i (base+i) (some p) t M c pend reads (jD o (base+i) t)else none)=_;rw[hl,hr];rfl
 apply propext
 rw[eS,he]
 cases jD o (base+i) t with
 |none=>exact⟨fun⟨s',h,_⟩=>(by cases h),False.elim⟩
 |some x=>
  have h2:Db i (base+i) (some p) t M c pend reads (some x)=some (.mk (t.setP p x.1) M c ((i,base+i,x.2)::pend) reads):=by
   show((setT t (some p) x.1).force fun t=>some (DS.mk t M c ((i,base+i,x.2)::pend) reads))=_;rw[Tr.force_eq];rfl
  rw[h2];constructor
  ·rintro⟨s',h,q⟩;obtain rfl:=ag h;exact q
  ·exact fun q=>⟨_,rfl,q⟩
theorem fg(i b:Nat)(x:bK)(r:List (Nat×Nat×bK))(M:Mem):dw ((i,b,x)::r) M=dw r (M.set b x):=by
 show(M.set b x).force (fun M=>dw r M)=_
 rw[Tr.force_eq]
theorem cK(b:Nat):bY b []=true:=Eq.trans rfl (Eq.refl _)
theorem bo(b i b':Nat)(r:List (Nat×Nat))(h:b'≠b):bY b ((i,b')::r)=bY b r:=by
 show(bif Nat.beq b' b then false else bY b r)=_
 rw[bU,af h];rfl
def qF(ty n:Nat)(row:List V):bK:= .cells ty n false 0 false [] (iB row)
def nzA(ty:Nat)(l:V)(b:Nat):Option (V×bK):=jD (.nz ty (.c l)) b .e
theorem aO8(ty:Nat)(l:X)(b:Nat)(t:T):jD (.nz ty l) b t=nzA ty (l.ev t) b:=Eq.trans rfl (Eq.refl _)
theorem bL2(ty n b:Nat)(h:n≤1099511627776):nzA ty (.i .i64 (n:Int)) b=some (.u b 0 n 0 n,qF ty n []):=by
 show(match F9 (.i .i64 (n:Int))with|some n=>bif Nat.ble n 1099511627776 then some (V.u b 0 n 0 n,bK.cells ty n false 0 false [] .e)else none|none=>none)=_
 show(bif Nat.ble n 1099511627776 then some (V.u b 0 n 0 n,bK.cells ty n false 0 false [] .e)else none)=_
 rw[cG,ah h];rfl
theorem Ix{n:Nat}{row:List V}(h:row.length≤n)(i:Nat)(hi:i<row.length):cell n [] (iB row) i=row[i]?:=by
 rw[cH,ac (by omega)]
 unfold iB
 rw[cY,ac (by omega)]
 simp only[Nat.sub_zero]
 rw[List.getElem?_eq_getElem hi]
theorem ui{M:Mem}{b ty n:Nat}{row:List V}(h:M.get b=some (qF ty n row))(hn:row.length≤n):dh F M b 0 row:=fun k hk=>by
 rw[Nat.zero_add]
 unfold Ev.load1
 rw[ax h]
 exact Ix hn k hk
theorem Ea{M:Mem}{b ty n:Nat}{row vs:List V}(h:M.get b=some (qF ty n row))(hn:row.length+vs.length≤n)(h1:aK vs=true):bR M b row.length vs=some (M.set b (qF ty n (row++vs))):=by
 rw[qJ h hn (aD _) h1]
 unfold qF iB
 have:=lU row vs 0 .e
 rw[Nat.zero_add]at this
 rw[this]
def qV(M:Mem)(c0 c b:Nat)(v:V)(l:List UInt8):Prop:=
 (l=[]∧v= .l0)∨(c0≤b∧b<c∧ ∃n,(l.length≤n∧0<n)∧v= .u b 0 l.length 0 n∧M.get b=some (qF 5 n (l.map bV)))
theorem qV.up{M M':Mem}{c0 c c' b:Nat}{v:V}{l:List UInt8}(h:qV M c0 c b v l)(hc:c≤c')(hb:b<c→M'.get b=M.get b):qV M' c0 c' b v l:=by
 rcases h with h|⟨h1,h2,n,h3,h4,h5⟩
 ·exact .inl h
 ·exact .inr ⟨h1,by omega,n,h3,h4,by rw[hb h2];exact h5⟩
theorem aQ3{M0 M:Mem}{c0 c b:Nat}{v:V}{l s:List UInt8}(h:qV M c0 c b v l)(hg:Gr c0 M0 c M)(hr:mo (l.length+s.length) 1=true):
 lD (rU F M c 5 1 1 v (sV s)) fun v' M' c'=>∃b',qV M' c0 c' b' v' (l++s)∧Gr c0 M0 c' M'∧c≤c'∧(∀x,x<c→x≠b→M'.get x=M.get x)∧(b'=b∨c≤b'):=by
 unfold rU
 rw[Gh]
 have e1:nW F M c 5 1 1 v (some (s.length,s.map bV))=app F M c 5 1 1 v s.length (s.map bV):=by
  show(bif aK (s.map bV)&&Nat.beq (s.map bV).length (Nat.mul s.length 1)then _ else _)=_;rw[ig,bU,ah (show(s.map bV).length=Nat.mul s.length 1 by rw[List.length_map];exact(Nat.mul_one _).symm)];rfl
 rw[e1]
 have hmap:(l++s).map bV=l.map bV++s.map bV:=List.map_append
 by_cases hz:s=[]
 ·subst hz;have e2:app F M c 5 1 1 v 0 []= .k v M c:=by
   show(bif Nat.beq 0 0 then(bif ww v then RC.k v M c else .f)else _)=_;have:ww v=true:=by
    rcases h with⟨_,rfl⟩|⟨_,_,n,⟨hn,_⟩,rfl,_⟩
    ·rfl
    ·show Nat.ble l.length (Nat.sub n 0)=true;rw[cG];exact ah hn
   rw[this];rfl
  exact⟨v,M,c,e2,b,by rw[bH];exact h,hg,aj _,fun _ _ _=>rfl,.inl rfl⟩
 ·have hn0:s.length≠0:=fun e=>hz (List.length_eq_zero_iff.1 e);have grownEq:∀(N:Mem) (vs:List V) (k:Nat),mo k 1=true→vs.length=k→i7 N c 5 1 k 0 false vs= .k (.u c 0 k 0 k) (N.set c (qF 5 k vs)) (c+1):=by
   intro N vs k hk hv;rw[p6 N c 5 1 k vs hk];unfold pC qF;rw[hv]
  rcases h with⟨rfl,rfl⟩|⟨ha,hb,n,⟨hn,hn1⟩,rfl,hM⟩
  ·rw[aM,Nat.zero_add]at hr;refine⟨_,_,_,(F7 hn0).trans (grownEq M (s.map bV) s.length hr (List.length_map ..)),c,.inr ⟨hg.le,by omega,s.length,⟨aj _,by omega⟩,rfl,?_⟩,hg.set c _ hg.le (by omega) (by omega),by omega,fun x hx _=>ak _ _ (by omega),.inr (aj _)⟩;rw[Tr.get_set,ac rfl];rfl
  ·by_cases hfit:l.length+s.length≤n
   ·have hst:=Ea hM (vs:=s.map bV) (by rw[List.length_map,List.length_map];exact hfit) (ig s);rw[List.length_map]at hst;have e3:nB F M c 5 1 1 b 0 l.length 0 n s.length (s.map bV)= .k (.u b 0 (l.length+s.length) 0 n) (M.set b (qF 5 n (l.map bV++s.map bV))) c:=by
     unfold nB;rw[cG,ah (show Nat.add (Nat.add 0 l.length) s.length≤n by show 0+l.length+s.length≤n;omega),cond_true];unfold zG;rw[show Nat.add 0 (Nat.mul l.length 1)=l.length by show 0+l.length*1=l.length;omega,hst];show fN (l.length+s.length) (fun len=>RC.k (.u b 0 len 0 n) _ c)=_;rw[bG]
    refine⟨_,_,_,(C7 hn0).trans e3,b,.inr ⟨ha,hb,n,⟨by rw[aH];exact hfit,hn1⟩,by rw[aH],?_⟩,hg.set b _ ha hb (aj _),aj _,fun x _ hxb=>ak _ _ hxb,.inl rfl⟩;rw[Tr.get_set,ac rfl,hmap]
   ·have hcl:=(ui (F:=F) hM (by rw[List.length_map];exact hn))
    have hcl2:dh F M b 0 (l.map fun x=>[bV x]).flatten:=by rw[iP];exact hcl
    obtain⟨r,hrd⟩:=ml Nat.one_pos (es:=l.map fun x=>[bV x]) (fun e he=>by obtain⟨x,_,rfl⟩:=List.mem_map.1 he;rfl) hcl2;rw[List.length_map,iP]at hrd;have hmw:fU M b 5 (Nat.add 0 (Nat.mul l.length 1)) (Nat.add 0 (Nat.mul (Nat.sub n 0) 1))=some (0,false):=by
     unfold fU;rw[hM];show(bif Nat.beq 5 5&&Nat.beq n (0+(n-0)*1)&&Nat.ble 0 (0+l.length*1)&&Nat.ble (0+l.length*1) (0+(n-0)*1)then some (0,false)else none)=_;rw[bU,bU,cG,cG,ah (show 5=5 from rfl),ah (show n=0+(n-0)*1 by omega),ah (aD _),ah (show 0+l.length*1≤0+(n-0)*1 by omega)];rfl
    have e3:nB F M c 5 1 1 b 0 l.length 0 n s.length (s.map bV)=i7 (M.del b) c 5 1 (l.length+s.length) 0 false (l.map bV++s.map bV):=by
     unfold nB;rw[cG,af (show¬Nat.add (Nat.add 0 l.length) s.length≤n by show¬0+l.length+s.length≤n;omega),cond_false,hmw];show qh (M.del b) c 5 1 (l.length+s.length) 0 false (s.map bV) (readB F M 1 l.length b 0)=_;rw[hrd];rfl
    refine⟨_,_,_,((C7 hn0).trans e3).trans (grownEq _ _ _ hr (by rw[aH,List.length_map,List.length_map])),c,.inr ⟨by omega,by omega,l.length+s.length,⟨by rw[aH];exact aj _,by omega⟩,by rw[aH],?_⟩,(hg.del b ha).set c _ (by omega) (by omega) (by omega),by omega,fun x hx hxb=>?_,.inr (aj _)⟩
    ·rw[Tr.get_set,ac rfl,hmap]
    ·rw[ak _ _ (by omega),Tr.get_del,ab hxb]
def bE5(F:RO)(M:Mem)(c sz:Nat)(x y:V):RC:=zT sz (.c x) (.c y) F M c .e
theorem Vq(sz:Nat)(x y:X)(M:Mem)(c:Nat)(t:T):fc (.cpy sz x y) (K Φ rd fn F) M c t=bE5 F M c sz (x.ev t) (y.ev t):=Eq.trans rfl (Eq.refl _)
theorem aR6(M:Mem)(c sz b o e k:Nat):bE5 F M c sz (.u b o 0 e k) .l0= .k (.i .i64 0) M c:=by
 show fN (bif Nat.ble 0 0 then 0 else 0) (fun n=>bif Nat.beq n 0 then RC.k (.i .i64 0) M c else bE6 M c n (.u b o 0 e k) (tF F M sz n .l0))=_
 rw[bG];rfl
end
theorem rI{Φ:Nat→Option CF}{rd:Option Nat}{fn:Nat}{F:RO}(base i mask j b:Nat)(blk:bK)(dst:Option aQ)(o:EO)(r:List (Nat×Nat×CO))(t:T)(M:Mem)(c:Nat)(reads:List (Nat×Nat))(R:DS→Prop)(hj:(mask/2^j%2==1)=true)(hb:zI mask reads=true):
 ly base ((i,mask,.mk dst (.e o) none)::r) (K Φ rd fn F) (.mk t M c [(j,b,blk)] reads) R=F2 (fc o (K Φ rd fn F) (M.set b blk) c t) F dst base r (K Φ rd fn F) t reads R:=by
 have hp:=il hb
 have hj':testBit mask j=true:=by
  show Nat.beq (Nat.mod (Nat.div mask (Nat.pow 2 j)) 2) 1=true;rw[bU];exact ah (show mask/2^j%2=1 by simpa using hj)
 have hmg:en mask [(j,b,blk)] M=(M.set b blk,[]):=by
  show(bif testBit mask j then(M.set b blk).force (fun M=>en mask [] M)else _)=_;rw[hj',cond_true,Tr.force_eq];rfl
 have he:rZ (K Φ rd fn F) base (i,mask,.mk dst (.e o) none) (.mk t M c [(j,b,blk)] reads)=nk F dst t [] reads [] (fc o (K Φ rd fn F) (M.set b blk) c t):=by
  show vk o (K Φ rd fn F) mask dst t c reads (en mask [(j,b,blk)] M)=_;rw[hmg];show qa o (K Φ rd fn F) dst t c [] reads (bQ mask reads F (M.set b blk) [])=_;rw[hp];rfl
 apply propext
 rw[eS,he]
 cases hd:fc o (K Φ rd fn F) (M.set b blk) c t with
 |f=>exact⟨fun⟨s',h,_⟩=>(by cases h),False.elim⟩
 |k v M' c'=>
  have h2:nk F dst t [] reads [] (.k v M' c')=if bT M' F=true then some (DS.mk (setT t dst v) M' c' [] reads)else none:=by
   show(bif bT M' F&&cC F M' []then(b8 [] M').force fun M=>(setT t dst v).force fun t=>some (DS.mk t M c' [] reads)else none)=_;cases hr:bT M' F with
   |false=>rfl
   |true=>
    show((b8 [] M').force fun M=>(setT t dst v).force fun t=>some (DS.mk t M c' [] reads))=_;rw[Tr.force_eq,Tr.force_eq];rfl
  rw[h2];show _↔(bT M' F=true∧ly base r (K Φ rd fn F) (.mk (setT t dst v) M' c' [] reads) R);cases hr:bT M' F with
  |false=>exact⟨fun⟨s',h,_⟩=>(by simp at h),fun h=>(by cases h.1)⟩
  |true=>
   constructor
   ·rintro⟨s',h,q⟩;simp only[if_true]at h;obtain rfl:=ag h;exact⟨rfl,q⟩
   ·exact fun h=>⟨_,rfl,h.2⟩
section
variable{Φ:Nat→Option CF}{rd:Option Nat}{fn:Nat}{F:RO}
def kF(I:Nat→Nat→St→Prop)(n:Nat)(Q:Ex→St→Prop):Ex→St→Prop
 | .gto l,s=>∃m,m<n∧I m l s
 |e,s=>Q e s
theorem kG(I:Nat→Nat→St→Prop)(n:Nat)(Q:Ex→St→Prop)(l:Nat)(s:St):kF I n Q (.gto l) s=∃m,m<n∧I m l s:=Eq.trans rfl (Eq.refl _)
theorem dZ(I:Nat→Nat→St→Prop)(n:Nat)(Q:Ex→St→Prop)(s:St):kF I n Q .ret s=Q .ret s:=Eq.trans rfl (Eq.refl _)
theorem ou(I:Nat→Nat→St→Prop)(n:Nat)(Q:Ex→St→Prop)(id:Nat)(s:St):kF I n Q (.ext id) s=Q (.ext id) s:=Eq.trans rfl (Eq.refl _)
theorem gI(b:CC)(k:Kn)(Q:Ex→St→Prop)(l:Nat)(s:St):eg b k Q (.gto l) s=Q (.gto l) s:=Eq.trans rfl (Eq.refl _)
theorem CX(id:Nat)(Q:Ex→St→Prop)(l:Nat)(s:St):d8 id Q (.gto l) s=Q (.gto l) s:=Eq.trans rfl (Eq.refl _)
theorem jm(l:Nat)(k:Kn)(s:St)(Q:Ex→St→Prop):Wp (.goto l) k s Q=Q (.gto l) s:=by
 apply propext;constructor
 ·rintro⟨e,s',h,q⟩;have h':Rs.k (.gto l) s= .k e s':=h;injection h' with h1 h2
  subst h1 h2;exact q
 ·exact fun h=>⟨_,_,rfl,h⟩
theorem wV{tbl:CC}{Q:Ex→St→Prop}(I:Nat→Nat→St→Prop)(h:∀n l s,I n l s→ ∃c,i6 l tbl=some c∧Wp c (K Φ rd fn F) s (kF I n Q)):
 ∀n b s,Wp b (K Φ rd fn F) s (kF I n Q)→Wp (.scope b tbl) (K Φ rd fn F) s Q:=by
 intro n
 induction n using Nat.strongRecOn with
 |_ n ih=>
  rintro b s ⟨e,s',he,q⟩;have h0:bn (.scope b tbl) (K Φ rd fn F) s=gG tbl (K Φ rd fn F) (bn b (K Φ rd fn F) s):=rfl;cases e with
  |gto l=>
   obtain⟨m,hm,hI⟩:=q;obtain⟨c,hc,hw⟩:=h m l s' hI;obtain⟨e2,s2,h2,q2⟩:=ih m hm c s' hw;refine⟨e2,s2,?_,q2⟩;rw[h0,he];show ot tbl (K Φ rd fn F) s' (i6 l tbl)=_;rw[hc];show oP (K Φ rd fn F) (.scope c tbl) s'=_;rw[←h2];exact yd Φ rd fn F (.scope c tbl) s'
  |nrm=>exact⟨_,_,by rw[h0,he];rfl,q⟩
  |ret=>exact⟨_,_,by rw[h0,he];rfl,q⟩
  |ext id=>exact⟨_,_,by rw[h0,he];rfl,q⟩
end
end
end Go.Proofs.YtmbpllipombieaaDoor.Ev
