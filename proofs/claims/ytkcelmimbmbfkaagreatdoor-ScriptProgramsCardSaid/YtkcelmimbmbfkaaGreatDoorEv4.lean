/- What is proved here: pieces of the evaluator's soundness: if the evaluator comes to a value, the model's run comes to it, for every world and tape; no conditions beyond the hypotheses of each theorem. -/
import Derived.Test.YtkcelmimbmbfkaaGreatDoorEv3
import GoSem.ClaimChange
set_option linter.unusedSimpArgs false
set_option linter.unusedVariables false
set_option linter.defProp false
set_option maxRecDepth 100000
namespace Go.Proofs.YtkcelmimbmbfkaaGreatDoor.Ev
open Go
noncomputable section
section
variable{Φ:Nat→Option CF}{rd:Option Nat}{fn:Nat}{F:RO}
def wY(o:RC)(P:V→Mem→Nat→Prop):Prop:=∃v M' c',o= .k v M' c'∧P v M' c'
theorem wY.mono{o:RC}{P P':V→Mem→Nat→Prop}(h:wY o P)(hp:∀v M' c',P v M' c'→P' v M' c'):wY o P':=by
 obtain⟨v,M',c',e,h⟩:=h
 exact⟨v,M',c',e,hp v M' c' h⟩
abbrev Calls(Φ:Nat→Option CF)(F:RO)(f:Nat)(args:List V)(M:Mem)(c:Nat)(P:V→Mem→Nat→Prop):Prop:=wY (fu (mW Φ) F f args M c (Φ f)) P
theorem ax{f n:Nat}{res:List RV}{body:CC}{args:List V}{M:Mem}{c:Nat}{P:V→Mem→Nat→Prop}(hf:Φ f=some (.mk n res body))
 (h:Wp body (K Φ none f F) (.mk (aS n args) [] M c) (j5 F res P)):Calls Φ F f args M c P:=xf hf h
theorem CT{f:Nat}{g:List V→Option V}{args:List V}{v:V}{M:Mem}{c:Nat}{P:V→Mem→Nat→Prop}(hf:Φ f=some (.orc (aj g)))(hg:g args=some v)(h:P v M c):Calls Φ F f args M c P:=by
 refine⟨v,M,c,?_,h⟩
 rw[hf]
 show aj g F args M c=_
 unfold aj
 rw[hg]
theorem aB{o:RC}{p:aE}{r:List CO}{k:Kn}{t:T}{d:List Nat}{R:St→Prop}(h:wY o fun v M' c'=>oN r k (.mk (t.setP p v) d M' c') R):b61 o p r k t d R:=by
 obtain⟨v,M',c',e,h⟩:=h
 rw[e];exact h
theorem Be{o:RC}{p:Option aE}{base:Nat}{r:List (Nat×Nat×CO)}{k:Kn}{t:T}{reads:List (Nat×Nat)}{R:DS→Prop}
 (h:wY o fun v M' c'=>bN M' F=true∧qj base r k (.mk (setT t p v) M' c' [] reads) R):EW o F p base r k t reads R:=by
 obtain⟨v,M',c',e,h⟩:=h
 rw[e];exact h
structure eA(F:RO)(M:Mem)(c:Nat):Prop where
 hiM:∀b,c≤b→M.get b=none
 hiF:∀b,c≤b→aZ F b=none
 ap:∀b,(aZ F b).isSome→M.get b=none
 ge:1000≤c
structure Gr(c:Nat)(M:Mem)(c':Nat)(M':Mem):Prop where
 le:c≤c'
 old:∀b,b<c→M'.get b=M.get b
 new:∀b,c'≤b→M'.get b=none
theorem sm(M:Mem):∀F:RO,(∀b,(aZ F b).isSome→M.get b=none)→bN M F=true
 |[],_=>rfl
 |(b,x)::F,h=>by
  rw[iY,h b (by
   show(Bool.rec (motive:=fun _=>Option bz) (aZ F b) (some x) (Nat.beq b b)).isSome=true;rw[Nat.beq_refl];rfl)]
  rw[sm M F fun b' hb'=>h b' (by
   show(Bool.rec (motive:=fun _=>Option bz) (aZ F b') (some x) (Nat.beq b b')).isSome=true;cases Nat.beq b b' with
   |true=>rfl
   |false=>exact hb')]
  rfl
theorem eA.free{M:Mem}{c:Nat}(h:eA F M c):bN M F=true:=sm M F h.ap
theorem eA.look{M:Mem}{c:Nat}(h:eA F M c){b:Nat}(hb:c≤b):look F M b=none:=by
 rw[aO (h.hiM b hb),h.hiF b hb]
theorem Gr.refl{M:Mem}{c:Nat}(h:eA F M c):Gr c M c M:=⟨ah _,fun _ _=>rfl,h.hiM⟩
theorem Gr.trans{M M1 M2:Mem}{c c1 c2:Nat}(h:Gr c M c1 M1)(h2:Gr c1 M1 c2 M2):Gr c M c2 M2:=
 ⟨bm h.le h2.le,fun b hb=>(h2.old b (Nat.lt_of_lt_of_le hb h.le)).trans (h.old b hb),h2.new⟩
theorem Gr.ok{M M1:Mem}{c c1:Nat}(h:Gr c M c1 M1)(ho:eA F M c):eA F M1 c1:=by
 refine⟨h.new,fun b hb=>ho.hiF b (bm h.le hb),fun b hb=>?_,bm ho.ge h.le⟩
 have:b<c:=by
  by_cases hc:b<c
  ·exact hc
  ·rw[ho.hiF b (by omega)]at hb;cases hb
 rw[h.old b this];exact ho.ap b hb
theorem Gr.set{M M1:Mem}{c c1 c2:Nat}(h:Gr c M c1 M1)(b:Nat)(x:bz)(h1:c≤b)(h2:b<c2)(h3:c1≤c2):Gr c M c2 (M1.set b x):=by
 refine⟨bm h.le h3,fun b' hb'=>?_,fun b' hb'=>?_⟩
 ·rw[aq _ _ (by omega)];exact h.old b' hb'
 ·rw[aq _ _ (by omega)];exact h.new b' (by omega)
theorem Gr.del{M M1:Mem}{c c1:Nat}(h:Gr c M c1 M1)(b:Nat)(h1:c≤b):Gr c M c1 (M1.del b):=by
 refine⟨h.le,fun b' hb'=>?_,fun b' hb'=>?_⟩
 ·rw[Tr.get_del,ab (by omega)];exact h.old b' hb'
 ·rw[Tr.get_del];split
  ·rfl
  ·exact h.new b' hb'
theorem Gr.up{M M1:Mem}{c c1 c2:Nat}(h:Gr c M c1 M1)(h3:c1≤c2):Gr c M c2 M1:=
 ⟨bm h.le h3,h.old,fun b hb=>h.new b (by omega)⟩
theorem Gr.look{M M1:Mem}{c c1:Nat}(h:Gr c M c1 M1){b:Nat}(hb:b<c):look F M1 b=look F M b:=eM (h.old b hb)
theorem Gr.load1{M M1:Mem}{c c1:Nat}(h:Gr c M c1 M1){b:Nat}(hb:b<c)(o:Nat):load1 F M1 b o=load1 F M b o:=by
 unfold Ev.load1;rw[h.look hb]
theorem Gr.loadN{M M1:Mem}{c c1:Nat}(h:Gr c M c1 M1){b:Nat}(hb:b<c)(o n:Nat):loadN F M1 b o n=loadN F M b o n:=by
 unfold Ev.loadN;rw[h.look hb]
theorem qT{α:Type}(v:α):∀(t:Tr α) (k:Nat),t.get k=some v→t.put (some v) k=t
 | .e,k,h=>by cases h
 | .n l x r,k,h=>by
   rw[Tr.put_n];rw[Tr.get_n]at h;by_cases h0:k=0
   ·rw[ac h0]at h⊢;rw[h]
   ·rw[ab h0]at h⊢;by_cases h2:k%2=0
    ·rw[ac h2]at h⊢;rw[qT v r _ h]
    ·rw[ab h2]at h⊢;rw[qT v l _ h]
theorem lF{M:Mem}{b:Nat}{x:bz}(h:M.get b=some x):M=M.set b x:=(qT x M b h).symm
def j9(F:RO)(M:Mem)(b:Nat)(row:List V):Prop:=∃ty ex fz str d c,look F M b=some (.cells ty row.length ex fz str d c)∧ ∀i,i<row.length→cell row.length d c i=row[i]?
theorem j9.load1{M:Mem}{b:Nat}{row:List V}(h:j9 F M b row)(o:Nat):load1 F M b o=row[o]?:=by
 obtain⟨ty,ex,fz,str,d,c,hl,hc⟩:=h
 unfold Ev.load1
 rw[hl]
 show cell row.length d c o=_
 by_cases ho:o<row.length
 ·exact hc o ho
 ·rw[bY,ab ho,List.getElem?_eq_none (by omega)]
theorem uS{d:List V}{c:T}{row:List V}(hc:∀i,i<row.length→cell row.length d c i=row[i]?):∀(n i:Nat),i+n≤row.length→fg row.length d c n i=some ((row.drop i).take n)
 |0,i,h=>by rw[qw];simp
 |n+1,i,h=>by
  rw[jn,hc i (by omega),List.getElem?_eq_getElem (by omega)];show(match fg row.length d c n (i+1)with|none=>none|some r=>some (row[i]::r))=_;rw[uS hc n (i+1) (by omega)];simp only;rw[←List.getElem_cons_drop (by omega:i<row.length),List.take_succ_cons]
theorem j9.loadN{M:Mem}{b:Nat}{row:List V}(h:j9 F M b row)(o n:Nat)(hn:o+n≤row.length):loadN F M b o n=some ((row.drop o).take n):=by
 obtain⟨ty,ex,fz,str,d,c,hl,hc⟩:=h
 unfold Ev.loadN
 rw[hl]
 exact uS hc n o hn
theorem j9.grow{M M':Mem}{b c c':Nat}{row:List V}(h:j9 F M b row)(hg:Gr c M c' M')(hb:b<c):j9 F M' b row:=by
 obtain⟨ty,ex,fz,str,d,cs,hl,hc⟩:=h
 exact⟨ty,ex,fz,str,d,cs,by rw[hg.look hb];exact hl,hc⟩
theorem j9.ne{M:Mem}{b b':Nat}{x:bz}{row:List V}(h:j9 F M b row)(hb:b≠b'):j9 F (M.set b' x) b row:=by
 obtain⟨ty,ex,fz,str,d,cs,hl,hc⟩:=h
 exact⟨ty,ex,fz,str,d,cs,by rw[nG M x hb];exact hl,hc⟩
theorem nU{M:Mem}{b ty fz:Nat}{ex str:Bool}{row:List V}(h:M.get b=some (.cells ty row.length ex fz str [] (iZ row))):j9 F M b row:=
 ⟨ty,ex,fz,str,[],iZ row,am h,fun i hi=>uR row i⟩
def cP(F:RO)(M:Mem)(b o:Nat)(row:List V):Prop:=∀k,k<row.length→load1 F M b (o+k)=row[k]?
theorem j9.cells{M:Mem}{b:Nat}{row:List V}(h:j9 F M b row):cP F M b 0 row:=fun k _=>by rw[Nat.zero_add];exact h.load1 k
theorem cP.grow{M M':Mem}{b o c c':Nat}{row:List V}(h:cP F M b o row)(hg:Gr c M c' M')(hb:b<c):cP F M' b o row:=fun k hk=>by rw[hg.load1 hb];exact h k hk
theorem cP.of_get{M M':Mem}{b o:Nat}{row:List V}(h:cP F M b o row)(hg:M'.get b=M.get b):cP F M' b o row:=fun k hk=>by
 unfold Ev.load1;rw[eM hg];exact h k hk
theorem cP.sub{M:Mem}{b o:Nat}{row:List V}(h:cP F M b o row)(i n:Nat)(hn:i+n≤row.length):cP F M b (o+i) ((row.drop i).take n):=fun k hk=>by
 simp only[List.length_take,cM]at hk
 rw[Nat.add_assoc,h (i+k) (by omega),List.getElem?_take,ac (by omega),List.getElem?_drop]
theorem Dx{M:Mem}{b o:Nat}{v:V}(h:Ev.load1 F M b o=some v):∃ty n ex fz str d c,look F M b=some (.cells ty n ex fz str d c)∧cell n d c o=some v:=by
 unfold Ev.load1 at h
 cases hl:look F M b with
 |none=>rw[hl]at h;cases h
 |some x=>
  rw[hl]at h;cases x with
  |cells ty n ex fz str d c=>exact⟨ty,n,ex,fz,str,d,c,rfl,h⟩
  |_=>cases h
theorem cP.load{M:Mem}{b o:Nat}{row:List V}(h:cP F M b o row)(hr:row≠[]):loadN F M b o row.length=some row:=by
 cases row with
 |nil=>exact absurd rfl hr
 |cons v r=>
  have h0:=h 0 (by simp);simp only[cE,List.getElem?_cons_zero]at h0;obtain⟨ty,n,ex,fz,str,d,c,hl,_⟩:=Dx h0;have key:∀(l:List V) (o:Nat),(∀k,k<l.length→Ev.load1 F M b (o+k)=l[k]?)→fg n d c l.length o=some l:=by
   intro l
   induction l with
   |nil=>intro o _;rfl
   |cons x l ih=>
    intro o hx;have e0:=hx 0 (by simp);simp only[cE,List.getElem?_cons_zero]at e0;unfold Ev.load1 at e0;rw[hl]at e0;have e0':cell n d c o=some x:=e0;rw[bk,jn,e0'];show(match fg n d c l.length (o+1)with|none=>none|some r=>some (x::r))=_
    rw[ih (o+1) fun k hk=>by
     have:=hx (k+1) (by simpa using hk);rw[List.getElem?_cons_succ]at this;rw[←this];congr 1;omega]
  unfold Ev.loadN;rw[hl];exact key (v::r) o h
theorem cP.loadN{M:Mem}{b o:Nat}{row:List V}(h:cP F M b o row)(i n:Nat)(hn:i+n≤row.length)(h0:0<n):loadN F M b (o+i) n=some ((row.drop i).take n):=by
 have hs:=h.sub i n hn
 have hl:((row.drop i).take n).length=n:=by simp;omega
 have:=hs.load (by intro e;rw[e]at hl;simp at hl;omega)
 rwa [hl]at this
theorem fw:∀{es:List (List V)} {sz:Nat},(∀e∈es,e.length=sz)→es.flatten.length=es.length*sz
 |[],sz,_=>by simp
 |e::es,sz,h=>by
  rw[List.flatten_cons,bE,fw fun x hx=>h x (bc _ hx),h e (bh ..),bk,Nat.add_mul];omega
theorem AD:∀{es:List (List V)} {sz:Nat},(∀e∈es,e.length=sz)→ ∀(i:Nat) (h:i<es.length),(es.flatten.drop (i*sz)).take sz=es[i]
 |[],sz,_,i,h=>by cases h
 |e::es,sz,h,0,_=>by
  rw[List.flatten_cons,Nat.zero_mul,List.drop_zero,List.take_append_of_le_length (by rw[h e (bh ..)];exact ah _),List.getElem_cons_zero,←h e (bh ..),List.take_length]
 |e::es,sz,h,i+1,hi=>by
  have he:=h e (bh ..);rw[List.flatten_cons,List.getElem_cons_succ,Nat.add_mul,Nat.one_mul,Nat.add_comm,List.drop_append,he,List.drop_eq_nil_of_le (by omega),List.nil_append,Nat.add_sub_cancel_left];exact AD (fun x hx=>h x (bc _ hx)) i (by simpa using hi)
def cU(F:RO)(M:Mem)(c sz:Nat)(v:V)(es:List (List V)):Prop:=
 (∀e∈es,e.length=sz)∧((es=[]∧(v= .l0∨ ∃b o0 o,v= .ue b o0 o))∨
  ∃b o,((∃cap,es.length≤cap∧v= .l b o es.length cap)∨(∃el kn,el+es.length≤kn∧v= .u b o es.length el kn))∧b<c∧cP F M b o es.flatten)
theorem cU.len{M:Mem}{c sz:Nat}{v:V}{es:List (List V)}(h:cU F M c sz v es):Dv v=some (.i .i64 (es.length:Int)):=by
 rcases h with⟨_,⟨rfl,h|⟨b,o0,o,h⟩⟩|⟨b,o,⟨cap,_,h⟩|⟨el,kn,_,h⟩,_⟩⟩
 ·rw[h];exact Dw
 ·rw[h];exact Vo _ _ _
 ·rw[h];exact aZ4 _ _ _ _
 ·rw[h];exact Vn _ _ _ _ _
theorem cU.grow{M M':Mem}{c c' sz:Nat}{v:V}{es:List (List V)}(h:cU F M c sz v es)(hg:Gr c M c' M'):cU F M' c' sz v es:=by
 rcases h with⟨h0,h|⟨b,o,hv,hb,hr⟩⟩
 ·exact⟨h0,.inl h⟩
 ·exact⟨h0,.inr ⟨b,o,hv,Nat.lt_of_lt_of_le hb hg.le,hr.grow hg hb⟩⟩
theorem cU.at{M:Mem}{c sz:Nat}{v:V}{es:List (List V)}(h:cU F M c sz v es)(i:Nat)(hi:i<es.length):
 ∃b o,b<c∧(∀k,dS sz v (.i k (i:Int))=some (.p b o))∧cP F M b o es[i]:=by
 rcases h with⟨h0,⟨rfl,_⟩|⟨b,o,hv,hb,hr⟩⟩
 ·cases hi
 ·have hle:i*sz+sz≤es.flatten.length:=by
   have:(i+1)*sz≤es.length*sz:=Nat.mul_le_mul_right _ hi;rw[Nat.add_mul,Nat.one_mul]at this;rw[fw h0];exact this
  refine⟨b,o+i*sz,hb,fun k=>?_,?_⟩
  ·rcases hv with⟨cap,_,rfl⟩|⟨el,kn,_,rfl⟩
   ·exact dN _ _ _ _ _ _ _ hi
   ·exact bN1 _ _ _ _ _ _ _ _ hi
  ·have:=hr.sub (i*sz) sz hle
   rwa [AD h0 i hi]at this
theorem cU.one{M:Mem}{c:Nat}{v:V}{es:List (List V)}(h:cU F M c 1 v es)(i:Nat)(hi:i<es.length){x:V}(hx:es[i]=[x]):
 ∃b o,b<c∧(∀k,dS 1 v (.i k (i:Int))=some (.p b o))∧load1 F M b o=some x:=by
 obtain⟨b,o,h1,h2,h3⟩:=h.at i hi
 refine⟨b,o,h1,h2,?_⟩
 have:=h3 0 (by rw[hx];simp)
 rw[cE,hx]at this
 exact this
theorem eA.set{M:Mem}{c c':Nat}(h:eA F M c)(b:Nat)(x:bz)(h1:c≤b)(h2:b<c'):eA F (M.set b x) c':=by
 refine⟨fun b' hb'=>?_,fun b' hb'=>h.hiF b' (by omega),fun b' hb'=>?_,by have:=h.ge;omega⟩
 ·rw[aq _ _ (by omega)];exact h.hiM b' (by omega)
 ·have:b'≠b:=by
   intro e;subst e;rw[h.hiF b' h1]at hb';cases hb'
  rw[aq _ _ this];exact h.ap b' hb'
theorem eA.free_set{M:Mem}{c:Nat}(h:eA F M c)(x:bz):bN (M.set c x) F=true:=(h.set c x (ah _) (bD _)).free
abbrev l9(F:RO)(M:Mem)(c:Nat)(v:V)(l:List UInt8):Prop:=cU F M c 1 v (l.map fun x=>[bV x])
theorem l9.get{M:Mem}{c:Nat}{v:V}{l:List UInt8}(h:l9 F M c v l)(i:Nat)(hi:i<l.length):
 ∃b o,b<c∧(∀k,dS 1 v (.i k (i:Int))=some (.p b o))∧load1 F M b o=some (.i .u8 (l[i].toNat:Int)):=
 cU.one h i (by simpa using hi) (by simp[bV])
theorem l9.len{M:Mem}{c:Nat}{v:V}{l:List UInt8}(h:l9 F M c v l):Dv v=some (.i .i64 (l.length:Int)):=by
 have:=cU.len h
 rwa [List.length_map]at this
theorem aw(M:Mem)(b:Nat)(x:bz):(M.set b x).get b=some x:=by rw[Tr.get_set,ac rfl]
end
section
variable{Φ:Nat→Option CF}{rd:Option Nat}{fn:Nat}{F:RO}
theorem HP{M:Mem}{c sz:Nat}{v:V}{es:List (List V)}(h:cU F M c sz v es):qK v=some es.length:=by
 rcases h with⟨_,⟨rfl,rfl|⟨b,o0,o,rfl⟩⟩|⟨b,o,⟨cap,_,rfl⟩|⟨el,kn,_,rfl⟩,_⟩⟩<;>rfl
theorem nR{M:Mem}{sz b o:Nat}{es:List (List V)}(hsz:0<sz)(h0:∀e∈es,e.length=sz)(h:cP F M b o es.flatten):∃r,readB F M sz es.length b o=some (es.flatten,r):=by
 unfold readB
 rw[bp]
 cases es with
 |nil=>exact⟨none,rfl⟩
 |cons e es=>
  have hl:=fw h0;have hne:(e::es).flatten≠[]:=by
   intro h;rw[h]at hl;simp only[cF,bk,Nat.add_mul]at hl;omega
  have:=h.load hne;rw[hl]at this;rw[ag (by simp),cond_false];show∃r,(match loadN F M b o ((e::es).length*sz)with|some vs=>some (vs,some b)|none=>none)=_;rw[this];exact⟨some b,rfl⟩
theorem Bk{M:Mem}{c sz:Nat}{v:V}{es:List (List V)}(hsz:0<sz)(h:cU F M c sz v es):∃r,readL F M sz es.length v=some (es.flatten,r):=by
 rcases h with⟨h0,⟨rfl,rfl|⟨b,o0,o,rfl⟩⟩|⟨b,o,⟨cap,_,rfl⟩|⟨el,kn,_,rfl⟩,_,hc⟩⟩
 ·exact⟨none,rfl⟩
 ·exact⟨none,rfl⟩
 ·exact nR hsz h0 hc
 ·exact nR hsz h0 hc
theorem ri{M:Mem}{c sz:Nat}{v:V}{es:List (List V)}(hsz:0<sz)(h:cU F M c sz v es):gf F M sz v=some (es.length,es.flatten):=by
 have hl:=HP h
 obtain⟨r,hr⟩:=Bk hsz h
 have hs:∀n x,v≠ .s n x:=by
  intro n x e;rcases h with⟨_,⟨rfl,h|⟨b,o0,o,h⟩⟩|⟨b,o,⟨cap,_,h⟩|⟨el,kn,_,h⟩,_⟩⟩<;>(rw[e]at h;cases h)
 have e:gf F M sz v=match qK v with|some n=>ad8 n (readL F M sz n v)|none=>none:=by
  cases v<;>first|rfl|exact absurd rfl (hs _ _)
 rw[e,hl]
 show ad8 es.length (readL F M sz es.length v)=_
 rw[hr];rfl
theorem ae1{M:Mem}(l:List UInt8):gf F M 1 (sV l)=some (l.length,l.map bV):=by
 show(bif Nat.beq 1 1 then some (l.length,bM l.length (bP l))else none)=_
 rw[kB];rfl
def Bu(ty:Nat)(row:List V):bz:= .cells ty row.length false 0 false [] (iZ row)
def cu(M:Mem)(c0 c b ty sz:Nat)(v:V)(es:List (List V)):Prop:=
 (∀e∈es,e.length=sz)∧((es=[]∧v= .l0)∨(c0≤b∧b<c∧v= .u b 0 es.length 0 es.length∧M.get b=some (Bu ty es.flatten)))
theorem cu.nil{M:Mem}{c0 c b ty sz:Nat}:cu M c0 c b ty sz .l0 []:=⟨fun e he=>(by cases he),.inl ⟨rfl,rfl⟩⟩
theorem zL{M:Mem}{b ty:Nat}{row:List V}(h:M.get b=some (Bu ty row)):j9 F M b row:=nU h
theorem cu.sl{M:Mem}{c0 c b ty sz:Nat}{v:V}{es:List (List V)}(h:cu M c0 c b ty sz v es):cU F M c sz v es:=by
 rcases h with⟨h0,⟨rfl,rfl⟩|⟨h1,h2,rfl,h3⟩⟩
 ·exact⟨h0,.inl ⟨rfl,.inl rfl⟩⟩
 ·exact⟨h0,.inr ⟨b,0,.inr ⟨0,es.length,by omega,rfl⟩,h2,(zL h3).cells⟩⟩
theorem cu.up{M M':Mem}{c0 c c' b ty sz:Nat}{v:V}{es:List (List V)}(h:cu M c0 c b ty sz v es)(hc:c≤c')(hb:b<c→M'.get b=M.get b):cu M' c0 c' b ty sz v es:=by
 rcases h with⟨h0,h|⟨h1,h2,rfl,h3⟩⟩
 ·exact⟨h0,.inl h⟩
 ·exact⟨h0,.inr ⟨h1,by omega,rfl,by rw[hb h2];exact h3⟩⟩
theorem cu.gr{M M':Mem}{c0 c c' b ty sz:Nat}{v:V}{es:List (List V)}(h:cu M c0 c b ty sz v es)(hg:Gr c M c' M'):cu M' c0 c' b ty sz v es:=h.up hg.le fun hb=>hg.old b hb
theorem eO{n bytes:Nat}(h:(3*n+2000)*bytes≤281474976710656)(h1:n≤1099511627776):kY n bytes=true:=by
 unfold kY
 rw[bG,bG]
 have a:decide (Nat.mul (Nat.add (Nat.mul 3 n) 2000) bytes≤281474976710656)=true:=af h
 rw[a,af h1];rfl
theorem qH(M:Mem)(c ty bytes len:Nat)(vs:List V)(h:kY len bytes=true):jW M c ty bytes len 0 false vs= .k (.u c 0 len 0 len) (M.set c (Bu ty vs)) (c+1):=by
 unfold jW
 rw[h]
 show(M.set c (.cells ty vs.length false 0 false [] (aX vs 0 .e))).force (fun M=>fN (Nat.succ c) fun c'=>fN len fun len=>RC.k (.u c 0 len 0 len) M c')=_
 rw[Tr.force_eq,aQ,aQ];rfl
theorem pc:∀(a b:List V) (k:Nat) (t:T),aX (a++b) k t=aX b (k+a.length) (aX a k t)
 |[],b,k,t=>by rw[vA];rfl
 |v::a,b,k,t=>by rw[List.cons_append,cO,cO,pc a b,bk,show k+1+a.length=k+(a.length+1) by omega]
theorem xN(M:Mem)(c ty bytes len:Nat)(old new:List V)(h:kY len bytes=true):nD M c ty bytes len 0 false new old.length [] (aX old 0 .e)= .k (.u c 0 len 0 len) (M.set c (Bu ty (old++new))) (c+1):=by
 unfold nD
 rw[h]
 show((aX new old.length (aX old 0 .e)).force fun cs=>fN (Nat.add old.length new.length) fun m=>(M.set c (.cells ty m false 0 false [] cs)).force fun M=>fN (Nat.succ c) fun c'=>fN len fun len=>RC.k (.u c 0 len 0 len) M c')=_
 rw[Tr.force_eq,aQ,Tr.force_eq,aQ,aQ]
 unfold Bu iZ
 rw[bE,pc,Nat.zero_add];rfl
theorem Fd{M:Mem}{c ty sz bytes n:Nat}{new:List V}(h:n≠0):app F M c ty sz bytes .l0 n new=jW M c ty bytes n 0 false new:=by
 unfold app
 rw[bp,ag h,cond_false]
theorem Ct{M:Mem}{c ty sz bytes b o len el kn n:Nat}{new:List V}(h:n≠0):app F M c ty sz bytes (.u b o len el kn) n new=oR F M c ty sz bytes b o len el kn n new:=by
 unfold app
 rw[bp,ag h,cond_false]
theorem b67{M0 M:Mem}{c0 c b ty sz bytes:Nat}{v:V}{es ns:List (List V)}(h:cu M c0 c b ty sz v es)(hg:Gr c0 M0 c M)(hsz:0<sz)(hn:∀e∈ns,e.length=sz)(h1:br ns.flatten=true)(hr:kY (es.length+ns.length) bytes=true):
 wY (kR F M c ty sz bytes v (some (ns.length,ns.flatten))) fun v' M' c'=>∃b',cu M' c0 c' b' ty sz v' (es++ns)∧Gr c0 M0 c' M'∧c≤c'∧(∀x,x<c→x≠b→M'.get x=M.get x)∧(b'=b∨c≤b'):=by
 have hnl:=fw hn
 have e1:kR F M c ty sz bytes v (some (ns.length,ns.flatten))=app F M c ty sz bytes v ns.length ns.flatten:=by
  show(bif br ns.flatten&&Nat.beq ns.flatten.length (Nat.mul ns.length sz)then _ else _)=_;rw[h1,bp,af (show ns.flatten.length=Nat.mul ns.length sz from hnl)];rfl
 rw[e1]
 have hall:∀e∈es++ns,e.length=sz:=by
  intro e he;rcases List.mem_append.1 he with he|he
  ·exact h.1 e he
  ·exact hn e he
 by_cases hz:ns=[]
 ·subst hz;have e2:app F M c ty sz bytes v 0 []= .k v M c:=by
   show(bif Nat.beq 0 0 then(bif xX v then RC.k v M c else .f)else _)=_;have:xX v=true:=by
    rcases h with⟨_,⟨_,rfl⟩|⟨_,_,rfl,_⟩⟩
    ·rfl
    ·show Nat.ble es.length (Nat.sub es.length 0)=true;rw[bG];exact af (ah _)
   rw[this];rfl
  exact⟨v,M,c,e2,b,by rw[di];exact h,hg,ah _,fun _ _ _=>rfl,.inl rfl⟩
 ·have hn0:ns.length≠0:=fun e=>hz (List.length_eq_zero_iff.1 e);rcases h with⟨h0,⟨rfl,rfl⟩|⟨ha,hb,rfl,hM⟩⟩
  ·rw[cF,Nat.zero_add]at hr;refine⟨_,_,_,(Fd hn0).trans (qH M c ty bytes ns.length ns.flatten hr),c,⟨hall,.inr ⟨hg.le,by omega,rfl,?_⟩⟩,hg.set c _ hg.le (by omega) (by omega),by omega,fun x hx _=>aq _ _ (by omega),.inr (ah _)⟩;rw[Tr.get_set,ac rfl];rfl
  ·have hel:=fw h0;obtain⟨r,hrd⟩:=nR hsz h0 (zL (F:=F) hM).cells;have hmw:gT M b ty (Nat.add 0 (Nat.mul es.length sz)) (Nat.add 0 (Nat.mul (Nat.sub es.length 0) sz))=some (0,false):=by
    unfold gT;rw[hM];show(bif Nat.beq ty ty&&Nat.beq es.flatten.length (0+(es.length-0)*sz)&&Nat.ble 0 (0+es.length*sz)&&Nat.ble (0+es.length*sz) (0+(es.length-0)*sz)then some (0,false)else none)=_;rw[bp,bp,bG,bG,af (show ty=ty from rfl),af (show es.flatten.length=0+(es.length-0)*sz by rw[hel];simp),af (aM _),af (show 0+es.length*sz≤0+(es.length-0)*sz by simp)];rfl
   have e3:oR F M c ty sz bytes b 0 es.length 0 es.length ns.length ns.flatten= .k (.u c 0 (es.length+ns.length) 0 (es.length+ns.length)) ((M.del b).set c (Bu ty (es.flatten++ns.flatten))) (c+1):=by
    unfold oR;rw[bG,ag (show¬Nat.add (Nat.add 0 es.length) ns.length≤es.length by show¬0+es.length+ns.length≤es.length;omega),cond_false,hmw];show(bif Nat.beq 0 0&&Nat.beq (es.length-0) es.length then Df (M.del b) c ty bytes (es.length+ns.length) 0 false ns.flatten (M.get b)else _)=_;rw[bp,bp,af rfl,af (Nat.sub_zero _),Bool.true_and,cond_true,hM];exact xN _ c ty bytes _ es.flatten ns.flatten hr
   refine⟨_,_,_,(Ct hn0).trans e3,c,⟨hall,.inr ⟨by omega,by omega,by rw[bE],?_⟩⟩,(hg.del b ha).set c _ (by omega) (by omega) (by omega),by omega,fun x hx hxb=>?_,.inr (ah _)⟩
   ·rw[Tr.get_set,ac rfl,List.flatten_append]
   ·rw[aq _ _ (by omega),Tr.get_del,ab hxb]
def zN(sz:Nat)(x:V)(lo hi mx:Option V):Option V:=(cY (.slL sz (.c x) (lo.map .c) (hi.map .c) (mx.map .c)) [] .e .e).val
theorem se(tm:T)(o:Option X):optNN .e ((o.map fun x=>x.ev tm).map .c)=optNN tm o:=by cases o<;>rfl
theorem b12(sz:Nat)(x:X)(lo hi mx:Option X)(M:Mem)(t:T):(cY (.slL sz x lo hi mx) F M t).val=zN sz (x.ev t) (lo.map fun x=>x.ev t) (hi.map fun x=>x.ev t) (mx.map fun x=>x.ev t):=by
 show(sj sz (x.ev t) (optNN t lo) (optNN t hi) (optNN t mx)).val=(sj sz (x.ev t) (optNN .e _) (optNN .e _) (optNN .e _)).val
 rw[se,se,se]
theorem Dz(b o n c:Nat):mkL b o n c= .v (.l b o n c):=by unfold mkL;rw[aQ,aQ,aQ]
theorem zp(b o n el kn:Nat):mkU b o n el kn= .v (.u b o n el kn):=by unfold mkU;rw[aQ,aQ,aQ]
theorem UQ{es:List (List V)}{sz lo hi:Nat}(h0:∀e∈es,e.length=sz)(h1:lo≤hi)(h2:hi≤es.length):((es.take hi).drop lo).flatten=(es.flatten.drop (lo*sz)).take ((hi-lo)*sz):=by
 have key:∀(es:List (List V)) (k:Nat),(∀e∈es,e.length=sz)→(es.take k).flatten=es.flatten.take (k*sz)∧(es.drop k).flatten=es.flatten.drop (k*sz):=by
  intro es
  induction es with
  |nil=>intro k _;simp
  |cons e es ih=>
   intro k h;cases k with
   |zero=>simp
   |succ k=>
    obtain⟨a,b⟩:=ih k fun x hx=>h x (bc _ hx);have he:=h e (bh ..);constructor
    ·rw[List.take_succ_cons,List.flatten_cons,List.flatten_cons,a,show(k+1)*sz=e.length+k*sz by rw[Nat.add_mul,he];omega,List.take_length_add_append]
    ·rw[List.drop_succ_cons,List.flatten_cons,b,show(k+1)*sz=e.length+k*sz by rw[Nat.add_mul,he];omega,List.drop_length_add_append]
 have ht:∀e∈es.take hi,e.length=sz:=fun e he=>h0 e (List.mem_of_mem_take he)
 rw[(key (es.take hi) lo ht).2,(key es hi h0).1,List.drop_take,Nat.sub_mul]
theorem E7{M:Mem}{c sz:Nat}{v:V}{es:List (List V)}{lo hi:Nat}(h:cU F M c sz v es)(h1:lo≤hi)(h2:hi≤es.length):
 ∃v',(tZ sz v (some lo) (some hi) none= .v v'∧(lo=0→tZ sz v none (some hi) none= .v v')∧(hi=es.length→tZ sz v (some lo) none none= .v v')∧(lo=0→hi=es.length→tZ sz v none none none= .v v'))∧cU F M c sz v' ((es.take hi).drop lo):=by
 have hs:∀e∈(es.take hi).drop lo,e.length=sz:=fun e he=>h.1 e (List.mem_of_mem_take (List.mem_of_mem_drop he))
 have hl:((es.take hi).drop lo).length=hi-lo:=by simp;omega
 rcases h with⟨h0,⟨rfl,rfl|⟨b,o0,o,rfl⟩⟩|⟨b,o,hv,hb,hc⟩⟩
 ·obtain rfl:hi=0:=by simpa using h2
  obtain rfl:lo=0:=by omega
  exact⟨.l0,⟨rfl,fun _=>rfl,fun _=>rfl,fun _ _=>rfl⟩,hs,.inl ⟨rfl,.inl rfl⟩⟩
 ·obtain rfl:hi=0:=by simpa using h2
  obtain rfl:lo=0:=by omega
  exact⟨.ue b o0 o,⟨rfl,fun _=>rfl,fun _=>rfl,fun _ _=>rfl⟩,hs,.inl ⟨rfl,.inr ⟨b,o0,o,rfl⟩⟩⟩
 ·have hfl:=fw h0;have hcs:cP F M b (o+lo*sz) ((es.take hi).drop lo).flatten:=by
   rw[UQ h0 h1 h2];refine hc.sub _ _ ?_;rw[hfl,←Nat.add_mul];exact Nat.mul_le_mul_right _ (by omega)
  rcases hv with⟨cap,hcap,rfl⟩|⟨el,kn,hkn,rfl⟩
  ·have e:tl sz b o cap lo hi cap= .v (.l b (if cap=lo then o else o+lo*sz) (hi-lo) (cap-lo)):=by
    unfold tl;rw[bG,bG,bG,bp,af (ah cap),af (show hi≤cap by omega),af h1];show mkL b (bif decide (cap=lo)then o else o+lo*sz) (hi-lo) (cap-lo)=_;rw[Dz];by_cases hh:cap=lo
    ·rw[af hh,ac hh];rfl
    ·rw[ag hh,ab hh];rfl
   refine⟨_,⟨e,fun hh=>?_,fun hh=>?_,fun hh hh2=>?_⟩,hs,.inr ⟨b,if cap=lo then o else o+lo*sz,.inl ⟨cap-lo,by rw[hl];omega,by rw[hl]⟩,hb,?_⟩⟩
   ·subst hh;exact e
   ·subst hh;exact e
   ·subst hh hh2;exact e
   ·by_cases hh:cap=lo
    ·rw[ac hh];have:(es.take hi).drop lo=[]:=List.eq_nil_of_length_eq_zero (by omega);rw[this];intro k hk;simp at hk
    ·rw[ab hh];exact hcs
  ·by_cases hz:lo=0
   ·subst hz;have e:pm sz b o el kn 0 hi= .v (.u b o hi el kn):=by
     unfold pm;rw[bG,bG,af (show Nat.add el hi≤kn by show el+hi≤kn;omega),af (aM hi)];exact zp _ _ _ _ _
    refine⟨_,⟨e,fun _=>e,fun hh=>?_,fun _ hh=>?_⟩,hs,.inr ⟨b,o,.inr ⟨el,kn,by rw[hl];omega,by rw[hl];rfl⟩,hb,by simpa using hcs⟩⟩
    ·subst hh;exact e
    ·subst hh;exact e
   ·by_cases hh:el+lo<kn
    ·have e:pm sz b o el kn lo hi= .v (.u b (o+lo*sz) (hi-lo) (el+lo) kn):=by
      unfold pm;rw[bG,bG,bp,eT,af (show Nat.add el hi≤kn by show el+hi≤kn;omega),af h1,ag hz,af (show Nat.add el lo<kn from hh)];exact zp _ _ _ _ _
     refine⟨_,⟨e,fun h=>absurd h hz,fun hh=>?_,fun h _=>absurd h hz⟩,hs,.inr ⟨b,o+lo*sz,.inr ⟨el+lo,kn,by rw[hl];omega,by rw[hl]⟩,hb,hcs⟩⟩;subst hh;exact e
    ·have e:pm sz b o el kn lo hi= .v (.ue b o (o+lo*sz)):=by
      unfold pm;rw[bG,bG,bp,eT,af (show Nat.add el hi≤kn by show el+hi≤kn;omega),af h1,ag hz,ag (show¬Nat.add el lo<kn from hh)];show fN (o+lo*sz) (fun o'=>QR.v (.ue b o o'))=_;rw[aQ]
     have hnil:(es.take hi).drop lo=[]:=List.eq_nil_of_length_eq_zero (by omega);refine⟨_,⟨e,fun h=>absurd h hz,fun hh=>?_,fun h _=>absurd h hz⟩,hs,.inl ⟨hnil,.inr ⟨b,o,_,rfl⟩⟩⟩;subst hh;exact e
theorem Ix{M:Mem}{c sz:Nat}{v:V}{es:List (List V)}{lo hi:Nat}(h:cU F M c sz v es)(h1:lo≤hi)(h2:hi≤es.length):
 ∃v',(∀k k',zN sz v (some (.i k (lo:Int))) (some (.i k' (hi:Int))) none=some v')∧(lo=0→ ∀k',zN sz v none (some (.i k' (hi:Int))) none=some v')∧(hi=es.length→ ∀k,zN sz v (some (.i k (lo:Int))) none none=some v')∧(lo=0→hi=es.length→zN sz v none none none=some v')∧cU F M c sz v' ((es.take hi).drop lo):=by
 obtain⟨v',⟨e1,e2,e3,e4⟩,hs⟩:=E7 h h1 h2
 refine⟨v',fun k k'=>?_,fun h0 k'=>?_,fun h0 k=>?_,fun h0 h0'=>?_,hs⟩
 ·show(tZ sz v (some lo) (some hi) none).val=_;rw[e1];rfl
 ·show(tZ sz v none (some hi) none).val=_;rw[e2 h0];rfl
 ·show(tZ sz v (some lo) none none).val=_;rw[e3 h0];rfl
 ·show(tZ sz v none none none).val=_;rw[e4 h0 h0'];rfl
def tF(F:RO)(M:Mem)(c ty sz bytes:Nat)(x y:V):RC:=kR F M c ty sz bytes x (gf F M sz y)
theorem Xm(ty sz bytes:Nat)(x y:X)(M:Mem)(c:Nat)(t:T):iG (.app ty sz bytes x y) (K Φ rd fn F) M c t=tF F M c ty sz bytes (x.ev t) (y.ev t):=rfl
theorem lR{M0 M:Mem}{c0 c b ty sz bytes:Nat}{v y:V}{es ns:List (List V)}(h:cu M c0 c b ty sz v es)(hg:Gr c0 M0 c M)(hsz:0<sz)(hy:cU F M c sz y ns)(h1:br ns.flatten=true)(hr:kY (es.length+ns.length) bytes=true):
 wY (tF F M c ty sz bytes v y) fun v' M' c'=>∃b',cu M' c0 c' b' ty sz v' (es++ns)∧Gr c0 M0 c' M'∧c≤c'∧(∀x,x<c→x≠b→M'.get x=M.get x)∧(b'=b∨c≤b'):=by
 unfold tF
 rw[ri hsz hy]
 exact b67 h hg hsz hy.1 h1 hr
theorem ix(l:List UInt8):(l.map fun x=>[bV x]).flatten=l.map bV:=by
 induction l with
 |nil=>rfl
 |cons a l ih=>rw[List.map_cons,List.flatten_cons,ih];rfl
theorem lc(l:List UInt8):br (l.map fun x=>[bV x]).flatten=true:=by rw[ix];exact gL l
def bsV(F:RO)(M:Mem)(x:V):Option V:=(cY (.bs (.c x)) F M .e).val
theorem cA9(x:X)(M:Mem)(t:T):(cY (.bs x) F M t).val=bsV F M (x.ev t):=Eq.trans rfl (Eq.refl _)
theorem oW{M:Mem}{c:Nat}{v:V}{l:List UInt8}(h:l9 F M c v l):bsV F M v=some (sV l):=by
 have hl:=HP h
 obtain⟨r,hr⟩:=Bk Nat.one_pos h
 rw[List.length_map]at hl hr
 rw[ix]at hr
 have e:cY (.bs (.c v)) F M .e=I4 F M v (qK v):=by
  show(match v with| .s _ _=>QR.f|v=>I4 F M v (qK v))=_;rcases h with⟨_,⟨_,rfl|⟨b,o0,o,rfl⟩⟩|⟨b,o,⟨cap,_,rfl⟩|⟨el,kn,_,rfl⟩,_⟩⟩<;>rfl
 unfold bsV
 rw[e,hl]
 show(match readL F M 1 l.length v with|some (vs,b)=>I5 b (gn vs)|none=>QR.f).val=_
 rw[hr]
 show(I5 r (gn (l.map bV))).val=_
 rw[qp]
 show(fN l.length fun n=>fN (bP l) fun s=>match r with|some b=>QR.r (.s n s) b|none=> .v (.s n s)).val=_
 rw[aQ,aQ]
 cases r<;>rfl
def eU(d:List V)(ty:Nat)(row:List V):bz:= .cells ty row.length true 0 false d (iZ row)
theorem JA(d l:List V)(i:Nat)(h:i<l.length):cell l.length d (iZ l) i=l[i]?:=by
 rw[bY,ac h]
 unfold iZ
 rw[dk,ac (by omega)]
 simp only[Nat.sub_zero]
 rw[List.getElem?_eq_getElem h]
theorem zK{M:Mem}{b ty:Nat}{d row:List V}(h:M.get b=some (eU d ty row)):j9 F M b row:=
 ⟨ty,true,0,false,d,iZ row,am h,fun i hi=>JA d row i hi⟩
theorem E6{M:Mem}{b c ty sz n:Nat}{d:List V}{es:List (List V)}(h:M.get b=some (eU d ty es.flatten))(hb:b<c)(h0:∀e∈es,e.length=sz)(hn:es.length=n):cU F M c sz (.l b 0 n n) es:=by
 subst hn
 exact⟨h0,.inr ⟨b,0,.inl ⟨_,ah _,rfl⟩,hb,(zK h).cells⟩⟩
def yY(t:T):List (Nat×X)→List (Nat×List V)
 |[]=>[]
 |(o,x)::r=>(o,flatten (x.ev t))::yY t r
theorem UM(t:T):yY t []=[]:=rfl
theorem rQ(t:T)(o:Nat)(x:X)(r:List (Nat×X)):yY t ((o,x)::r)=(o,flatten (x.ev t))::yY t r:=rfl
def mh(sz:Nat):Nat→List (Nat×List V)→Option (List V)
 |_,[]=>some []
 |o,(k,vs)::r=>if k=o∧vs.length=sz∧br vs=true then(mh sz (o+sz) r).map (vs++ ·)else none
theorem DD(sz o:Nat):mh sz o []=some []:=rfl
theorem nN(sz o k:Nat)(vs:List V)(r:List (Nat×List V)):mh sz o ((k,vs)::r)=if k=o∧vs.length=sz∧br vs=true then(mh sz (o+sz) r).map (vs++ ·)else none:=rfl
theorem nF:∀(a b:List V) (k:Nat) (t:T),aX b (k+a.length) (aX a k t)=aX (a++b) k t
 |[],b,k,t=>rfl
 |x::a,b,k,t=>by
  rw[List.cons_append,cO,cO,bk,show k+(a.length+1)=(k+1)+a.length by omega,nF a b]
theorem AC{sz m:Nat}{t:T}:∀{parts:List (Nat×X)} {pre row:List V},mh sz pre.length (yY t parts)=some row→pre.length+row.length≤m→fillP sz m t parts (aX pre 0 .e)=some (aX (pre++row) 0 .e)
 |[],pre,row,h,hm=>by
  obtain rfl:[]=row:=ae h;rw[di];rfl
 |(o,x)::r,pre,row,h,hm=>by
  rw[rQ,nN]at h;split at h
  ·rename_i hc;obtain⟨rfl,h1,h2⟩:=hc;rw[be]at h;obtain⟨row',h3,rfl⟩:=h;rw[bE]at hm;show(bif Nat.beq (flatten (x.ev t)).length sz&&Nat.ble (Nat.add pre.length sz) m&&br (flatten (x.ev t))then(aX (flatten (x.ev t)) pre.length (aX pre 0 .e)).force fun t'=>fillP sz m t r t' else none)=_;rw[bp,bG,h2,af h1,af (show Nat.add pre.length sz≤m by show pre.length+sz≤m;omega)];show(aX (flatten (x.ev t)) pre.length (aX pre 0 .e)).force (fun t'=>fillP sz m t r t')=_;rw[Tr.force_eq];have hs:=nF pre (flatten (x.ev t)) 0 .e;rw[Nat.zero_add]at hs;rw[hs];have:=AC (m:=m) (parts:=r) (pre:=pre++flatten (x.ev t)) (row:=row') (by rw[bE,h1];exact h3) (by rw[bE];omega);rw[this,kz]
  ·cases h
theorem vM{sz:Nat}:∀{ps:List (Nat×List V)} {o:Nat} {row:List V},mh sz o ps=some row→row.length=ps.length*sz∧br row=true
 |[],o,row,h=>by
  obtain rfl:[]=row:=ae h;simp;rfl
 |(k,vs)::r,o,row,h=>by
  rw[nN]at h;split at h
  ·rename_i hc;rw[be]at h;obtain⟨row',h3,rfl⟩:=h;obtain⟨h4,h5⟩:=vM h3;refine⟨by rw[bE,h4,hc.2.1,bk,Nat.add_mul];omega,?_⟩;have key:∀(a b:List V),br a=true→br b=true→br (a++b)=true:=by
    intro a
    induction a with
    |nil=>intro b _ h;exact h
    |cons x a ih=>
     intro b ha hb;rw[iP,aJ]at ha;rw[List.cons_append,iP,ha.1,ih b ha.2 hb];rfl
   exact key _ _ hc.2.2 h5
  ·cases h
def bB9(ty n:Nat)(zero:List V)(b:Nat):Option (List V)→Option (V×bz)
 |some row=>some (.l b 0 n n,eU zero ty row)
 |none=>none
def ck1(ty n sz:Nat)(zero:List V)(parts:List (Nat×X))(b:Nat)(t:T):Option (V×bz):=kP (.bsl ty n sz zero parts) b t
theorem AA(t:T):∀ps:List (Nat×X),(yY t ps).length=ps.length
 |[]=>rfl
 |(o,x)::r=>by rw[rQ,bk,bk,AA t r]
theorem Me(ty n sz:Nat)(zero:List V)(parts:List (Nat×X))(b:Nat)(t:T)(hn:parts.length=n){row:List V}(h:mh sz 0 (yY t parts)=some row):
 kP (.bsl ty n sz zero parts) b t=some (.l b 0 n n,eU zero ty row):=by
 subst hn
 have hl:=(vM h).1
 rw[AA]at hl
 have:=AC (m:=parts.length*sz) (pre:=[]) h (by simp[hl])
 rw[List.nil_append]at this
 show(match fillP sz (parts.length*sz) t parts .e with|some c=>fN (parts.length*sz) fun m=>some (V.l b 0 parts.length parts.length,bz.cells ty m true 0 false zero c)|none=>none)=_
 rw[show fillP sz (parts.length*sz) t parts .e=some (aX row 0 .e)from this]
 show fN (parts.length*sz) (fun m=>some (V.l b 0 parts.length parts.length,bz.cells ty m true 0 false zero (aX row 0 .e)))=_
 rw[aQ,←hl];rfl
theorem Yj(ty n sz:Nat)(zero:List V)(parts:List (Nat×X))(b:Nat)(t:T):kP (.bsl ty n sz zero parts) b t=if parts.length=n∧(mh sz 0 (yY t parts)).isSome=true then bB9 ty n zero b (mh sz 0 (yY t parts))else ck1 ty n sz zero parts b t:=by
 split
 ·rename_i h;obtain⟨row,hr⟩:=bn.1 h.2;rw[hr];exact Me ty n sz zero parts b t h.1 hr
 ·rfl
theorem Jw(ty n:Nat)(zero:List V)(b:Nat)(row:List V):bB9 ty n zero b (some row)=some (.l b 0 n n,eU zero ty row):=rfl
end
def u5(C:Nat):Value→Option V
 | .bool x=>some (.b x)
 | .int k n=>some (.i k n)
 | .string s=>some (sV s.data.toList)
 | .pointer none=>some .p0
 | .slice none 0 0=>some .l0
 | .slice (some a) n c=>if a.spot=none∧a.block<C then some (.l a.block a.off n c)else if n=0∧c=0∧Ag a<C then some (.ue (Ag a) 1 0)else none
 | .iface t (.pointer (some ⟨r,o,none⟩))=>if r<C then some (.a t (.p r o))else none
 |_=>none
theorem YT(E:cT)(s:ByteArray):conc E (sV s.data.toList)= .string s:=by
 show Value.string (ba s.data.toList.length (bP s.data.toList))=_
 unfold ba
 rw[jx]
theorem wp{C:Nat}{x:Value}{v:V}(h:u5 C x=some v):conc E0 v=x∧bd (· <C) v:=by
 unfold u5 at h
 split at h
 ·obtain rfl:=ae h;exact⟨rfl,trivial⟩
 ·obtain rfl:=ae h;exact⟨rfl,trivial⟩
 ·obtain rfl:=ae h;exact⟨YT _ _,trivial⟩
 ·obtain rfl:=ae h;exact⟨rfl,trivial⟩
 ·obtain rfl:=ae h;exact⟨rfl,trivial⟩
 ·rename_i a n c;split at h
  ·rename_i hr;obtain⟨b,o,sp⟩:=a;obtain⟨h1,hr⟩:=hr;have h1:sp=none:=h1;subst h1;obtain rfl:=ae h;refine⟨?_,hr⟩;show Value.slice (some ⟨b,0+o,none⟩) n c=_;rw[Nat.zero_add]
  ·split at h
   ·rename_i hr;obtain⟨rfl,rfl,hr⟩:=hr;obtain rfl:=ae h;refine⟨?_,hr⟩;show Value.slice (some (if(0:Nat)=0 then(if(0:Nat)<1 then adD (Ag a)else _)else _)) 0 0=_;rw[ac rfl,ac (by decide),bx0]
   ·cases h
 ·rename_i t r o;split at h
  ·rename_i hr;obtain rfl:=ae h;refine⟨?_,hr⟩;show Value.iface t (.pointer (some ⟨r,0+o,none⟩))=_;rw[Nat.zero_add]
  ·cases h
 ·cases h
def jZ:List (Option V)→Nat→T→T
 |[],_,t=>t
 |none::r,k,t=>jZ r (k+1) t
 |some v::r,k,t=>jZ r (k+1) (t.set k v)
theorem sf:∀(l:List (Option V)) (k:Nat) (t:T) (j:Nat),(jZ l k t).get j=if k≤j∧j<k+l.length then(match l[j-k]? with|some (some v)=>some v|_=>t.get j)else t.get j
 |[],k,t,j=>by
  rw[ab (by simp;try omega)];rfl
 |none::r,k,t,j=>by
  show(jZ r (k+1) t).get j=_;rw[sf r (k+1) t j];simp only[bk];by_cases h0:j=k
  ·subst h0;rw[ab (by omega),ac (by omega)];simp
  ·by_cases h1:k≤j∧j<k+(r.length+1)
   ·rw[ac (by omega),ac h1,show j-k=(j-(k+1))+1 by omega,List.getElem?_cons_succ]
   ·rw[ab (by omega),ab h1]
 |some v::r,k,t,j=>by
  show(jZ r (k+1) (t.set k v)).get j=_;rw[sf r (k+1) (t.set k v) j,Tr.get_set];simp only[bk];by_cases h0:j=k
  ·subst h0;rw[ab (by omega),ac rfl,ac (by omega)];simp
  ·rw[ab h0];by_cases h1:k≤j∧j<k+(r.length+1)
   ·rw[ac (by omega),ac h1,show j-k=(j-(k+1))+1 by omega,List.getElem?_cons_succ]
   ·rw[ab (by omega),ab h1]
def sN(C:Nat):Obj→Option bz
 | .cells arr ty _=>some (.cells ty arr.size false arr.size true [] (jZ (arr.toList.map (u5 C)) 0 .e))
 |_=>none
def pa(C:Nat):List Obj→Nat→RO
 |[],_=>[]
 |o::r,k=>match sN C o with
  |some x=>(k,x)::pa C r (k+1)
  |none=>pa C r (k+1)
theorem xP(C:Nat):∀(l:List Obj) (k j:Nat),aZ (pa C l k) j=if k≤j then(l[j-k]?).bind (sN C)else none
 |[],k,j=>by
  show none=_;split<;>simp
 |o::r,k,j=>by
  have ih:=xP C r (k+1) j;unfold pa;by_cases h0:j=k
  ·subst h0;rw[ab (by omega)]at ih;rw[ac (ah _),Nat.sub_self,List.getElem?_cons_zero];show _=sN C o;cases hb:sN C o with
   |none=>exact ih
   |some x=>
    show aZ ((j,x)::pa C r (j+1)) j=some x;rw[fD,ac rfl]
  ·have e:aZ (match sN C o with|some x=>(k,x)::pa C r (k+1)|none=>pa C r (k+1)) j=aZ (pa C r (k+1)) j:=by
    cases sN C o with
    |none=>rfl
    |some x=>
     show aZ ((k,x)::pa C r (k+1)) j=_;rw[fD,ab (fun e=>h0 e.symm)]
   rw[e,ih];by_cases h1:k≤j
   ·rw[ac (by omega),ac h1,show j-k=(j-(k+1))+1 by omega,List.getElem?_cons_succ]
   ·rw[ab (by omega),ab h1]
def dJ(W:World)(C:Nat):RO:=pa C W.heap.toList 0
theorem jE(W:World)(C j:Nat):aZ (dJ W C) j=(W.heap[j]?).bind (sN C):=by
 unfold dJ
 rw[xP,ac (aM _),Nat.sub_zero,Array.getElem?_toList]
theorem jF{C ty:Nat}{arr:Array Value}{k:Nat}{v:V}:cell arr.size [] (jZ (arr.toList.map (u5 C)) 0 .e) k=some v↔ ∃x,arr[k]?=some x∧u5 C x=some v:=by
 rw[bY]
 by_cases h:k<arr.size
 ·rw[ac h,sf,ac (by simpa using h)];simp only[Nat.sub_zero,List.getElem?_map,Array.getElem?_toList,Array.getElem?_eq_getElem h,Option.map_some];show(match (match some (u5 C arr[k])with|some (some v)=>some v|_=>(Tr.e:T).get k)with|some v=>some v|none=>([]:List V)[k%([]:List V).length]?)=some v↔_;constructor
  ·intro hv;refine⟨arr[k],rfl,?_⟩;cases hx:u5 C arr[k]with
   |none=>rw[hx]at hv;simp[Tr.get_e]at hv
   |some y=>rw[hx]at hv;simpa using hv
  ·rintro⟨x,hx,hv⟩;obtain rfl:=ae hx;rw[hv]
 ·rw[ab h];constructor
  ·intro hh;cases hh
  ·rintro⟨x,hx,_⟩;rw[Array.getElem?_eq_none (by omega)]at hx;cases hx
theorem V4{P:Program}{W:World}{C:Nat}(hC:W.heap.size≤C):kj P E0 (dJ W C) .e (· <C) W:=by
 refine⟨?_,fun b b' _ _ e=>e,fun b _=>rfl⟩
 intro b blk hb
 rw[aO (show(Tr.e:Mem).get b=none from rfl),jE]at hb
 cases ho:W.heap[b]? with
 |none=>rw[ho]at hb;cases hb
 |some o=>
  rw[ho]at hb;have hb':sN C o=some blk:=hb;have hlt:b<C:=Nat.lt_of_lt_of_le (Array.getElem?_eq_some_iff.1 ho).1 hC;cases o with
  |cells arr ty fr=>
   obtain rfl:=ae hb';refine⟨hlt,?_,_,ho,arr,fr,rfl,?_,?_,?_,?_⟩
   ·intro k v hk;obtain⟨x,_,hv⟩:=(jF (ty:=ty)).1 hk;exact(wp hv).2
   ·intro k v hk;obtain⟨x,hx,hv⟩:=(jF (ty:=ty)).1 hk;show arr[0+k]?=_;rw[Nat.zero_add,hx,(wp hv).1]
   ·show arr.size=0+arr.size+0*_;simp
   ·intro o h1 h2;have h1':0+arr.size≤o:=h1;omega
   ·intro h;cases h
  |_=>cases hb'
theorem JY{W:World}{C r o:Nat}{x:Value}{v:V}(h:W.cell? ⟨r,o,none⟩=some x)(hv:u5 C x=some v):load1 (dJ W C) .e r o=some v:=by
 unfold World.cell? at h
 split at h
 ·rename_i cs ty fr hh;have h':cs[o]?=some x:=h;unfold Ev.load1;rw[aO (show(Tr.e:Mem).get r=none from rfl),jE];have hh':W.heap[r]?=some (.cells cs ty fr):=hh;rw[hh'];exact(jF (ty:=ty)).2 ⟨x,h',hv⟩
 ·cases h
theorem xQ{W:World}{C:Nat}:∀{L:List gF},(∀t∈L,t.1<1000∧x4 W t)→bB (dJ W C) L=true
 |[],_=>rfl
 |t::r,h=>by
  show(Nat.blt t.1 1000&&(rq (dJ W C) t&&bB (dJ W C) r))=true;rw[xQ fun t ht=>h t (bc _ ht),eT,af (h t (bh ..)).1];obtain⟨_,ty,fr,hh⟩:=h t (bh ..);have hi:rq (dJ W C) t=true:=by
   unfold rq;rw[jE,hh];show(Nat.beq (t.2.2.map fun z=>Value.int t.2.1 z).toArray.size (t.2.2.map fun z=>Value.int t.2.1 z).toArray.size&&kc _ [] _ t.2.1 t.2.2 0)=true;rw[Nat.beq_refl,Bool.true_and]
   have key:∀(zs:List Int) (i:Nat),i+zs.length=t.2.2.length→(∀j,zs[j]?=t.2.2[i+j]?)→
    kc (t.2.2.map fun z=>Value.int t.2.1 z).toArray.size [] (jZ ((t.2.2.map fun z=>Value.int t.2.1 z).toArray.toList.map (u5 C)) 0 .e) t.2.1 zs i=true:=by
    intro zs
    induction zs with
    |nil=>
     intro i hi _;show Nat.beq i _=true;simp only[cF]at hi;rw[bp];simp;omega
    |cons z zs ih=>
     intro i hi hz;have h0:=hz 0;simp only[List.getElem?_cons_zero,cE]at h0
     have hc:cell (t.2.2.map fun z=>Value.int t.2.1 z).toArray.size [] (jZ ((t.2.2.map fun z=>Value.int t.2.1 z).toArray.toList.map (u5 C)) 0 .e) i=some (.i t.2.1 z):=
      (jF (ty:=ty)).2 ⟨.int t.2.1 z,by simp[←h0],rfl⟩
     unfold kc;rw[hc];show(Ec t.2.1 z (.i t.2.1 z)&&_)=true;rw[ih (i+1) (by simp at hi;omega) fun j=>by have:=hz (j+1);rw[List.getElem?_cons_succ]at this;rw[this];congr 1;omega];show(io t.2.1 t.2.1&&JH z z&&true)=true;rw[fc,cV];simp
   exact key t.2.2 0 (by omega) (fun j=>by rw[Nat.zero_add])
  rw[hi];rfl
theorem be6{P:Program}(hm:P.follows .mixedOrders=true){Φ:Nat→Option CF}(hΦ:eC P Φ){f:Nat}{W:World}{C:Nat}{args:List V}(hC:W.heap.size≤C)(hk:1000≤C)(ha:fq (· <C) args)
 (h:Ev.Calls Φ (dJ W C) f args .e C fun v _ _=>v= .b true):Go.Calls P f (au E0 args).toArray W fun e W'=>e= .returned (.bool true)∧(∀may,W.keptBut W' may)∧ ∀i,i<W.heap.size→W'.heap[i]?=W.heap[i]?:=by
 obtain⟨v,M',c',hc,rfl⟩:=h
 obtain⟨fn,h1,h2,h3,hC⟩:=iw (rd:=none) (fn:=0) (F₀:=[]) hΦ (D1 hm hΦ) (dJ W C) f args .e C (.b true) M' c' hc E0 (· <C) W (V4 hC) (fun g _=>⟨rfl,rfl⟩) (fun g hg=>Nat.lt_of_lt_of_le hg hk) (fun b hb hc=>Nat.lt_irrefl _ (Nat.lt_of_lt_of_le hc hb)) ha
 refine hC.mono ?_
 rintro e W' ⟨E',c',rfl,hS,_,_⟩
 exact⟨rfl,fun may=>Zy hS may,fun i hi=>hS.frame i hi (fun b hb=>by cases hb)⟩
inductive Ty where
 |bool|int (k:IntKind)|str|sl (e:Ty)|nil|cons (a b:Ty)
def Ty.D:Ty→Type
 | .bool=>Bool
 | .int _=>Int
 | .str=>List UInt8
 | .sl e=>List e.D
 | .nil=>Unit
 | .cons a b=>a.D×b.D
def Ty.size:Ty→Nat
 | .nil=>0
 | .cons a b=>a.size+b.size
 |_=>1
def Ty.hasSl:Ty→Bool
 | .sl _=>true
 | .cons a b=>a.hasSl||b.hasSl
 |_=>false
def Ty.deep:Ty→Bool
 | .sl e=>e.hasSl
 | .cons a b=>a.deep||b.deep
 |_=>false
def Rp(F:RO)(M:Mem)(c:Nat):(t:Ty)→List V→t.D→Prop
 | .bool,vs,x=>vs=[.b x]
 | .int k,vs,n=>(fun z:Int=>vs=[.i k z]∧k.min≤z∧z≤k.max) n
 | .str,vs,x=>(fun l:List UInt8=>vs=[sV l]∧l.length≤Go.maxLen) x
 | .sl e,vs,x=>(fun l:List e.D=>∃v es,vs=[v]∧cU F M c e.size v es∧l.length≤Go.maxLen∧es.length=l.length∧ ∀i (h:i<es.length) (h':i<l.length),Rp F M c e es[i] l[i]) x
 | .nil,vs,_=>vs=[]
 | .cons a b,vs,x=>∃v1 v2,vs=v1++v2∧Rp F M c a v1 x.1∧Rp F M c b v2 x.2
theorem Rp.len{F:RO}{M:Mem}{c:Nat}:∀{t:Ty} {vs:List V} {x:t.D},Rp F M c t vs x→vs.length=t.size
 | .bool,vs,x,h=>by obtain rfl:vs=[.b x]:=h;rfl
 | .int k,vs,x,h=>by obtain⟨rfl,_⟩:=h;rfl
 | .str,vs,x,h=>by obtain⟨rfl,_⟩:=h;rfl
 | .sl e,vs,x,h=>by obtain⟨v,es,rfl,_⟩:=h;rfl
 | .nil,vs,x,h=>by obtain rfl:vs=[]:=h;rfl
 | .cons a b,vs,x,h=>by
   obtain⟨v1,v2,rfl,h1,h2⟩:=h;rw[bE,h1.len,h2.len];rfl
def Sz(B:Nat):(t:Ty)→t.D→Prop
 | .str,x=>(fun l:List UInt8=>l.length≤B) x
 | .sl e,x=>(fun l:List e.D=>l.length≤B∧ ∀y∈l,Sz B e y) x
 | .cons a b,x=>Sz B a x.1∧Sz B b x.2
 |_,_=>True
mutual
def u0(P:Program):Ty→TypeId→Bool
 | .bool,t=>match P.underlying t with|some .bool=>true|_=>false
 | .int k,t=>match P.underlying t with|some (.int k')=>decide (k'=k)|_=>false
 | .str,t=>match P.underlying t with|some .string=>true|_=>false
 | .sl e,t=>match P.underlying t with|some (.slice te)=>decide (P.cellsOf te=e.size∧0<P.bytesOf te)&&u0 P e te|_=>false
 | .nil,_=>false
 | .cons a b,t=>match P.underlying t with
   |some (.struct fs)=>decide (P.cellsOf t=a.size+b.size)&&match fs.toList with
    |f::r=>decide (f.offset=0)&&(decide (P.cellsOf f.type=a.size)&&(u0 P a f.type&&JU P b r a.size))
    |[]=>false
   |_=>false
def JU(P:Program):Ty→List Field→Nat→Bool
 | .nil,[],_=>true
 | .cons a b,f::r,o=>decide (f.offset=o)&&(decide (P.cellsOf f.type=a.size)&&(u0 P a f.type&&JU P b r (o+a.size)))
 |_,_,_=>false
end
theorem fQ{α β:Type}{f:α→Option β}:∀{l:List α} {r:List β},l.mapM f=some r→r.length=l.length∧ ∀i (h:i<l.length) (h':i<r.length),f l[i]=some r[i]
 |[],r,h=>by
  rw[List.mapM_nil]at h;obtain rfl:[]=r:=ae h;exact⟨rfl,fun i h=>by cases h⟩
 |a::l,r,h=>by
  rw[List.mapM_cons]at h;cases h1:f a with
  |none=>rw[h1]at h;cases h
  |some b=>
   rw[h1]at h;have h':(l.mapM f).bind (fun bs=>some (b::bs))=some r:=h;cases h2:l.mapM f with
   |none=>rw[h2]at h';cases h'
   |some bs=>
    rw[h2]at h';obtain rfl:b::bs=r:=ae h';obtain⟨h3,h4⟩:=fQ h2;refine⟨by simp[h3],fun i hi hi'=>?_⟩;cases i with
    |zero=>exact h1
    |succ i=>exact h4 i (by simpa using hi) (by simpa using hi')
def Kf(C:Nat):Value→Prop
 | .slice (some a) 0 0=>(a.spot=none∧a.block<C)∨Ag a<C
 |_=>True
def A5(C:Nat)(cs:List Value)(vs:List V):Prop:=cs.map (u5 C)=vs.map some
theorem A5.conc{C:Nat}:∀{cs:List Value} {vs:List V},A5 C cs vs→au E0 vs=cs∧fq (· <C) vs
 |[],[],_=>⟨rfl,trivial⟩
 |[],_::_,h=>by cases h
 |_::_,[],h=>by cases h
 |c::cs,v::vs,h=>by
  have h':u5 C c::cs.map (u5 C)=some v::vs.map some:=h;injection h' with h1 h2
  obtain⟨a1,a2⟩:=A5.conc (cs:=cs) (vs:=vs) h2;obtain⟨b1,b2⟩:=wp h1;exact⟨by rw[au,a1,b1],b2,a2⟩
theorem A5.append{C:Nat}{cs cs':List Value}{vs vs':List V}(h:A5 C cs vs)(h':A5 C cs' vs'):A5 C (cs++cs') (vs++vs'):=by
 unfold A5 at *
 rw[List.map_append,List.map_append,h,h']
theorem A5.len{C:Nat}{cs:List Value}{vs:List V}(h:A5 C cs vs):cs.length=vs.length:=by
 have:=congrArg List.length h
 simpa using this
theorem A5.get{C:Nat}{cs:List Value}{vs:List V}(h:A5 C cs vs)(i:Nat)(hi:i<cs.length):u5 C cs[i]=vs[i]?:=by
 have:=congrArg (fun l:List (Option V)=>l[i]?) h
 simp only[List.getElem?_map]at this
 rw[List.getElem?_eq_getElem hi,List.getElem?_eq_getElem (by rw[←h.len];exact hi)]at this
 rw[List.getElem?_eq_getElem (by rw[←h.len];exact hi)]
 simpa using this
section
variable{H:Type}{enc:TypeId×Value→H}{P:Program}{W:World}{C:Nat}{sp:Nat→Bool}{held:Bool}
theorem VZ{r o:Nat}{cs:List Value}{vs:List V}(h:A5 C cs vs)(hc:∀i (hi:i<cs.length),W.cell? ⟨r,o+i,none⟩=some cs[i]):cP (dJ W C) .e r o vs:=by
 intro k hk
 have hk':k<cs.length:=by rw[h.len];exact hk
 have:=h.get k hk'
 rw[List.getElem?_eq_getElem hk]at this⊢
 exact JY (hc k hk') this
theorem yn{t:TypeId}{cs:List Value}{fuel:Nat}{r:DataW H×List MemPlace}(hu:P.underlying t=some .bool)(h:DataW.trod enc P W 0 sp held fuel t cs=some r):∃b,cs=[.bool b]:=by
 cases fuel with
 |zero=>cases h
 |succ fuel=>
  unfold DataW.trod at h;rw[hu]at h;split at h<;>first|(rename_i e;cases e;done)|cases h|skip
  all_goals simp_all
theorem BK{t:TypeId}{k:IntKind}{cs:List Value}{fuel:Nat}{r:DataW H×List MemPlace}(hu:P.underlying t=some (.int k))(h:DataW.trod enc P W 0 sp held fuel t cs=some r):∃n,cs=[.int k n]∧k.min≤n∧n≤k.max:=by
 cases fuel with
 |zero=>cases h
 |succ fuel=>
  unfold DataW.trod at h;rw[hu]at h;split at h<;>first|(rename_i e;cases e;done)|cases h|skip
  rename_i k0 k' n e;simp only[Option.some.injEq,TypeDesc.int.injEq]at e;subst e;split at h
  ·rename_i hk;obtain⟨rfl,hw⟩:=hk;have hw':(decide (k'.min≤n)&&decide (n≤k'.max))=true:=hw;simp only[aJ,decide_eq_true_eq]at hw';exact⟨n,rfl,hw'⟩
  ·cases h
theorem BM{t:TypeId}{cs:List Value}{fuel:Nat}{r:DataW H×List MemPlace}(hu:P.underlying t=some .string)(h:DataW.trod enc P W 0 sp held fuel t cs=some r):∃s:ByteArray,cs=[.string s]∧s.data.toList.length≤Go.maxLen∧r.1= .lit (.string s.data.toList):=by
 cases fuel with
 |zero=>cases h
 |succ fuel=>
  unfold DataW.trod at h;rw[hu]at h;split at h<;>first|(rename_i e;cases e;done)|cases h|skip
  rename_i s e;split at h
  ·rename_i hk;injection h with h
   exact⟨s,rfl,by simpa using hk,by rw[←h]⟩
  ·cases h
def EX(P:Program)(B:Nat)(t:TypeId)(d:DataW H):Prop:=∀n∈d.weights P t,n≤B
theorem HS{P:Program}{e:TypeId}{n:Nat}:∀{l:List (DataW H)} {d:DataW H},d∈l→n∈d.weights P e→n∈DataW.weightsAll P e l
 |[],_,h,_=>by cases h
 |x::l,d,h,hn=>by
  rw[DataW.weightsAll,List.mem_append];rcases bj.1 h with rfl|h
  ·exact .inl hn
  ·exact .inr (HS h hn)
theorem AX{P:Program}{n:Nat}:∀{ts:List TypeId} {l:List (DataW H)} {i:Nat} {t:TypeId} {d:DataW H},ts[i]?=some t→l[i]?=some d→n∈d.weights P t→n∈DataW.weightsEach P ts l
 |[],_,i,_,_,h,_,_=>by cases i<;>cases h
 |_::_,[],i,_,_,_,h,_=>by cases i<;>cases h
 |t::ts,d::l,0,_,_,h1,h2,hn=>by
  cases h1;cases h2;rw[DataW.weightsEach,List.mem_append];exact .inl hn
 |t::ts,d::l,i+1,_,_,h1,h2,hn=>by
  rw[DataW.weightsEach,List.mem_append];exact .inr (AX (i:=i) h1 h2 hn)
theorem IF{B:Nat}{t te:TypeId}{cs:List Value}{fuel:Nat}{r:DataW H×List MemPlace}(hu:P.underlying t=some (.slice te))(h:DataW.trod enc P W 0 sp held fuel t cs=some r):
 cs=[.slice none 0 0]∨ ∃a len cap fuel',cs=[.slice (some a) len cap]∧len≤cap∧cap≤Go.maxLen∧
  (∀i,i<len→ ∃es x,W.cells? 0 (a.add (i*P.cellsOf te)) (P.cellsOf te)=some es∧DataW.trod enc P W 0 sp held fuel' te es=some x∧(EX P B t r.1→EX P B te x.1))∧(EX P B t r.1→len*P.bytesOf te≤B)∧
  (sp a.block=true→0<cap→ ∃es,W.cells? 0 a (P.cellsOf te)=some es):=by
 cases fuel with
 |zero=>cases h
 |succ fuel=>
  unfold DataW.trod at h;rw[hu]at h;split at h<;>first|(rename_i e;cases e;done)|cases h|skip
  ·exact .inl rfl
  ·rename_i e0 a len cap e;simp only[Option.some.injEq,TypeDesc.slice.injEq]at e;subst e;simp only at h;split at h
   ·rename_i hk;obtain⟨_,h1,h2⟩:=hk;cases hm:(List.range len).mapM fun i=>(W.cells? 0 (a.add (i*P.cellsOf te)) (P.cellsOf te)).bind (DataW.trod enc P W 0 sp held fuel te)with
    |none=>rw[hm]at h;cases h
    |some elems=>
     obtain⟨hl,hget⟩:=fQ hm;obtain⟨rest,hr⟩:∃rest,r.1= .slice (elems.map (·.1)) rest:=by
      rw[hm]at h;simp only[Option.bind_some]at h;rw[be]at h;obtain⟨rs,_,h⟩:=h;exact⟨_,by rw[←h]⟩
     have hw:r.1.weights P t=((elems.map (·.1)).length+rest.length)*P.bytesOf te::(DataW.weightsAll P te (elems.map (·.1))++DataW.weightsAll P te rest):=by
      rw[hr,DataW.weights,hu]
     rw[List.length_range]at hl
     have hlen':EX P B t r.1→len*P.bytesOf te≤B:=fun hW=>by
      have:=hW _ (by rw[hw];exact bh ..);rw[List.length_map,hl]at this;exact bm (Nat.mul_le_mul (Nat.le_add_right _ _) (ah _)) this
     have hel:∀i,i<len→ ∃es x,W.cells? 0 (a.add (i*P.cellsOf te)) (P.cellsOf te)=some es∧DataW.trod enc P W 0 sp held fuel te es=some x∧(EX P B t r.1→EX P B te x.1):=fun i hi=>by
      have:=hget i (by simpa using hi) (by rw[hl];exact hi);simp only[List.getElem_range]at this;cases hc:W.cells? 0 (a.add (i*P.cellsOf te)) (P.cellsOf te)with
      |none=>rw[hc]at this;cases this
      |some es=>
       rw[hc]at this;refine⟨es,_,rfl,this,fun hW n hn=>hW n ?_⟩;rw[hw];exact bc _ (List.mem_append_left _ (HS (List.mem_map.2 ⟨_,List.getElem_mem _,rfl⟩) hn))
     refine .inr ⟨a,len,cap,fuel,rfl,h1,h2,hel,hlen',fun hsp h0=>?_⟩;by_cases hlen:0<len
     ·obtain⟨es,_,he,_⟩:=hel 0 hlen;rw[Nat.zero_mul]at he;exact⟨es,by simpa [Addr.add]using he⟩
     ·rw[hm]at h;simp only[Option.bind_some,ac hsp]at h;cases hm2:(List.range (cap-len)).mapM fun j=>(W.cells? 0 (a.add ((len+j)*P.cellsOf te)) (P.cellsOf te)).bind (DataW.trod enc P W 0 sp held fuel te)with
      |none=>rw[hm2]at h;cases h
      |some rest=>
       obtain⟨g1,g2⟩:=fQ hm2;rw[List.length_range]at g1;have:=g2 0 (by rw[List.length_range];omega) (by omega);simp only[List.getElem_range]at this;rw[show(len+0)*P.cellsOf te=0 by rw[show len=0 by omega];simp]at this;cases hc:W.cells? 0 (a.add 0) (P.cellsOf te)with
       |none=>rw[hc]at this;cases this
       |some es=>exact⟨es,by simpa [Addr.add]using hc⟩
   ·cases h
theorem IG{B:Nat}{t:TypeId}{fs:Array Field}{cs:List Value}{fuel:Nat}{r:DataW H×List MemPlace}(hu:P.underlying t=some (.struct fs))(h:DataW.trod enc P W 0 sp held fuel t cs=some r):
 cs.length=P.cellsOf t∧ ∃fuel',∀f∈fs.toList,∃x,DataW.trod enc P W 0 sp held fuel' f.type ((cs.drop f.offset).take (P.cellsOf f.type))=some x∧(EX P B t r.1→EX P B f.type x.1):=by
 cases fuel with
 |zero=>cases h
 |succ fuel=>
  have key:(if cs.length=P.cellsOf t then(fs.toList.mapM fun f=>DataW.trod enc P W 0 sp held fuel f.type ((cs.drop f.offset).take (P.cellsOf f.type))).map fun xs=>(DataW.agg (xs.map (·.1)),xs.flatMap (·.2))else none)=some r:=by
   unfold DataW.trod at h;rw[hu]at h;split at h<;>first|(rename_i e;cases e;done)|cases h|skip
   ·rename_i e;simp only[Option.some.injEq,TypeDesc.struct.injEq]at e;subst e;exact h
   ·exact(‹∀fs_1:Array Field,some (TypeDesc.struct fs)=some (TypeDesc.struct fs_1)→False› fs rfl).elim
  split at key
  ·rename_i hk;refine⟨hk,fuel,fun f hf=>?_⟩;rw[be]at key;obtain⟨xs,hm,hr⟩:=key;obtain⟨hl,hget⟩:=fQ hm;obtain⟨i,hi,rfl⟩:=List.getElem_of_mem hf;refine⟨_,hget i hi (by rw[hl];exact hi),fun hW n hn=>hW n ?_⟩;rw[←hr,DataW.weights,hu];refine AX (i:=i) (t:=fs.toList[i].type) (d:=(xs[i]'(by rw[hl];exact hi)).1) ?_ ?_ hn
   ·rw[List.getElem?_map,List.getElem?_eq_getElem hi];rfl
   ·rw[List.getElem?_map,List.getElem?_eq_getElem (by rw[hl];exact hi)];rfl
  ·cases key
theorem L5{a:Addr}{n c:Nat}(h1:a.spot=none)(h2:a.block<C):u5 C (.slice (some a) n c)=some (.l a.block a.off n c):=by
 show(if a.spot=none∧a.block<C then some (V.l a.block a.off n c)else _)=_
 rw[ac ⟨h1,h2⟩]
theorem An{a:Addr}{n:Nat}{cs:List Value}(hc:W.cells? 0 a n=some cs)(hn:0<n):a.spot=none∧a.block<W.heap.size:=by
 unfold World.cells? at hc
 rw[ac (aM _)]at hc
 obtain⟨h1,h2⟩:=fQ hc
 rw[List.length_range]at h1
 have:=h2 0 (by rw[List.length_range];exact hn) (by omega)
 rw[List.getElem_range,show a.add 0=a from rfl]at this
 unfold World.cell? at this
 split at this
 ·rename_i hh;split at this
  ·cases this
  ·rename_i hs;refine⟨?_,(Array.getElem?_eq_some_iff.1 hh).1⟩;cases hsp:a.spot with
   |none=>rfl
   |some k=>rw[hsp]at hs;simp at hs
 ·cases this
theorem Wg{sz:Nat}{a:Addr}{len cap:Nat}{Q:List Value→List V→Prop}(hs:a.spot=none)(hb:a.block<C)(hlc:len≤cap)
 (h:∀i,i<len→ ∃cs vs,W.cells? 0 (a.add (i*sz)) sz=some cs∧A5 C cs vs∧Q cs vs):
 ∃es:List (List V),es.length=len∧cU (dJ W C) .e C sz (.l a.block a.off len cap) es∧ ∀i (hi:i<es.length),∃cs,Q cs es[i]:=by
 obtain⟨b,o,sp⟩:=a
 obtain rfl:sp=none:=hs
 have hget:∀i,i<len→ ∃cs vs,A5 C cs vs∧Q cs vs∧cs.length=sz∧ ∀k (hk:k<cs.length),W.cell? ⟨b,o+i*sz+k,none⟩=some cs[k]:=by
  intro i hi;obtain⟨cs,vs,h1,h2,h3⟩:=h i hi;rw[Addr.add_eq]at h1;unfold World.cells? at h1;rw[ac (aM _)]at h1;obtain⟨h4,h5⟩:=fQ h1;rw[List.length_range]at h4;refine⟨cs,vs,h2,h3,h4,fun k hk=>?_⟩;have:=h5 k (by rw[List.length_range];omega) hk;rw[List.getElem_range,Addr.add_eq]at this;exact this
 have key:∀n,n≤len→ ∃es:List (List V),es.length=n∧(∀e∈es,e.length=sz)∧cP (dJ W C) .e b o es.flatten∧ ∀i (hi:i<es.length),∃cs,Q cs es[i]:=by
  intro n
  induction n with
  |zero=>intro _;exact⟨[],rfl,fun e he=>(by cases he),fun k hk=>(by simp at hk),fun i hi=>(by simp at hi)⟩
  |succ n ih=>
   intro hn;obtain⟨es,h1,h2,h3,h4⟩:=ih (by omega);obtain⟨cs,vs,g1,g2,g3,g4⟩:=hget n (by omega);have hvl:vs.length=sz:=by rw[←g1.len];exact g3
   have h2':∀e∈es++[vs],e.length=sz:=by
    intro e he;rw[List.mem_append,List.mem_singleton]at he;rcases he with he|rfl
    ·exact h2 e he
    ·exact hvl
   have hfl:es.flatten.length=n*sz:=by rw[fw h2,h1]
   refine⟨es++[vs],by simp[h1],h2',?_,fun i hi=>?_⟩
   ·intro k hk;rw[List.flatten_append]at hk⊢;simp only[List.flatten_cons,List.flatten_nil,di,bE]at hk⊢;by_cases hk1:k<es.flatten.length
    ·rw[List.getElem?_append_left hk1];exact h3 k hk1
    ·rw[List.getElem?_append_right (by omega),hfl];have hr:=VZ (o:=o+n*sz) g1 g4 (k-n*sz) (by omega);rw[←hr];congr 1;omega
   ·by_cases hi1:i<es.length
    ·rw[List.getElem_append_left hi1];exact h4 i hi1
    ·rw[List.getElem_append_right (by omega)];have:i-es.length=0:=by simp at hi;omega
     simp only[this,List.getElem_cons_zero];exact⟨cs,g2⟩
 obtain⟨es,h1,h2,h3,h4⟩:=key len (ah _)
 refine⟨es,h1,⟨h2,.inr ⟨b,o,.inl ⟨cap,by omega,by rw[h1]⟩,hb,h3⟩⟩,h4⟩
theorem ZX{α:Type}{n:Nat}{Q:Nat→α→Prop}(h:∀i,i<n→ ∃x,Q i x):∃l:List α,l.length=n∧ ∀i (hi:i<l.length),Q i l[i]:=by
 induction n with
 |zero=>exact⟨[],rfl,fun i hi=>(by simp at hi)⟩
 |succ n ih=>
  obtain⟨l,h1,h2⟩:=ih fun i hi=>h i (by omega);obtain⟨x,hx⟩:=h n (by omega);refine⟨l++[x],by simp[h1],fun i hi=>?_⟩;by_cases hi1:i<l.length
  ·rw[List.getElem_append_left hi1];exact h2 i hi1
  ·rw[List.getElem_append_right (by omega)];have e:i=n:=by simp at hi;omega
   subst e;simp only[h1,Nat.sub_self,List.getElem_cons_zero];exact hx
theorem Ty.size_pos{P:Program}{ty:Ty}{t:TypeId}(h:u0 P ty t=true):0<ty.size:=by
 induction ty generalizing t with
 |cons a b iha _=>
  rw[u0]at h;split at h
  ·simp only[aJ]at h;obtain⟨_,h⟩:=h;split at h
   ·simp only[aJ]at h;have:=iha h.2.2.1;show 0<a.size+b.size;omega
   ·cases h
  ·cases h
 |nil=>cases h
 |_=>exact Nat.one_pos
mutual
theorem uk{B:Nat}(hsp:∀b,sp b=true)(hC:W.heap.size≤C):∀(ty:Ty) (t:TypeId) (cs:List Value) (fuel:Nat) (r:DataW H×List MemPlace),u0 P ty t=true→DataW.trod enc P W 0 sp held fuel t cs=some r→
 (ty.hasSl=true→ ∀v∈cs,Kf C v)→(ty.deep=true→ ∀a x,W.cell? a=some x→Kf C x)→ ∃vs x,A5 C cs vs∧Rp (dJ W C) .e C ty vs x∧(EX P B t r.1→Sz B ty x)
 | .bool,t,cs,fuel,r,hb,h,h1,h2=>by
   rw[u0]at hb;split at hb
   ·rename_i hu;obtain⟨b,rfl⟩:=yn hu h;exact⟨[.b b],b,rfl,rfl,fun _=>trivial⟩
   ·cases hb
 | .int k,t,cs,fuel,r,hb,h,h1,h2=>by
   rw[u0]at hb;split at hb
   ·rename_i k' hu;obtain rfl:=aP hb;obtain⟨n,rfl,hn⟩:=BK hu h;exact⟨[.i k' n],n,rfl,⟨rfl,hn⟩,fun _=>trivial⟩
   ·cases hb
 | .str,t,cs,fuel,r,hb,h,h1,h2=>by
   rw[u0]at hb;split at hb
   ·rename_i hu;obtain⟨s,rfl,hs,hr⟩:=BM hu h;refine⟨[sV s.data.toList],s.data.toList,rfl,⟨rfl,hs⟩,fun hW=>hW _ ?_⟩;rw[hr,DataW.weights];exact List.mem_singleton.2 rfl
   ·cases hb
 | .sl e,t,cs,fuel,r,hb,h,h1,h2=>by
   rw[u0]at hb;split at hb
   ·rename_i te hu;simp only[aJ,decide_eq_true_eq]at hb;obtain⟨⟨hsz,hbp⟩,hb⟩:=hb;have hpos:=Ty.size_pos hb;rcases IF (B:=B) hu h with rfl|⟨a,len,cap,fuel',rfl,hlc,hcap,hel,hlW,hfirst⟩
    ·exact⟨[.l0],[],rfl,⟨.l0,[],rfl,⟨fun e he=>(by cases he),.inl ⟨rfl,.inl rfl⟩⟩,aM _,rfl,fun i hi=>(by cases hi)⟩,fun _=>⟨aM _,fun y hy=>(by cases hy)⟩⟩
    ·have hz:=h1 rfl _ (List.mem_singleton.2 rfl);rw[hsz]at hel hfirst;have hok:(a.spot=none∧a.block<C)∨(len=0∧cap=0∧Ag a<C∧ ¬(a.spot=none∧a.block<C)):=by
      by_cases h0:0<cap
      ·obtain⟨es,he⟩:=hfirst (hsp _) h0;obtain⟨g1,g2⟩:=An he hpos;exact .inl ⟨g1,Nat.lt_of_lt_of_le g2 hC⟩
      ·obtain rfl:cap=0:=by omega
       obtain rfl:len=0:=by omega
       by_cases hq:a.spot=none∧a.block<C
       ·exact .inl hq
       ·exact .inr ⟨rfl,rfl,hz.resolve_left hq,hq⟩
     rcases hok with hok|⟨rfl,rfl,he,hq⟩
     rotate_left
     ·refine⟨[.ue (Ag a) 1 0],[],?_,⟨.ue (Ag a) 1 0,[],rfl,⟨fun e he=>(by cases he),.inl ⟨rfl,.inr ⟨_,_,_,rfl⟩⟩⟩,aM _,rfl,fun i hi=>(by cases hi)⟩,fun _=>⟨aM _,fun y hy=>(by cases hy)⟩⟩;show[u5 C _]=[some _]
      congr 1
      show(if a.spot=none∧a.block<C then _ else if 0=0∧0=0∧Ag a<C then some (V.ue (Ag a) 1 0)else none)=_;rw[ab hq,ac ⟨rfl,rfl,he⟩]
     obtain⟨es,hl,hS,hQ⟩:=Wg (cap:=cap) (C:=C) (Q:=fun _ vs=>∃x,Rp (dJ W C) .e C e vs x∧(EX P B t r.1→Sz B e x)) hok.1 hok.2 hlc (fun i hi=>by
      obtain⟨cs',x,hc,ht,hxW⟩:=hel i hi
      obtain⟨vs,y,hv,hR,hZ⟩:=uk (B:=B) hsp hC e te cs' fuel' x hb ht
       (fun he v hv=>by
        obtain⟨j,hj,rfl⟩:=List.getElem_of_mem hv;unfold World.cells? at hc;rw[ac (aM _)]at hc;obtain⟨h4,h5⟩:=fQ hc;exact h2 he _ _ (h5 j (by rw[List.length_range]at h4⊢;omega) hj))
       (fun he=>h2 (by
        have key:∀t:Ty,t.deep=true→t.hasSl=true:=by
         intro t
         induction t with
         |cons a b iha ihb=>
          intro hd;have hd':(a.deep||b.deep)=true:=hd;show(a.hasSl||b.hasSl)=true;rw[Bool.or_eq_true]at hd'⊢;exact hd'.imp iha ihb
         |sl e _=>intro _;rfl
         |_=>intro hd;cases hd
        exact key e he))
      exact⟨cs',vs,hc,hv,y,hR,fun hW=>hZ (hxW hW)⟩)
     obtain⟨xs,hxl,hx⟩:=ZX (n:=es.length) (Q:=fun i x=>(∀h:i<es.length,Rp (dJ W C) .e C e es[i] x)∧(EX P B t r.1→Sz B e x)) (fun i hi=>by
      obtain⟨_,x,hR,hZ⟩:=hQ i hi;exact⟨x,fun _=>hR,hZ⟩)
     refine⟨[.l a.block a.off len cap],xs,?_,⟨.l a.block a.off len cap,es,rfl,hS,?_,hxl.symm,fun i hi hi'=>(hx i hi').1 hi⟩,fun hW=>⟨?_,fun y hy=>?_⟩⟩
     ·show[u5 C _]=[some _]
      rw[L5 hok.1 hok.2]
     ·show List.length xs≤_;omega
     ·show List.length xs≤_;rw[hxl,hl];exact bm (Nat.le_mul_of_pos_right _ hbp) (hlW hW)
     ·obtain⟨i,hi,rfl⟩:=List.getElem_of_mem hy;exact(hx i hi).2 hW
   ·cases hb
 | .nil,t,cs,fuel,r,hb,h,h1,h2=>by cases hb
 | .cons a b,t,cs,fuel,r,hb,h,h1,h2=>by
   rw[u0]at hb;split at hb
   ·rename_i fs hu;simp only[aJ,decide_eq_true_eq]at hb;obtain⟨hsz,hb⟩:=hb;obtain⟨hlen,fuel',hf⟩:=IG (B:=B) hu h;split at hb
    ·rename_i f rest hfs;simp only[aJ,decide_eq_true_eq]at hb;obtain⟨ho,hfa,hta,hrest⟩:=hb;rw[hfs]at hf;obtain⟨x,hx,hxW⟩:=hf f (bh ..);rw[ho,hfa]at hx;have hs:(a.hasSl=true→ ∀v∈(cs.drop 0).take a.size,Kf C v):=fun ha v hv=>h1 (by show(a.hasSl||b.hasSl)=true;rw[ha];rfl) v (List.mem_of_mem_drop (List.mem_of_mem_take hv));obtain⟨v1,x1,hv1,hR1,hZ1⟩:=uk (B:=B) hsp hC a f.type _ fuel' x hta hx hs (fun ha=>h2 (by show(a.deep||b.deep)=true;rw[ha];rfl))
     obtain⟨v2,x2,hv2,hR2,hZ2⟩:=Is (B:=B) (hyp:=EX P B t r.1) hsp hC b rest cs fuel' a.size hrest (by rw[hlen,hsz]) (fun f' hf'=>hf f' (bc _ hf'))
      (fun hb' v hv=>h1 (by show(a.hasSl||b.hasSl)=true;rw[hb'];simp) v (List.mem_of_mem_drop hv)) (fun hb'=>h2 (by show(a.deep||b.deep)=true;rw[hb'];simp))
     refine⟨v1++v2,(x1,x2),?_,⟨v1,v2,rfl,hR1,hR2⟩,fun hW=>⟨hZ1 (hxW hW),hZ2 hW⟩⟩;have:=hv1.append hv2
     rwa [List.drop_zero,List.take_append_drop]at this
    ·cases hb
   ·cases hb
theorem Is{B:Nat}{hyp:Prop}(hsp:∀b,sp b=true)(hC:W.heap.size≤C):∀(ty:Ty) (fs:List Field) (cs:List Value) (fuel o:Nat),JU P ty fs o=true→cs.length=o+ty.size→
 (∀f∈fs,∃x,DataW.trod enc P W 0 sp held fuel f.type ((cs.drop f.offset).take (P.cellsOf f.type))=some x∧(hyp→EX P B f.type x.1))→
 (ty.hasSl=true→ ∀v∈cs.drop o,Kf C v)→(ty.deep=true→ ∀a x,W.cell? a=some x→Kf C x)→ ∃vs x,A5 C (cs.drop o) vs∧Rp (dJ W C) .e C ty vs x∧(hyp→Sz B ty x)
 | .nil,[],cs,fuel,o,hb,hl,hf,h1,h2=>by
   refine⟨[],(),?_,rfl,fun _=>trivial⟩;rw[List.drop_eq_nil_of_le (by have:(Ty.nil).size=0:=rfl;omega)];rfl
 | .nil,_::_,cs,fuel,o,hb,hl,hf,h1,h2=>by cases hb
 | .bool,fs,cs,fuel,o,hb,hl,hf,h1,h2=>by cases fs<;>cases hb
 | .int k,fs,cs,fuel,o,hb,hl,hf,h1,h2=>by cases fs<;>cases hb
 | .str,fs,cs,fuel,o,hb,hl,hf,h1,h2=>by cases fs<;>cases hb
 | .sl e,fs,cs,fuel,o,hb,hl,hf,h1,h2=>by cases fs<;>cases hb
 | .cons a b,[],cs,fuel,o,hb,hl,hf,h1,h2=>by cases hb
 | .cons a b,f::rest,cs,fuel,o,hb,hl,hf,h1,h2=>by
   rw[JU]at hb;simp only[aJ,decide_eq_true_eq]at hb;obtain⟨ho,hfa,hta,hrest⟩:=hb;have hl':cs.length=o+(a.size+b.size):=hl;obtain⟨x,hx,hxW⟩:=hf f (bh ..);rw[ho,hfa]at hx;obtain⟨v1,x1,hv1,hR1,hZ1⟩:=uk (B:=B) hsp hC a f.type _ fuel x hta hx (fun ha v hv=>h1 (by show(a.hasSl||b.hasSl)=true;rw[ha];rfl) v (List.mem_of_mem_take hv)) (fun ha=>h2 (by show(a.deep||b.deep)=true;rw[ha];rfl))
   obtain⟨v2,x2,hv2,hR2,hZ2⟩:=Is (B:=B) (hyp:=hyp) hsp hC b rest cs fuel (o+a.size) hrest (by omega) (fun f' hf'=>hf f' (bc _ hf'))
    (fun hb' v hv=>h1 (by show(a.hasSl||b.hasSl)=true;rw[hb'];simp) v (by rw[←List.drop_drop]at hv;exact List.mem_of_mem_drop hv)) (fun hb'=>h2 (by show(a.deep||b.deep)=true;rw[hb'];simp))
   refine⟨v1++v2,(x1,x2),?_,⟨v1,v2,rfl,hR1,hR2⟩,fun hW=>⟨hZ1 (hxW hW),hZ2 hW⟩⟩;have:=hv1.append hv2
   rwa [←List.drop_drop,List.take_append_drop]at this
end
theorem CV{W W':World}(h:∀i,i<W.heap.size→W'.heap[i]?=W.heap[i]?){a:Addr}{n:Nat}{cs:List Value}(hc:W.cells? 0 a n=some cs):W'.cells? 0 a n=some cs:=by
 unfold World.cells? at hc⊢
 rw[ac (aM _)]at hc⊢
 have key:∀(l:List Nat) (r:List Value),(l.mapM fun i=>W.cell? (a.add i))=some r→(l.mapM fun i=>W'.cell? (a.add i))=some r:=by
  intro l
  induction l with
  |nil=>intro r hr;exact hr
  |cons x l ih=>
   intro r hr;rw[List.mapM_cons]at hr⊢;cases h1:W.cell? (a.add x)with
   |none=>rw[h1]at hr;cases hr
   |some v=>
    have e:W'.cell? (a.add x)=some v:=by
     unfold World.cell? at h1⊢;split at h1
     ·rename_i hh;rw[h _ (Array.getElem?_eq_some_iff.1 hh).1,hh];exact h1
     ·cases h1
    rw[h1]at hr;rw[e];cases h2:l.mapM fun i=>W.cell? (a.add i)with
    |none=>rw[h2]at hr;cases hr
    |some vs=>
     rw[h2]at hr;rw[ih vs h2];exact hr
 exact key _ _ hc
theorem Uo{W:World}{a:Addr}{n:Nat}{cs:List Value}(hc:W.cells? 0 a n=some cs)(hn:0<n):a.block<W.heap.size:=by
 unfold World.cells? at hc
 rw[ac (aM _)]at hc
 obtain⟨h1,h2⟩:=fQ hc
 rw[List.length_range]at h1
 have:=h2 0 (by rw[List.length_range];exact hn) (by omega)
 rw[List.getElem_range]at this
 unfold World.cell? at this
 split at this
 ·rename_i hh;have:=(Array.getElem?_eq_some_iff.1 hh).1;unfold Addr.add at this
  simpa using this
 ·cases this
theorem qM{α β:Type}{f g:α→Option β}:∀{l:List α} {r:List β},l.mapM f=some r→(∀x∈l,∀y,f x=some y→g x=some y)→l.mapM g=some r
 |[],r,h,_=>h
 |a::l,r,h,hfg=>by
  rw[List.mapM_cons]at h⊢;cases h1:f a with
  |none=>rw[h1]at h;cases h
  |some b=>
   rw[h1]at h;rw[hfg a (bh ..) b h1];cases h2:l.mapM f with
   |none=>rw[h2]at h;cases h
   |some bs=>
    rw[h2]at h;rw[qM h2 fun x hx=>hfg x (bc _ hx)];exact h
theorem Eg{t:TypeId}{fs:Array Field}{cs:List Value}{fuel:Nat}(hu:P.underlying t=some (.struct fs))(hlen:cs.length=P.cellsOf t):DataW.trod enc P W 0 sp held (fuel+1) t cs=
 (fs.toList.mapM fun f=>DataW.trod enc P W 0 sp held fuel f.type ((cs.drop f.offset).take (P.cellsOf f.type))).map fun xs=>(DataW.agg (xs.map (·.1)),xs.flatMap (·.2)):=by
 rw[DataW.trod_step]
 unfold DataW.trodStep
 rw[hu]
 clear hu
 split
 all_goals first
  |(rename_i e;simp only[Option.some.injEq,TypeDesc.struct.injEq]at e;subst e;rw[ac hlen];done)
  |(rename_i e;cases e;done)
  |exact(‹∀fs_1:Array Field,some (TypeDesc.struct fs)=some (TypeDesc.struct fs_1)→False› fs rfl).elim
  |skip
mutual
theorem oC{W W':World}(hW:∀i,i<W.heap.size→W'.heap[i]?=W.heap[i]?):∀(ty:Ty) (t:TypeId) (cs:List Value) (fuel:Nat) (r:DataW H×List MemPlace),u0 P ty t=true→
 DataW.trod enc P W 0 (fun _=>true) held fuel t cs=some r→DataW.trod enc P W' 0 (fun b=>decide (b<W.heap.size)) held fuel t cs=some r
 |ty,t,cs,0,r,hb,h=>by cases h
 | .bool,t,cs,fuel+1,r,hb,h=>by
   rw[u0]at hb;split at hb
   ·rename_i hu;obtain⟨b,rfl⟩:=yn hu h;simp only[DataW.trod,hu]at h⊢;exact h
   ·cases hb
 | .int k,t,cs,fuel+1,r,hb,h=>by
   rw[u0]at hb;split at hb
   ·rename_i k' hu;obtain rfl:=aP hb;obtain⟨n,rfl,hn⟩:=BK hu h;simp only[DataW.trod,hu]at h⊢;exact h
   ·cases hb
 | .str,t,cs,fuel+1,r,hb,h=>by
   rw[u0]at hb;split at hb
   ·rename_i hu;obtain⟨s,rfl,hs⟩:=BM hu h;simp only[DataW.trod,hu]at h⊢;exact h
   ·cases hb
 | .sl e,t,cs,fuel+1,r,hb,h=>by
   rw[u0]at hb;split at hb
   ·rename_i te hu;simp only[aJ,decide_eq_true_eq]at hb;obtain⟨⟨hsz,_⟩,hb⟩:=hb;have hpos:=Ty.size_pos hb;rcases IF (B:=0) hu h with rfl|⟨a,len,cap,fuel',rfl,hlc,hcap,hel⟩
    ·simp only[DataW.trod,hu]at h⊢;exact h
    ·simp only[DataW.trod,hu]at h⊢;rw[ac ⟨aM _,hlc,hcap⟩]at h⊢
     have elem:∀i y,(W.cells? 0 (a.add (i*P.cellsOf te)) (P.cellsOf te)).bind (DataW.trod enc P W 0 (fun _=>true) held fuel te)=some y→
      (W'.cells? 0 (a.add (i*P.cellsOf te)) (P.cellsOf te)).bind (DataW.trod enc P W' 0 (fun b=>decide (b<W.heap.size)) held fuel te)=some y:=by
      intro i y hy;cases hc:W.cells? 0 (a.add (i*P.cellsOf te)) (P.cellsOf te)with
      |none=>rw[hc]at hy;cases hy
      |some es=>
       rw[hc]at hy;rw[CV hW hc];exact oC hW e te es fuel y hb hy
     cases hm:(List.range len).mapM fun i=>(W.cells? 0 (a.add (i*P.cellsOf te)) (P.cellsOf te)).bind (DataW.trod enc P W 0 (fun _=>true) held fuel te)with
     |none=>rw[hm]at h;cases h
     |some elems=>
      rw[hm]at h;rw[qM hm fun i _=>elem i];simp only[Option.bind_some,if_true]at h⊢;by_cases hblk:a.block<W.heap.size
      ·rw[af hblk];simp only[if_true];cases hm2:(List.range (cap-len)).mapM fun j=>(W.cells? 0 (a.add ((len+j)*P.cellsOf te)) (P.cellsOf te)).bind (DataW.trod enc P W 0 (fun _=>true) held fuel te)with
       |none=>rw[hm2]at h;cases h
       |some rest=>
        rw[hm2]at h;rw[qM hm2 fun i _=>elem (len+i)];exact h
      ·rw[ag hblk];have h0:cap-len=0:=by
        by_cases h0:cap-len=0
        ·exact h0
        ·exfalso;cases hm2:(List.range (cap-len)).mapM fun j=>(W.cells? 0 (a.add ((len+j)*P.cellsOf te)) (P.cellsOf te)).bind (DataW.trod enc P W 0 (fun _=>true) held fuel te)with
         |none=>rw[hm2]at h;cases h
         |some rest=>
          obtain⟨g1,g2⟩:=fQ hm2;rw[List.length_range]at g1;have:=g2 0 (by rw[List.length_range];omega) (by omega);cases hc:W.cells? 0 (a.add ((len+(List.range (cap-len))[0]'(by rw[List.length_range];omega))*P.cellsOf te)) (P.cellsOf te)with
          |none=>rw[hc]at this;cases this
          |some es=>
           have:=Uo hc (by omega);unfold Addr.add at this;split at this<;>exact hblk this
       rw[h0]at h;simp only[List.range_zero,List.mapM_nil]at h;exact h
   ·cases hb
 | .nil,t,cs,fuel+1,r,hb,h=>by cases hb
 | .cons a b,t,cs,fuel+1,r,hb,h=>by
   rw[u0]at hb;split at hb
   ·rename_i fs hu;simp only[aJ,decide_eq_true_eq]at hb;obtain⟨hsz,hb⟩:=hb;obtain⟨hlen,_⟩:=IG (B:=0) hu h;rw[Eg hu hlen]at h⊢;split at hb
    ·rename_i f rest hfs;simp only[aJ,decide_eq_true_eq]at hb;obtain⟨ho,hfa,hta,hrest⟩:=hb;rw[be]at h;obtain⟨xs,hm,rfl⟩:=h;rw[hfs]at hm⊢
     rw[qM hm fun g hg y hy=>by
      rcases bj.1 hg with rfl|hg
      ·exact oC hW a _ _ fuel y hta hy
      ·exact xL hW b rest fuel a.size hrest g hg _ y hy]
     rfl
    ·cases hb
   ·cases hb
theorem xL{W W':World}(hW:∀i,i<W.heap.size→W'.heap[i]?=W.heap[i]?):∀(ty:Ty) (fs:List Field) (fuel o:Nat),JU P ty fs o=true→ ∀f∈fs,∀(cs:List Value) (y:DataW H×List MemPlace),
 DataW.trod enc P W 0 (fun _=>true) held fuel f.type cs=some y→DataW.trod enc P W' 0 (fun b=>decide (b<W.heap.size)) held fuel f.type cs=some y
 | .nil,[],fuel,o,hb,f,hf,cs,y,h=>by cases hf
 | .nil,_::_,fuel,o,hb,f,hf,cs,y,h=>by cases hb
 | .bool,fs,fuel,o,hb,f,hf,cs,y,h=>by cases fs<;>cases hb
 | .int k,fs,fuel,o,hb,f,hf,cs,y,h=>by cases fs<;>cases hb
 | .str,fs,fuel,o,hb,f,hf,cs,y,h=>by cases fs<;>cases hb
 | .sl e,fs,fuel,o,hb,f,hf,cs,y,h=>by cases fs<;>cases hb
 | .cons a b,[],fuel,o,hb,f,hf,cs,y,h=>by cases hb
 | .cons a b,g::rest,fuel,o,hb,f,hf,cs,y,h=>by
   rw[JU]at hb;simp only[aJ,decide_eq_true_eq]at hb;obtain⟨ho,hfa,hta,hrest⟩:=hb;rcases bj.1 hf with rfl|hf
   ·exact oC hW a _ _ fuel y hta h
   ·exact xL hW b rest fuel _ hrest f hf cs y h
end
def Ty.arg:Ty→List V→V
 | .cons _ _,vs=> .g vs
 |_,v::_=>v
 |_,[]=>undef
def Lx(F:RO)(C:Nat):List Ty→List V→Prop
 |[],as0=>as0=[]
 |ty::r,as0=>∃vs x a',as0=ty.arg vs::a'∧Rp F .e C ty vs x∧Lx F C r a'
def L3(P:Program):List Ty→List TypeId→Bool
 |[],[]=>true
 |ty::r,t::ts=>u0 P ty t&&L3 P r ts
 |_,_=>false
theorem B1{base:Nat}{u:TypeId}{v:Value}(h:Cell.okWide P W .any base u v)(hC:W.heap.size≤C):Kf C v:=by
 unfold Kf
 split
 ·rename_i a;have key:W.has P .any base a 0 0∨ ∃e n,W.has P .any base a e n:=by
   unfold Cell.okWide at h;split at h<;>first|(rename_i e;cases e;done)|skip
   ·rename_i hne;unfold Cell.ok at h;split at h<;>first|(rename_i e;cases e;done)|skip
    all_goals first
     |exact h.elim
     |skip
    all_goals (rename_i e1 e2;first|cases e2|skip)
    exact .inr ⟨_,_,h.2.2⟩
  have:∃e n,W.has P .any base a e n:=by
   rcases key with h|h
   ·exact⟨0,0,h⟩
   ·exact h
  obtain⟨e,n,_,h1,row,cells,h2,_⟩:=this;refine .inl ⟨h1,?_⟩;unfold World.shape? at h2;split at h2
  ·rename_i hh;exact Nat.lt_of_lt_of_le (Array.getElem?_eq_some_iff.1 hh).1 hC
  ·cases h2
 ·trivial
theorem a08{base:Nat}{t:TypeId}{v:Value}(h:Value.okWide P W .any base t v)(hC:W.heap.size≤C):∀x∈v.cells.toList,Kf C x:=by
 intro x hx
 unfold Value.okWide at h
 have agg:(∃cs,v= .agg cs∧cs.size=P.cellsOf t∧Row.okWide P W .any base t cs)→Kf C x:=by
  rintro⟨cs,rfl,_,ts,_,_,hcell⟩;obtain⟨i,hi,rfl⟩:=List.getElem_of_mem hx
  obtain⟨u,_,hu⟩:=hcell i _ (by
   show cs[i]?=some _;rw[Array.getElem?_eq_getElem (by simpa [Value.cells]using hi)])
  exact B1 hu hC
 split at h
 ·exact agg h
 ·exact agg h
 ·have hv:v.cells=#[v]∨ ∃cs,v= .agg cs:=by
   cases v<;>first|exact .inl rfl|exact .inr ⟨_,rfl⟩
  rcases hv with hv|⟨cs,rfl⟩
  ·rw[hv]at hx;obtain rfl:x=v:=by simpa using hx
   exact B1 h hC
  ·exfalso;unfold Cell.okWide at h;split at h<;>first|(rename_i e1 e2;cases e2;done)|skip
   unfold Cell.ok at h;split at h<;>first|(rename_i e1 e2;cases e2;done)|exact h
theorem b64{base:Nat}{t:TypeId}{v:Value}{fs:Array Field}(h:Value.okWide P W .any base t v)(hu:P.underlying t=some (.struct fs)):∃cs,v= .agg cs:=by
 unfold Value.okWide at h
 rw[hu]at h
 obtain⟨cs,e,_⟩:=h
 exact⟨cs,e⟩
theorem YP{ty:Ty}{t:TypeId}{base:Nat}{v:Value}(h:Value.okWide P W .any base t v)(hb:u0 P ty t=true)(hn:∀a b,ty≠ .cons a b):v.cells=#[v]:=by
 have hu:∀fs,P.underlying t≠some (.struct fs):=by
  intro fs hu;cases ty with
  |cons a b=>exact hn a b rfl
  |nil=>cases hb
  |_=>rw[u0,hu]at hb;cases hb
 have hu2:∀n e,P.underlying t≠some (.array n e):=by
  intro n e hu;cases ty with
  |cons a b=>exact hn a b rfl
  |nil=>cases hb
  |_=>rw[u0,hu]at hb;cases hb
 unfold Value.okWide at h
 split at h
 ·exact(hu _ (by assumption)).elim
 ·exact(hu2 _ _ (by assumption)).elim
 ·cases v<;>first|rfl|skip
  exfalso;unfold Cell.okWide at h;split at h<;>first|(rename_i e1 e2;cases e2;done)|skip
  unfold Cell.ok at h;split at h<;>first|(rename_i e1 e2;cases e2;done)|exact h
theorem b68(hsp:∀b,sp b=true){ty:Ty}{t:TypeId}{base:Nat}{v:Value}{d:DataW H}{ps:List MemPlace}(hb:u0 P ty t=true)(h:DataW.Trod enc P W 0 sp held t v d ps)(hv:Value.okWide P W .any base t v)(hC:W.heap.size≤C)
 (hd:ty.deep=true→ ∀a x,W.cell? a=some x→Kf C x) (B:Nat):∃vs x,conc E0 (ty.arg vs)=v∧bd (· <C) (ty.arg vs)∧Rp (dJ W C) .e C ty vs x∧(EX P B t d→Sz B ty x):=by
 obtain⟨fuel,h⟩:=h
 obtain⟨vs,x,h1,h2⟩:=uk (B:=B) hsp hC ty t _ fuel _ hb h (fun _=>a08 hv hC) hd
 obtain⟨c1,c2⟩:=h1.conc
 refine⟨vs,x,?_,?_,h2⟩
 ·cases ty with
  |cons a b=>
   rw[u0]at hb;split at hb
   ·rename_i fs hu;obtain⟨cs,rfl⟩:=b64 hv hu;show Value.agg (au E0 vs).toArray=_;rw[c1];simp[Value.cells]
   ·cases hb
  |nil=>cases hb
  |_=>
   have hc:=YP hv hb (by intro a b e;cases e);rw[hc]at c1 h1;have hl:=h1.len
   match vs,hl with
   |[w],_=>
    have:[conc E0 w]=[v]:=c1;injection this
 ·cases ty with
  |cons a b=>exact c2
  |nil=>cases hb
  |_=>
   cases vs with
   |nil=>trivial
   |cons w r=>exact c2.1
theorem Fe(hsp:∀b,sp b=true){base:Nat}(hC:W.heap.size≤C):∀{C8:List Ty} {ts:List TypeId} {vs:List Value} {ds:List (DataW H)} {ps:List MemPlace},L3 P C8 ts=true→DataW.TrodAll enc P W 0 sp held ts vs ds ps→
 (∀(j:Nat) t v,ts[j]?=some t→vs[j]?=some v→Value.okWide P W .any base t v)→(C8.any Ty.deep=true→ ∀a x,W.cell? a=some x→Kf C x)→ ∃as0,au E0 as0=vs∧fq (· <C) as0∧Lx (dJ W C) C C8 as0
 |[],[],[],ds,ps,hb,h,hv,hd=>⟨[],rfl,trivial,rfl⟩
 |[],[],_::_,ds,ps,hb,h,hv,hd=>by cases ds<;>cases h
 |[],_::_,vs,ds,ps,hb,h,hv,hd=>by cases hb
 |_::_,[],vs,ds,ps,hb,h,hv,hd=>by cases hb
 |ty::C8,t::ts,[],ds,ps,hb,h,hv,hd=>by cases ds<;>cases h
 |ty::C8,t::ts,v::vs,[],ps,hb,h,hv,hd=>by cases h
 |ty::C8,t::ts,v::vs,d::ds,ps,hb,h,hv,hd=>by
  have hb':(u0 P ty t&&L3 P C8 ts)=true:=hb;rw[aJ]at hb';obtain⟨p,q,h1,h2,_⟩:=h;obtain⟨ws,x,g1,g2,g3,_⟩:=b68 hsp hb'.1 h1 (hv 0 t v rfl rfl) hC (fun hh=>hd (by rw[List.any_cons,hh];rfl)) 0;obtain⟨as0,a1,a2,a3⟩:=Fe hsp hC hb'.2 h2 (fun j t v ht hv'=>hv (j+1) t v ht hv') (fun hh=>hd (by rw[List.any_cons,hh];simp));exact⟨ty.arg ws::as0,by rw[au,g1,a1],⟨g2,a2⟩,ws,x,as0,rfl,g3,a3⟩
theorem Aj{W':World}(hW:∀i,i<W.heap.size→W'.heap[i]?=W.heap[i]?):∀{C8:List Ty} {ts:List TypeId} {vs:List Value} {ds:List (DataW H)} {ps:List MemPlace},L3 P C8 ts=true→
 DataW.TrodAll enc P W 0 (fun _=>true) held ts vs ds ps→DataW.TrodAll enc P W' 0 (fun b=>decide (b<W.heap.size)) held ts vs ds ps
 |[],[],[],[],ps,hb,h=>h
 |[],[],[],_::_,ps,hb,h=>by cases h
 |[],[],_::_,ds,ps,hb,h=>by cases ds<;>cases h
 |[],_::_,vs,ds,ps,hb,h=>by cases hb
 |_::_,[],vs,ds,ps,hb,h=>by cases hb
 |ty::C8,t::ts,[],ds,ps,hb,h=>by cases ds<;>cases h
 |ty::C8,t::ts,v::vs,[],ps,hb,h=>by cases h
 |ty::C8,t::ts,v::vs,d::ds,ps,hb,h=>by
  have hb':(u0 P ty t&&L3 P C8 ts)=true:=hb;rw[aJ]at hb';obtain⟨p,q,⟨fuel,h1⟩,h2,e⟩:=h;exact⟨p,q,⟨fuel,oC hW ty t _ fuel _ hb'.1 h1⟩,Aj hW hb'.2 h2,e⟩
theorem Vz{W:World}{C:Nat}(hC:W.heap.size≤C)(hk:1000≤C):eA (dJ W C) .e C:=by
 refine⟨fun _ _=>rfl,fun b hb=>?_,fun _ _=>rfl,hk⟩
 rw[jE,Array.getElem?_eq_none (by omega)];rfl
def Yu:Value→Nat
 | .slice (some a) 0 0=>Ag a+1
 |_=>0
theorem Am:∀l:List Value,∃B,∀x∈l,Yu x≤B
 |[]=>⟨0,fun x hx=>by cases hx⟩
 |v::l=>by
  obtain⟨B,hB⟩:=Am l;refine⟨max (Yu v) B,fun x hx=>?_⟩;rcases bj.1 hx with rfl|hx
  ·exact Nat.le_max_left _ _
  ·exact bm (hB x hx) (Nat.le_max_right _ _)
theorem Al:∀l:List Obj,∃B,∀cs t f,Obj.cells cs t f∈l→ ∀x∈cs.toList,Yu x≤B
 |[]=>⟨0,fun cs t f h=>by cases h⟩
 |o::l=>by
  obtain⟨B,hB⟩:=Al l;obtain⟨B',hB'⟩:∃B',∀cs t f,o=Obj.cells cs t f→ ∀x∈cs.toList,Yu x≤B':=by
   cases o with
   |cells cs t f=>
    obtain⟨B',h⟩:=Am cs.toList;exact⟨B',fun cs' t' f' e=>by injection e with e1 e2 e3;subst e1;exact h⟩
   |_=>exact⟨0,fun cs t f e=>by cases e⟩
  refine⟨max B B',fun cs t f h x hx=>?_⟩;rcases bj.1 h with h|h
  ·exact bm (hB' cs t f h.symm x hx) (Nat.le_max_right _ _)
  ·exact bm (hB cs t f h x hx) (Nat.le_max_left _ _)
theorem ba3(W:World):∃C,1000≤C∧W.heap.size≤C∧ ∀a x,W.cell? a=some x→Kf C x:=by
 obtain⟨B,hB⟩:=Al W.heap.toList
 refine⟨max 1000 (max W.heap.size B),Nat.le_max_left _ _,bm (Nat.le_max_left _ _) (Nat.le_max_right _ _),fun a x hx=>?_⟩
 unfold World.cell? at hx
 split at hx
 ·rename_i cs t f hh;split at hx
  ·cases hx
  ·have hm:Obj.cells cs t f∈W.heap.toList:=by
    obtain⟨h1,h2⟩:=Array.getElem?_eq_some_iff.1 hh;rw[←h2];exact Array.getElem_mem_toList h1
   have hxm:x∈cs.toList:=by
    obtain⟨h1,h2⟩:=Array.getElem?_eq_some_iff.1 hx;rw[←h2];exact Array.getElem_mem_toList h1
   have hb:=hB cs t f hm x hxm;unfold Kf;split
   ·rename_i a';have hb':Ag a'+1≤B:=hb;right;have:=Nat.le_max_right 1000 (max W.heap.size B);have:=Nat.le_max_right W.heap.size B;omega
   ·trivial
 ·cases hx
theorem Ue{F:RO}{M:Mem}{c:Nat}{vs:List V}{x:(Ty.sl (.int .u8)).D}(h:Rp F M c (.sl (.int .u8)) vs x):∃v,∃l:List UInt8,vs=[v]∧l9 F M c v l∧l.length≤9223372036854775807:=by
 obtain⟨v,es,rfl,hs,hl,he,hr⟩:=h
 have key:∀(es:List (List V)) (xs:List Int),es.length=xs.length→(∀i (h:i<es.length) (h':i<xs.length),es[i]=[V.i .u8 xs[i]]∧IntKind.u8.min≤xs[i]∧xs[i]≤IntKind.u8.max)→ ∃l:List UInt8,es=l.map fun x=>[bV x]:=by
  intro es
  induction es with
  |nil=>intro xs _ _;exact⟨[],rfl⟩
  |cons e es ih=>
   intro xs hl h;cases xs with
   |nil=>cases hl
   |cons z xs=>
    obtain⟨l,rfl⟩:=ih xs (by simpa using hl) (fun i hi hi'=>h (i+1) (by simpa using hi) (by simpa using hi'));obtain⟨h1,h2,h3⟩:=h 0 (by simp) (by simp);simp only[List.getElem_cons_zero]at h1 h2 h3;have h2':0≤z:=h2;have h3':z≤255:=h3;refine⟨UInt8.ofNat z.toNat::l,?_⟩;rw[List.map_cons,h1]
    congr 1
    unfold bV;rw[UInt8.toNat_ofNat',Nat.mod_eq_of_lt (by omega)]
    congr 2
    omega
 obtain⟨l,rfl⟩:=key es x he hr
 refine⟨v,l,rfl,hs,?_⟩
 rw[List.length_map]at he
 have hl':List.length x≤2^63-1:=hl
 have:List.length x=l.length:=he.symm
 omega
end
section
variable{Φ:Nat→Option CF}{rd:Option Nat}{fn:Nat}{F:RO}
def zt:ng→Ex
 | .none=> .nrm
 | .ret=> .ret
 | .ext id=> .ext id
def RfQ(t:T)(d:List Nat)(l:Nat)(Q:Ex→St→Prop)(M:Mem)(c:Nat):Prop:=
 ∃s pe fn tm ps a b dn,M.get l=some (.loop s pe fn tm ps a b dn)∧s≠ .busy∧Q (zt pe) (.mk t d (M.set l (.loop .exhausted pe fn tm ps a b dn)) c)
theorem ac4{f:X}{ps:List aE}{asg body:CC}{t:T}{d:List Nat}{M:Mem}{l dn:Nat}{Q:Ex→St→Prop}
 (h:wY (jd (K Φ rd fn F) (f.ev t) [.y l] (M.set l (.loop .ready .none fn t ps asg body dn)) (l+1)) fun _ M' c'=>RfQ t d l Q M' c'):
 ∃e s',nT f ps asg body (K Φ rd fn F) t d M l dn= .k e s'∧Q e s':=by
 obtain⟨v,M',c',he,s,pe,fn',tm,ps',a,b,dn',hl,hs,hq⟩:=h
 refine⟨zt pe,_,?_,hq⟩
 show(M.set l (.loop .ready .none fn t ps asg body dn)).force (fun M=>fN (Nat.succ l) fun c=>kX t d l (jd (K Φ rd fn F) (f.ev t) [.y l] M c))=_
 rw[Tr.force_eq,aQ]
 show kX t d l (jd (K Φ rd fn F) (f.ev t) [.y l] (M.set l (.loop .ready .none fn t ps asg body dn)) (l+1))=_
 rw[he]
 show Br t d M' c' l (dF (M'.get l))=_
 rw[hl]
 show Br t d M' c' l (.k s pe fn' tm ps' a b dn')=_
 cases s with
 |busy=>exact absurd rfl hs
 |_=>
  show(M'.set l (.loop .exhausted pe fn' tm ps' a b dn')).force (fun M=>vZ (.mk t d M c') pe)=_;rw[Tr.force_eq];cases pe<;>rfl
theorem Xi{f:X}{ps:List aE}{asg body:CC}{t:T}{d:List Nat}{M:Mem}{c:Nat}{Q:Ex→St→Prop}
 (h:wY (jd (K Φ none fn F) (f.ev t) [.y (c+1)] ((M.set c (.defs false)).set (c+1) (.loop .ready .none fn t ps asg body c)) (c+2)) fun _ M' c'=>RfQ t (c::d) (c+1) Q M' c'):
 Wp (.rf f ps asg body) (K Φ none fn F) (.mk t d M c) Q:=by
 obtain⟨e,s',h1,h2⟩:=ac4 h
 refine⟨e,s',?_,h2⟩
 show(M.set c (.defs false)).force (fun M=>fN (Nat.succ c) fun c'=>nT f ps asg body (K Φ none fn F) t (c::d) M c' c)=_
 rw[Tr.force_eq,aQ]
 exact h1
theorem Hi(f:Nat)(first caps args:List V)(M:Mem)(c:Nat):jd (K Φ rd fn F) (.f f first caps) args M c=fu (mW Φ) F f (first++(args++caps)) M c (Φ f):=rfl
def YQ(l:Nat)(P:V→Mem→Nat→Prop)(e:Ex)(s:St):Prop:=
 ∃t' M' c' s0 pe fn tm ps a b dn,s= .mk t' [] M' c'∧M'.get l=some (.loop s0 pe fn tm ps a b dn)∧match e with
  | .nrm=>P (.b true) (M'.set l (.loop .ready .none fn tm ps a b dn)) c'
  | .ret=>P (.b false) (M'.set l (.loop .done .ret fn tm ps a b dn)) c'
  | .ext id=>P (.b false) (M'.set l (.loop .done (.ext id) fn tm ps a b dn)) c'
  | .gto _=>False
theorem Xp{l fn':Nat}{args:List V}{M:Mem}{c:Nat}{P:V→Mem→Nat→Prop}{pe:ng}{tm t:T}{ps:List aE}{asg body:CC}{dn:Nat}(hl:M.get l=some (.loop .ready pe fn' tm ps asg body dn))(hp:cZ ps args tm=some t)
 (h:Wp asg (K Φ (some l) fn' F) (.mk t [] M c) fun e s=>e= .nrm∧ ∃t1 M1 c1 pe1 fn1 tm1 ps1 a1 b1 dn1,s= .mk t1 [] M1 c1∧M1.get l=some (.loop .ready pe1 fn1 tm1 ps1 a1 b1 dn1)∧Wp body (K Φ (some l) fn' F) (.mk t1 [] (M1.set l (.loop .busy pe1 fn1 tm1 ps1 a1 b1 dn1)) c1) (YQ l P)):
 wY (lh (K Φ rd fn F) (.y l) args M c) P:=by
 obtain⟨e,s,ha,rfl,t1,M1,c1,pe1,fn1,tm1,ps1,a1,b1,dn1,rfl,hl1,e2,s2,hb,t',M',c',s0,pe',fn2,tm2,ps2,a2,b2,dn2,rfl,hl2,hq⟩:=h
 have e1:lh (K Φ rd fn F) (.y l) args M c=l4 l (.k e2 (.mk t' [] M' c')):=by
  show qt (K Φ rd fn F) l args M c (dF (M.get l))=_;rw[hl];show BZ (K Φ rd fn F) l fn' asg body M c (cZ ps args tm)=_;rw[hp];show mQ (K Φ rd fn F) l fn' body (mW Φ (some l) fn' F asg (.mk t [] M c))=_;rw[uZ,ha];show qb (K Φ rd fn F) l fn' body t1 M1 c1 (dF (M1.get l))=_;rw[hl1];show(M1.set l (.loop .busy pe1 fn1 tm1 ps1 a1 b1 dn1)).force (fun M=>l4 l (mW Φ (some l) fn' F body (.mk t1 [] M c1)))=_;rw[Tr.force_eq,uZ,hb]
 rw[e1]
 cases e2 with
 |nrm=>
  refine⟨_,_,_,?_,hq⟩;show tx M' l c' .ready .none true (dF (M'.get l))=_;rw[hl2];show(M'.set l (.loop .ready .none fn2 tm2 ps2 a2 b2 dn2)).force (fun M=>RC.k (.b true) M c')=_;rw[Tr.force_eq]
 |ret=>
  refine⟨_,_,_,?_,hq⟩;show tx M' l c' .done .ret false (dF (M'.get l))=_;rw[hl2];show(M'.set l (.loop .done .ret fn2 tm2 ps2 a2 b2 dn2)).force (fun M=>RC.k (.b false) M c')=_;rw[Tr.force_eq]
 |ext id=>
  refine⟨_,_,_,?_,hq⟩;show tx M' l c' .done (.ext id) false (dF (M'.get l))=_;rw[hl2];show(M'.set l (.loop .done (.ext id) fn2 tm2 ps2 a2 b2 dn2)).force (fun M=>RC.k (.b false) M c')=_;rw[Tr.force_eq]
 |gto l=>exact hq.elim
def bs1(Φ:Nat→Option CF)(F:RO)(l fn':Nat)(body:CC)(P:V→Mem→Nat→Prop)(e:Ex)(s:St):Prop:=
 e= .nrm∧ ∃t1 M1 c1 pe1 fn1 tm1 ps1 a1 b1 dn1,s= .mk t1 [] M1 c1∧M1.get l=some (.loop .ready pe1 fn1 tm1 ps1 a1 b1 dn1)∧Wp body (K Φ (some l) fn' F) (.mk t1 [] (M1.set l (.loop .busy pe1 fn1 tm1 ps1 a1 b1 dn1)) c1) (YQ l P)
theorem Fg{l fn':Nat}{body:CC}{P:V→Mem→Nat→Prop}{t1:T}{M1:Mem}{c1:Nat}{pe1:ng}{fn1:Nat}{tm1:T}{ps1:List aE}{a1 b1:CC}{dn1:Nat}(hl:M1.get l=some (.loop .ready pe1 fn1 tm1 ps1 a1 b1 dn1))
 (h:Wp body (K Φ (some l) fn' F) (.mk t1 [] (M1.set l (.loop .busy pe1 fn1 tm1 ps1 a1 b1 dn1)) c1) (YQ l P)):bs1 Φ F l fn' body P .nrm (.mk t1 [] M1 c1):=⟨rfl,_,_,_,_,_,_,_,_,_,_,rfl,hl,h⟩
theorem C0{l fn':Nat}{args:List V}{M:Mem}{c:Nat}{P:V→Mem→Nat→Prop}{pe:ng}{tm t:T}{ps:List aE}{asg body:CC}{dn:Nat}(hl:M.get l=some (.loop .ready pe fn' tm ps asg body dn))(hp:cZ ps args tm=some t)
 (h:Wp asg (K Φ (some l) fn' F) (.mk t [] M c) (bs1 Φ F l fn' body P)):wY (lh (K Φ rd fn F) (.y l) args M c) P:=Xp hl hp h
theorem Xq{l:Nat}{P:V→Mem→Nat→Prop}{t':T}{M':Mem}{c':Nat}{s0:LS}{pe:ng}{fn:Nat}{tm:T}{ps:List aE}{a b:CC}{dn:Nat}(hl:M'.get l=some (.loop s0 pe fn tm ps a b dn))(h:P (.b true) (M'.set l (.loop .ready .none fn tm ps a b dn)) c'):YQ l P .nrm (.mk t' [] M' c'):=
 ⟨_,_,_,_,_,_,_,_,_,_,_,rfl,hl,h⟩
theorem bq6{l:Nat}{P:V→Mem→Nat→Prop}{t':T}{M':Mem}{c':Nat}{s0:LS}{pe:ng}{fn:Nat}{tm:T}{ps:List aE}{a b:CC}{dn:Nat}(hl:M'.get l=some (.loop s0 pe fn tm ps a b dn))(h:P (.b false) (M'.set l (.loop .done .ret fn tm ps a b dn)) c'):YQ l P .ret (.mk t' [] M' c'):=
 ⟨_,_,_,_,_,_,_,_,_,_,_,rfl,hl,h⟩
theorem mC{d:Nat}{r:List Nat}{M:Mem}(h:M.get d=some (.defs false)):cA (d::r) M=cA r (M.set d (.defs true)):=by
 show Option.rec (motive:=fun _=>Option Mem) none (fun blk=>wm (cA r) M d blk) (M.get d)=_
 rw[h]
 show wm (cA r) M d (.defs false)=_
 unfold wm
 show(M.set d (.defs true)).force (fun M=>cA r M)=_
 rw[Tr.force_eq]
theorem lq(F:RO)(res:List RV)(Post:V→Mem→Nat→Prop)(t:T)(d:List Nat)(M:Mem)(c:Nat):j5 F res Post .ret (.mk t d M c)=LB (cA d M) F t res c Post:=rfl
theorem lm(M:Mem)(t:T)(res:List RV)(c:Nat)(Post:V→Mem→Nat→Prop):LB (some M) F t res c Post=J0 (eN F M t res) M c Post:=rfl
theorem zy{α:Type}(v w:Option α):∀(t:Tr α) (k:Nat) (x:α),t.get k=some x→(t.put v k).put w k=t.put w k
 | .e,k,x,h=>by cases h
 | .n l y r,k,x,h=>by
   rw[Tr.put_n,Tr.put_n];rw[Tr.get_n]at h;by_cases h0:k=0
   ·rw[ac h0,ac h0,Tr.put_n,ac h0]
   ·rw[ab h0]at h;rw[ab h0,ab h0];by_cases h2:k%2=0
    ·rw[ac h2]at h;rw[ac h2,ac h2,Tr.put_n,ab h0,ac h2,zy v w r _ x h]
    ·rw[ab h2]at h;rw[ab h2,ab h2,Tr.put_n,ab h0,ab h2,zy v w l _ x h]
theorem YX{M:Mem}{b:Nat}{x:bz}(h:M.get b=some x):(M.del b).set b x=M:=by
 show((M.put none b).put (some x) b)=M
 rw[zy _ _ M b x h,qT x M b h]
theorem w4{M:Mem}(b:Nat):∀{F:RO},bN M F=true→bN (M.del b) F=true
 |[],_=>rfl
 |(b',x)::F,h=>by
  rw[iY,aJ]at h;rw[iY,w4 b h.2,Tr.get_del];split
  ·rfl
  ·rw[h.1];rfl
theorem kJ(mask:Nat):∀(reads:List (Nat×Nat)) (F:RO) (M:Mem) (s:List (Nat×bz)),bN M F=true→ ∃F' M' s',cQ mask reads F M s=Pr.mk F' M' s'∧bN M' F'=true∧bO s' M'=bO s M
 |[],F,M,s,h=>⟨F,M,s,rfl,h,rfl⟩
 |(i,b)::r,F,M,s,h=>by
  rw[cQ];cases testBit mask i with
  |true=>exact kJ mask r F M s h
  |false=>
   show∃F' M' s',(match M.get b with|none=>cQ mask r F M s|some blk=>(M.del b).force fun M=>cQ mask r ((b,blk)::F) M ((b,blk)::s))=Pr.mk F' M' s'∧_;cases hb:M.get b with
   |none=>exact kJ mask r F M s h
   |some blk=>
    obtain⟨F',M',s',h1,h2,h3⟩:=kJ mask r ((b,blk)::F) (M.del b) ((b,blk)::s) (by
     rw[iY,w4 b h,Tr.get_del,ac rfl];rfl)
    refine⟨F',M',s',?_,h2,?_⟩
    ·show(M.del b).force (fun M=>cQ mask r ((b,blk)::F) M ((b,blk)::s))=_;rw[Tr.force_eq];exact h1
    ·rw[h3];show((M.del b).set b blk).force (fun M=>bO s M)=_;rw[Tr.force_eq,YX hb]
def aj5(o:Option V)(p:Option aE)(base:Nat)(r:List (Nat×Nat×CO))(k:Kn)(t:T)(M:Mem)(c:Nat)(reads:List (Nat×Nat))(R:DS→Prop):Prop:=match o with
 |some v=>qj base r k (.mk (setT t p v) M c [] reads) R
 |none=>False
theorem bU6(v:V)(p:Option aE)(base:Nat)(r:List (Nat×Nat×CO))(k:Kn)(t:T)(M:Mem)(c:Nat)(reads:List (Nat×Nat))(R:DS→Prop):aj5 (some v) p base r k t M c reads R=qj base r k (.mk (setT t p v) M c [] reads) R:=Eq.trans rfl (Eq.refl _)
theorem IM{f:Nat}{h:List V→Option V}(base i mask:Nat)(dst:Option aE)(as0:List X)(r:List (Nat×Nat×CO))(t:T)(M:Mem)(c:Nat)(reads:List (Nat×Nat))(R:DS→Prop)(hf:Φ f=some (.orc (aj h)))(hM:bN M F=true)
 (hk:aj5 (h (evs as0 t)) dst base r (K Φ rd fn F) t M c reads R):qj base ((i,mask,.mk dst (.e (.call f as0)) none)::r) (K Φ rd fn F) (.mk t M c [] reads) R:=by
 cases hv:h (evs as0 t)with
 |none=>rw[hv]at hk;exact hk.elim
 |some v=>
  rw[hv]at hk;rw[iL];refine⟨_,?_,hk⟩;obtain⟨F',M',s',h1,h2,h3⟩:=kJ mask reads F M [] hM;show wK (.call f as0) (K Φ rd fn F) dst t c [] reads (cQ mask reads F M [])=_;rw[h1];show(bif cW F' M' []then qz F' dst t [] reads s' (fu (mW Φ) F' f (evs as0 t) M' c (Φ f))else none)=_;rw[hf];show qz F' dst t [] reads s' (aj h F' (evs as0 t) M' c)=_;have:aj h F' (evs as0 t) M' c= .k v M' c:=by unfold aj;rw[hv]
  rw[this];show(bif bN M' F'&&cW F' M' []then(bO s' M').force fun M=>(setT t dst v).force fun t=>some (DS.mk t M c [] reads)else none)=_;rw[h2];show(bO s' M').force (fun M=>(setT t dst v).force fun t=>some (DS.mk t M c [] reads))=_;rw[Tr.force_eq,Tr.force_eq,h3];rfl
theorem cb7{base i mask:Nat}{dst:Option aE}{o:OK}{g:aE}{want:Bool}{r:List (Nat×Nat×CO)}{k:Kn}{t:T}{M:Mem}{c:Nat}{pend:List (Nat×Nat×bz)}{reads:List (Nat×Nat)}{R:DS→Prop}(hg:cz t g= .b want):
 qj base ((i,mask,.mk dst o (some (g,want)))::r) k (.mk t M c pend reads) R=qj base ((i,mask,.mk dst o none)::r) k (.mk t M c pend reads) R:=by
 have hw:wanted t (some (g,want))=true:=by
  show hU want (cz t g)=_;rw[hg];cases want<;>rfl
 have hs:wJ k base (i,mask,.mk dst o (some (g,want))) (.mk t M c pend reads)=wJ k base (i,mask,.mk dst o none) (.mk t M c pend reads):=by
  show(bif wanted t (some (g,want))then _ else _)=_;rw[hw];rfl
 apply propext
 rw[iL,iL,hs]
theorem cb6{base i mask:Nat}{dst:Option aE}{o:OK}{g:aE}{want:Bool}{r:List (Nat×Nat×CO)}{k:Kn}{t:T}{M:Mem}{c:Nat}{pend:List (Nat×Nat×bz)}{reads:List (Nat×Nat)}{R:DS→Prop}(hg:cz t g= .b (!want)):
 qj base ((i,mask,.mk dst o (some (g,want)))::r) k (.mk t M c pend reads) R=qj base r k (.mk (setT t dst undef) M c pend reads) R:=by
 have hw:wanted t (some (g,want))=false:=by
  show hU want (cz t g)=_;rw[hg];cases want<;>rfl
 have hs:wJ k base (i,mask,.mk dst o (some (g,want))) (.mk t M c pend reads)=some (.mk (setT t dst undef) M c pend reads):=by
  show(bif wanted t (some (g,want))then _ else(setT t dst undef).force fun t=>some (DS.mk t M c pend reads))=_;rw[hw];show(setT t dst undef).force (fun t=>some (DS.mk t M c pend reads))=_;rw[Tr.force_eq]
 apply propext
 rw[iL,hs]
 constructor
 ·rintro⟨s',h,q⟩;obtain rfl:=ae h;exact q
 ·exact fun q=>⟨_,rfl,q⟩
theorem cb8{base i mask:Nat}{dst:Option aE}{o:OK}{g:aE}{want:Bool}{r:List (Nat×Nat×CO)}{k:Kn}{t:T}{M:Mem}{c:Nat}{pend:List (Nat×Nat×bz)}{reads:List (Nat×Nat)}{R:DS→Prop}(hg:cz t g=undef):
 qj base ((i,mask,.mk dst o (some (g,want)))::r) k (.mk t M c pend reads) R=qj base r k (.mk (setT t dst undef) M c pend reads) R:=by
 have hw:wanted t (some (g,want))=false:=by
  show hU want (cz t g)=_;rw[hg];rfl
 have hs:wJ k base (i,mask,.mk dst o (some (g,want))) (.mk t M c pend reads)=some (.mk (setT t dst undef) M c pend reads):=by
  show(bif wanted t (some (g,want))then _ else(setT t dst undef).force fun t=>some (DS.mk t M c pend reads))=_;rw[hw];show(setT t dst undef).force (fun t=>some (DS.mk t M c pend reads))=_;rw[Tr.force_eq]
 apply propext
 rw[iL,hs]
 constructor
 ·rintro⟨s',h,q⟩;obtain rfl:=ae h;exact q
 ·exact fun q=>⟨_,rfl,q⟩
theorem be8(n:Nat)(b o:Nat)(M:Mem){vs:List V}(h:loadN F M b o n=some vs)(t:T)(x:X)(hx:x.ev t= .p b o):oZ (.ldn n x) F M t= .r (.g vs) b:=by
 have hblk:∃blk,look F M b=some blk:=by
  unfold loadN at h;cases hl:look F M b with
  |none=>rw[hl]at h;cases h
  |some blk=>exact⟨blk,rfl⟩
 obtain⟨blk,hb⟩:=hblk
 have q:∀F' M',loadN F' M' b o n=some vs→cY (.ldn n x) F' M' t= .r (.g vs) b:=by
  intro F' M' h';show(sc (x.ev t) .f fun b o=>qgb b (loadN F' M' b o n))=_;rw[hx];show qgb b (loadN F' M' b o n)=_;rw[h'];rfl
 show JC (.ldn n x) F M t (cY (.ldn n x) F M t)=_
 rw[q F M h]
 show YW (.ldn n x) t b (look F M b)=_
 rw[hb]
 show Im b (cY (.ldn n x) [(b,blk)] .e t)=_
 have h':loadN [(b,blk)] .e b o n=some vs:=by
  unfold loadN at h⊢;rw[hb]at h;rw[aO (show(Tr.e:Mem).get b=none from rfl),fD,ac rfl];exact h
 rw[q _ _ h'];rfl
def bN5(n:Nat)(X:V)(F:RO)(M:Mem):QR:=oZ (.ldn n (.c X)) F M .e
def bN6(b:Nat):Option (List V)→QR
 |some vs=> .r (.g vs) b
 |none=> .f
theorem K2(b:Nat)(vs:List V):bN6 b (some vs)= .r (.g vs) b:=Eq.trans rfl (Eq.refl _)
theorem YZ(n:Nat)(x:X)(M:Mem)(t:T):oZ (.ldn n x) F M t=bN5 n (x.ev t) F M:=Eq.trans rfl (Eq.refl _)
theorem be7(n b o:Nat)(M:Mem):bN5 n (.p b o) F M=bN6 b (loadN F M b o n):=by
 cases h:loadN F M b o n with
 |some vs=>exact be8 n b o M h .e _ rfl
 |none=>
  show JC (.ldn n (.c (.p b o))) F M .e (qgb b (loadN F M b o n))=_;rw[h];rfl
theorem bH7(c a b:X)(M:Mem)(t:T):oZ (.pk c a b) F M t=oV (pkV (c.ev t) (a.ev t) (b.ev t)):=by
 refine(gR ?_).trans (congrArg oV (bZ5 (F:=F) c a b M t))
 intro F' M'
 show(DB (c.ev t) QR.f fun x=>Bool.rec (motive:=fun _=>QR) (.v (b.ev t)) (.v (a.ev t)) x)=oV (DB (c.ev t) QR.f fun x=>Bool.rec (motive:=fun _=>QR) (.v (b.ev t)) (.v (a.ev t)) x).val
 cases c.ev t with
 |b x=>cases x<;>rfl
 |_=>rfl
theorem bH8(op:UnOp)(x:X)(M:Mem)(t:T):oZ (.un op x) F M t=oV (unV op (x.ev t)):=by
 refine(gR ?_).trans (congrArg oV (bZ6 (F:=F) op x M t))
 intro F' M'
 refine mM ?_
 show(cY (.un op x) F' M' t= .f∨_)
 cases op with
 |neg=>
  show((vH (x.ev t) QR.f fun k n=>vI k (wr k (Int.sub 0 n)))= .f∨ ∃y,(vH (x.ev t) QR.f fun k n=>vI k (wr k (Int.sub 0 n)))= .v y);cases x.ev t with
  |i k n=>exact .inr ⟨_,eI _ _⟩
  |_=>exact .inl rfl
 |not=>
  show((DB (x.ev t) QR.f fun b=>vB (s9 b))= .f∨ ∃y,(DB (x.ev t) QR.f fun b=>vB (s9 b))= .v y);cases x.ev t with
  |b b=>exact .inr ⟨_,mP _⟩
  |_=>exact .inl rfl
 |xor=>
  show((vH (x.ev t) QR.f fun k n=>kA k (Nat.xor (Nat.sub (Nat.pow 2 (jY k)) 1) (toU k n)))= .f∨ ∃y,(vH (x.ev t) QR.f fun k n=>kA k (Nat.xor (Nat.sub (Nat.pow 2 (jY k)) 1) (toU k n)))= .v y);cases x.ev t with
  |i k n=>exact .inr ⟨_,eI _ _⟩
  |_=>exact .inl rfl
 |plus=>exact .inl rfl
def wc:Sh→Bool
 | .ptr=>false
 | .agg _=>false
 |_=>true
def tj:List (Nat×Sh)→Bool
 |[]=>true
 |(_,s)::r=>wc s&&tj r
def KM:Sh→Bool
 | .ptr=>false
 | .agg ks=>tj ks
 |_=>true
theorem UG{sh:Sh}(h:wc sh=true)(F':RO)(M M':Mem)(lit:Bool)(x y:V):Hq F' M' sh lit x y=Hq F M sh lit x y:=by
 cases sh<;>first|rfl|cases h
theorem va(F':RO)(M M':Mem)(xs ys:List V):∀{ks:List (Nat×Sh)},tj ks=true→mJ F' M' xs ys ks=mJ F M xs ys ks
 |[],_=>rfl
 |(o,s)::r,h=>by
  have h':(wc s&&tj r)=true:=h;rw[aJ]at h';rw[pE,pE,va F' M M' xs ys h'.2]
  congr 1
  cases xs[o]? with
  |none=>rfl
  |some x=>
   cases ys[o]? with
   |none=>rfl
   |some y=>exact UG h'.1 F' M M' false x y
theorem UJ{sh:Sh}(h:KM sh=true)(F':RO)(M M':Mem)(lit:Bool)(x y:V):ua F' M' sh lit x y=ua F M sh lit x y:=by
 cases sh with
 |agg ks=>
  show xD F' M' ks x y=xD F M ks x y;unfold xD;cases x<;>first|rfl|skip
  cases y<;>first|rfl|skip
  exact va F' M M' _ _ h
 |ptr=>cases h
 |_=>rfl
theorem bH3(neg:Bool)(sh:Sh)(lit:Bool)(x y:X)(M:Mem)(t:T)(h:KM sh=true):oZ (.eq neg sh lit x y) F M t=oV (a06 neg (ua F M sh lit (x.ev t) (y.ev t))):=by
 refine(gR ?_).trans (congrArg oV (bY5 (F:=F) neg sh lit x y M t))
 intro F' M'
 show ya neg (ua F' M' sh lit (x.ev t) (y.ev t))=oV (ya neg (ua [] .e sh lit (x.ev t) (y.ev t))).val
 rw[UJ (F:=[]) h F' .e M']
 refine mM ?_
 cases ua [] .e sh lit (x.ev t) (y.ev t)with
 |none=>exact .inl rfl
 |some r=>exact .inr ⟨_,mP _⟩
theorem Wa(ks:List (Nat×Sh)):KM (.agg ks)=tj ks:=rfl
theorem KR:tj []=true:=Eq.trans rfl (Eq.refl _)
theorem E4(o:Nat)(s:Sh)(r:List (Nat×Sh)):tj ((o,s)::r)=(wc s&&tj r):=rfl
theorem KO:wc .int=true:=Eq.trans rfl (Eq.refl _)
theorem DZ:wc .bool=true:=Eq.trans rfl (Eq.refl _)
theorem KP:wc .str=true:=Eq.trans rfl (Eq.refl _)
theorem Wb:KM .int=true:=Eq.trans rfl (Eq.refl _)
theorem KQ:KM .bool=true:=Eq.trans rfl (Eq.refl _)
theorem Wc:KM .str=true:=Eq.trans rfl (Eq.refl _)
theorem UI(lit:Bool)(M:Mem)(a b:Bool):ua F M .bool lit (.b a) (.b b)=some (decide (a=b)):=Av (F:=F) lit M a b
theorem bH5(off:Nat)(x:X)(M:Mem)(t:T):oZ (.fa off x) F M t=oV (match x.ev t with| .p b o=>some (.p b (o+off))|_=>none):=by
 refine(gR ?_).trans (congrArg oV (bY7 (F:=F) off x M t))
 intro F' M'
 refine mM ?_
 show((sc (x.ev t) QR.f fun b o=>uc b (Nat.add o off))= .f∨ ∃y,(sc (x.ev t) QR.f fun b o=>uc b (Nat.add o off))= .v y)
 cases x.ev t with
 |p b o=>exact .inr ⟨.p b (o+off),by show uc b (o+off)=_;unfold uc;rw[aQ]⟩
 |_=>exact .inl rfl
theorem bb4(x:X)(M:Mem)(t:T):oZ (.ln .slice x) F M t=oV (Dv (x.ev t)):=by
 refine(gR ?_).trans (congrArg oV ((bl2 (F:=F) .slice x M t).trans (bN9 (F:=F) M _)))
 intro F' M'
 refine mM ?_
 show(Id (Ds (x.ev t))= .f∨ ∃y,Id (Ds (x.ev t))= .v y)
 cases Ds (x.ev t)with
 |none=>exact .inl rfl
 |some n=>exact .inr ⟨_,rfl⟩
theorem bb7(x:X)(M:Mem)(t:T):oZ (.ln .str x) F M t=oV (lnV .str F M (x.ev t)):=by
 refine(gR ?_).trans (congrArg oV (bl2 (F:=F) .str x M t))
 intro F' M'
 refine mM ?_
 show((pR (x.ev t) QR.f fun n _=> .v (.i .i64 (.ofNat n)))= .f∨ ∃y,(pR (x.ev t) QR.f fun n _=>QR.v (.i .i64 (.ofNat n)))= .v y)
 cases x.ev t with
 |s n x=>exact .inr ⟨_,rfl⟩
 |_=>exact .inl rfl
theorem ba9(x i:X)(M:Mem)(t:T):oZ (.ixS x i) F M t=oV (qI (x.ev t) (i.ev t)):=by
 refine(gR ?_).trans (congrArg oV (b11 (F:=F) x i M t))
 intro F' M'
 refine mM ?_
 show((pR (x.ev t) QR.f fun n s=>Option.rec (motive:=fun _=>QR) .f (fun i=>nP n s i) (rA (i.ev t)))= .f∨ ∃y,(pR (x.ev t) QR.f fun n s=>Option.rec (motive:=fun _=>QR) .f (fun i=>nP n s i) (rA (i.ev t)))= .v y)
 cases x.ev t with
 |s n x=>
  show(Option.rec (motive:=fun _=>QR) .f (fun i=>nP n x i) (rA (i.ev t))= .f∨ ∃y,(Option.rec (motive:=fun _=>QR) .f (fun i=>nP n x i) (rA (i.ev t)):QR)= .v y);cases rA (i.ev t)with
  |none=>exact .inl rfl
  |some k=>
   show(Bool.rec (motive:=fun _=>QR) .f (fN (Nat.mod (Nat.div x (kW k)) 256) fun c=> .v (.i .u8 (.ofNat c))) (Nat.blt k n)= .f∨ ∃y,(Bool.rec (motive:=fun _=>QR) .f (fN (Nat.mod (Nat.div x (kW k)) 256) fun c=> .v (.i .u8 (.ofNat c))) (Nat.blt k n):QR)= .v y);cases Nat.blt k n with
   |false=>exact .inl rfl
   |true=>exact .inr ⟨_,by show fN _ _=_;rw[aQ]⟩
 |_=>exact .inl rfl
def uO(u:List (Option V))(i:Nat):Option V:=(u[i]?).join
def zJ(I:Nat→St→Prop)(n:Nat)(Q:Ex→St→Prop):Ex→St→Prop
 | .nrm,s=>∃m,m<n∧I m s
 |e,s=>Q e s
theorem DU(I:Nat→St→Prop)(n:Nat)(Q:Ex→St→Prop)(s:St):zJ I n Q .nrm s=∃m,m<n∧I m s:=Eq.trans rfl (Eq.refl _)
theorem DV(I:Nat→St→Prop)(n:Nat)(Q:Ex→St→Prop)(s:St):zJ I n Q .ret s=Q .ret s:=Eq.trans rfl (Eq.refl _)
theorem DT(I:Nat→St→Prop)(n:Nat)(Q:Ex→St→Prop)(s:St)(id:Nat):zJ I n Q (.ext id) s=Q (.ext id) s:=Eq.trans rfl (Eq.refl _)
theorem cX{b:CC}{Q:Ex→St→Prop}(I:Nat→St→Prop)(h:∀n s,I n s→Wp b (K Φ rd fn F) s (zJ I n Q)):∀n s,I n s→Wp (.loop b) (K Φ rd fn F) s Q:=
 L9 I fun n s hs=>(h n s hs).mono fun e s' he=>by cases e<;>exact he
end
section
variable{Φ:Nat→Option CF}{rd:Option Nat}{fn:Nat}{F:RO}
theorem sw{M:Mem}{b o ty n fz:Nat}{ex str:Bool}{d vs:List V}{t:T}(hM:M.get b=some (.cells ty n ex fz str d t))(h1:o+vs.length≤n)(h2:fz≤o)(h3:br vs=true):
 dA M b o vs=some (M.set b (.cells ty n ex fz str d (aX vs o t))):=by
 show Option.rec (motive:=fun _=>Option Mem) none (fun blk=>oy M b o vs blk) (M.get b)=_
 rw[hM]
 show(Bool.rec (motive:=fun _=>Option Mem) none (Bool.rec (motive:=fun _=>Option Mem) none (Bool.rec (motive:=fun _=>Option Mem) none (fE M b o vs ty n ex fz str d t) (br vs)) (Nat.ble fz o)) (Nat.ble (Nat.add o vs.length) n))=_
 rw[bb,bb,bb,bG,bG,af (show Nat.add o vs.length≤n from h1),af h2,h3]
 simp only[if_true]
 unfold fE
 rw[Tr.force_eq,Tr.force_eq]
def ku(M:Mem)(c0 c b ty sz cap:Nat)(v:V)(es:List (List V)):Prop:=
 (∀e∈es,e.length=sz)∧es.length≤cap∧c0≤b∧b<c∧v= .l b 0 es.length cap∧ ∃d t,M.get b=some (.cells ty (cap*sz) true 0 false d t)∧ ∀k,k<es.flatten.length→cell (cap*sz) d t k=es.flatten[k]?
theorem ku.sl{M:Mem}{c0 c b ty sz cap:Nat}{v:V}{es:List (List V)}(h:ku M c0 c b ty sz cap v es):cU F M c sz v es:=by
 obtain⟨h0,h1,h2,h3,rfl,d,t,hM,hc⟩:=h
 refine⟨h0,.inr ⟨b,0,.inl ⟨cap,h1,rfl⟩,h3,fun k hk=>?_⟩⟩
 rw[Nat.zero_add]
 unfold Ev.load1
 rw[am hM]
 exact hc k hk
theorem ku.up{M M':Mem}{c0 c c' b ty sz cap:Nat}{v:V}{es:List (List V)}(h:ku M c0 c b ty sz cap v es)(hc:c≤c')(hb:b<c→M'.get b=M.get b):ku M' c0 c' b ty sz cap v es:=by
 obtain⟨h0,h1,h2,h3,rfl,d,t,hM,hcell⟩:=h
 exact⟨h0,h1,h2,by omega,rfl,d,t,by rw[hb h3];exact hM,hcell⟩
theorem ku.gr{M M':Mem}{c0 c c' b ty sz cap:Nat}{v:V}{es:List (List V)}(h:ku M c0 c b ty sz cap v es)(hg:Gr c M c' M'):ku M' c0 c' b ty sz cap v es:=h.up hg.le fun hb=>hg.old b hb
theorem YO{M0 M:Mem}{c0 c b ty sz bytes cap:Nat}{v:V}{es ns:List (List V)}(h:ku M c0 c b ty sz cap v es)(hg:Gr c0 M0 c M)(hn:∀e∈ns,e.length=sz)(h1:br ns.flatten=true)(hr:es.length+ns.length≤cap)(hn0:ns≠[]):
 wY (kR F M c ty sz bytes v (some (ns.length,ns.flatten))) fun v' M' c'=>c'=c∧ku M' c0 c b ty sz cap v' (es++ns)∧Gr c0 M0 c M'∧ ∀x,x≠b→M'.get x=M.get x:=by
 obtain⟨h0,h2,h3,h4,rfl,d,t,hM,hcell⟩:=h
 have hnl:=fw hn
 have hel:=fw h0
 have hlen:ns.length≠0:=fun e=>hn0 (List.length_eq_zero_iff.1 e)
 have hroom:es.length*sz+ns.flatten.length≤cap*sz:=by
  rw[hnl,←Nat.add_mul];exact Nat.mul_le_mul_right _ hr
 have hst:=sw (o:=es.length*sz) (vs:=ns.flatten) hM hroom (aM _) h1
 have e1:kR F M c ty sz bytes (.l b 0 es.length cap) (some (ns.length,ns.flatten))= .k (.l b 0 (es.length+ns.length) cap) (M.set b (.cells ty (cap*sz) true 0 false d (aX ns.flatten (es.length*sz) t))) c:=by
  show(bif br ns.flatten&&Nat.beq ns.flatten.length (Nat.mul ns.length sz)then app F M c ty sz bytes (.l b 0 es.length cap) ns.length ns.flatten else _)=_;rw[h1,bp,af (show ns.flatten.length=Nat.mul ns.length sz from hnl)];show app F M c ty sz bytes (.l b 0 es.length cap) ns.length ns.flatten=_;unfold app;rw[bp,ag hlen,cond_false];show ql F M c ty sz bytes b 0 es.length cap ns.length ns.flatten=_;unfold ql;rw[bG,af (show Nat.add es.length ns.length≤cap from hr),cond_true];unfold x8;rw[show Nat.add 0 (Nat.mul es.length sz)=es.length*sz from Nat.zero_add _,hst];show fN (es.length+ns.length) (fun len=>RC.k (.l b 0 len cap) _ c)=_;rw[aQ]
 refine⟨_,_,_,e1,rfl,⟨?_,by rw[bE];omega,h3,h4,by rw[bE],d,_,aw _ _ _,?_⟩,hg.set b _ h3 h4 (ah _),fun x hx=>aq _ _ hx⟩
 ·intro e he;rcases List.mem_append.1 he with he|he
  ·exact h0 e he
  ·exact hn e he
 ·intro k hk;rw[List.flatten_append,bE]at hk;rw[List.flatten_append,bY,ac (by omega),dk];by_cases hk1:k<es.flatten.length
  ·rw[ab (by omega),List.getElem?_append_left hk1,←hcell k hk1,bY,ac (by omega)]
  ·rw[ac (by omega),List.getElem?_append_right (by omega),hel,List.getElem?_eq_getElem (by omega)]
theorem Um{M0 M:Mem}{c0 c b ty sz bytes cap:Nat}{v y:V}{es ns:List (List V)}(h:ku M c0 c b ty sz cap v es)(hg:Gr c0 M0 c M)(hsz:0<sz)(hy:cU F M c sz y ns)(h1:br ns.flatten=true)(hr:es.length+ns.length≤cap)(hn0:ns≠[]):
 wY (tF F M c ty sz bytes v y) fun v' M' c'=>c'=c∧ku M' c0 c b ty sz cap v' (es++ns)∧Gr c0 M0 c M'∧ ∀x,x≠b→M'.get x=M.get x:=by
 unfold tF
 rw[ri hsz hy]
 exact YO h hg hy.1 h1 hr hn0
theorem Mh(ty sz bytes:Nat)(zero:List V)(l c:X)(b:Nat)(t:T){k k':IntKind}{n m:Nat}(hl:l.ev t= .i k (n:Int))(hc:c.ev t= .i k' (m:Int))(h1:n≤m)(h2:m*(bytes+1)≤1099511627776):
 kP (.mks ty sz bytes zero l c) b t=some (.l b 0 n m,.cells ty (m*sz) true 0 false zero .e):=by
 show yJ ty sz bytes zero b (rA (l.ev t)) (rA (c.ev t))=_
 rw[hl,hc]
 show(bif Nat.ble n m&&Nat.ble (Nat.mul m (Nat.succ bytes)) 1099511627776 then fN (Nat.mul m sz) fun m'=>some (V.l b 0 n m,bz.cells ty m' true 0 false zero .e)else none)=_
 rw[bG,bG,af h1,af (show Nat.mul m (Nat.succ bytes)≤1099511627776 from h2)]
 show fN (m*sz) (fun m'=>some (V.l b 0 n m,bz.cells ty m' true 0 false zero .e))=_
 rw[aQ]
def bg2(ty sz bytes:Nat)(zero:List V)(l c:V)(b:Nat):Option (V×bz):=kP (.mks ty sz bytes zero (.c l) (.c c)) b .e
theorem Yl(ty sz bytes:Nat)(zero:List V)(l c:X)(b:Nat)(t:T):kP (.mks ty sz bytes zero l c) b t=bg2 ty sz bytes zero (l.ev t) (c.ev t) b:=Eq.trans rfl (Eq.refl _)
theorem Vs(ty sz bytes:Nat)(zero:List V)(k k':IntKind)(n m b:Nat)(h1:n≤m)(h2:m*(bytes+1)≤1099511627776):bg2 ty sz bytes zero (.i k (n:Int)) (.i k' (m:Int)) b=some (.l b 0 n m,.cells ty (m*sz) true 0 false zero .e):=Mh ty sz bytes zero _ _ b .e rfl rfl h1 h2
theorem b93{M:Mem}{c0 c b ty sz cap:Nat}{d:List V}(h:M.get b=some (.cells ty (cap*sz) true 0 false d .e))(h1:c0≤b)(h2:b<c):ku M c0 c b ty sz cap (.l b 0 0 cap) []:=
 ⟨fun e he=>(by cases he),aM _,h1,h2,rfl,d,.e,h,fun k hk=>(by cases hk)⟩
def ie(F:RO)(M:Mem)(lo c sz:Nat)(v:V)(es:List (List V)):Prop:=∀M':Mem,(∀b,lo≤b→b<c→M'.get b=M.get b)→cU F M' c sz v es
theorem ie.sl{M:Mem}{lo c sz:Nat}{v:V}{es:List (List V)}(h:ie F M lo c sz v es):cU F M c sz v es:=h M fun _ _ _=>rfl
theorem ie.up{M M':Mem}{lo lo' c c' sz:Nat}{v:V}{es:List (List V)}(h:ie F M lo c sz v es)(hc:c≤c')(hl:lo'≤lo)(hM:∀b,lo≤b→b<c→M'.get b=M.get b):ie F M' lo' c' sz v es:=by
 intro M2 h2
 have h3:=h M2 fun b h1 h4=>(h2 b (by omega) (by omega)).trans (hM b h1 h4)
 rcases h3 with⟨a,b|⟨b,o,hv,hb,hcs⟩⟩
 ·exact⟨a,.inl b⟩
 ·exact⟨a,.inr ⟨b,o,hv,by omega,hcs⟩⟩
theorem ie.gr{M M':Mem}{lo c c' sz:Nat}{v:V}{es:List (List V)}(h:ie F M lo c sz v es)(hg:Gr c M c' M'):ie F M' lo c' sz v es:=h.up hg.le (ah _) fun b _ hb=>hg.old b hb
theorem cu.own{M:Mem}{c0 c b ty sz:Nat}{v:V}{es:List (List V)}(h:cu M c0 c b ty sz v es):ie F M c0 c sz v es:=by
 intro M' hM
 refine cu.sl (c0:=c0) (b:=b) (ty:=ty) (M:=M') ?_
 rcases h with⟨h0,h|⟨h1,h2,rfl,h3⟩⟩
 ·exact⟨h0,.inl h⟩
 ·exact⟨h0,.inr ⟨h1,h2,rfl,by rw[hM b h1 h2];exact h3⟩⟩
theorem eA.put{M:Mem}{c b:Nat}{x y:bz}(h:eA F M c)(hb:b<c)(hx:M.get b=some x):eA F (M.set b y) c:=by
 refine⟨fun b' hb'=>?_,h.hiF,fun b' hb'=>?_,h.ge⟩
 ·rw[aq _ _ (by omega)];exact h.hiM b' hb'
 ·have:b'≠b:=by
   intro e;subst e;rw[h.ap b' hb']at hx;cases hx
  rw[aq _ _ this];exact h.ap b' hb'
theorem bC{M:Mem}{b ty:Nat}{l:List V}(h:M.get b=some (aK ty l))(o:Nat)(vs:List V)(h1:o+vs.length≤l.length)(h2:br vs=true):dA M b o vs=some (M.set b (aK ty (over l o vs))):=by
 have:=nW M b o ty l vs h1 h2
 rwa [←lF h]at this
theorem bZ{M:Mem}{b ty:Nat}{l:List V}(h:M.get b=some (aK ty l))(o:Nat):load1 F M b o=l[o]?:=by
 rw[lF h];exact pN M b o ty l
theorem lu{M:Mem}{b ty:Nat}{l:List V}(h:M.get b=some (aK ty l))(n:Nat)(hn:l.length=n):loadN F M b 0 n=some l:=by
 rw[lF h,vE M b 0 n ty l (by omega),List.drop_zero,←hn,List.take_length]
theorem tc:zt .none= .nrm:=Eq.trans rfl (Eq.refl _)
theorem DF:zt .ret= .ret:=Eq.trans rfl (Eq.refl _)
theorem L8(a b:CC)(k:Kn)(t:T)(d:List Nat)(M:Mem)(c:Nat)(Q:Ex→St→Prop):Wp (.cond (.c (.b true)) a b) k (.mk t d M c) Q=Wp a k (.mk t d M c) Q:=BV rfl
theorem L7(a b:CC)(k:Kn)(t:T)(d:List Nat)(M:Mem)(c:Nat)(Q:Ex→St→Prop):Wp (.cond (.c (.b false)) a b) k (.mk t d M c) Q=Wp b k (.mk t d M c) Q:=BU rfl
end
theorem ai{a b:Prop}(x:a)(y:b):a∧b:=⟨x,y⟩
def WL:=ai @af3 (ai @U6 (ai @xd (ai @b01 (ai @DR (ai @iY (ai @aq (ai @Tr.get_e (ai @zi (ai @Uz (ai @zo (ai @bp3 (ai @cD6 (ai @bi2 (ai @bi1 (ai @a07 (ai @bH6 (ai @bH2 (ai @ba7 (ai @bB8 (ai @bH4 (ai @bb0 (ai @bN4 (ai @Vl (ai @ba8 (ai @bZ0 (ai @bN9 (ai @aZ4 (ai @Vn (ai @Dw (ai @Vo (ai @ke (ai @W7 (ai @W8 (ai @W6 (ai @bp5 (ai @bp6 (ai @af5 (ai @af4 (ai @Xh (ai @CN (ai @CP (ai @CM (ai @K7 (ai @K8 (ai @K6 (ai @bp4 (ai @cE1 (ai @cD9 (ai @cE0 (ai @cc7 (ai @cc1 (ai @cc0 (ai @cc2 (ai @BV (ai @BU (ai @cx7 (ai @cx5 (ai @cx6 (ai @bU7 (ai @lE (ai @KL (ai @cB2 (ai @bZ5 (ai @bU4 (ai @bU3 (ai @af0 (ai @fX (ai @b81 (ai @b79 (ai @b80 (ai @b78 (ai @b77 (ai @b82 (ai @bZ6 (ai @bk9 (ai @bl2 (ai @lnS (ai @b11 (ai @bZ1 (ai @bZ2 (ai @bN3 (ai @bN8 (ai @pN (ai @bY7 (ai @Z5 (ai @Zb (ai @ag1 (ai @Jz (ai @ev_t (ai @ev_c (ai @Zf (ai @UN (ai @Tr.setP_h (ai @Tr.setP_l (ai @Tr.setP_r (ai @bd6 (ai @bd8 (ai @bd7 (ai @bd9 (ai @UE (ai @UF (ai @cm2 (ai @KD (ai @bj6 (ai @CX (ai @VB (ai @VD (ai @Bool.not_true (ai @Bool.not_false (ai @Bool.false_eq_true (ai @Bool.true_eq_false (ai @decide_true (ai @decide_false (ai @VK (ai @Vy (ai @JL (ai @JO (ai @JS (ai @JR (ai @Dc (ai @JP (ai @JT (ai @Da (ai @JQ (ai @Db (ai @JM (ai @D9 (ai @JN (ai @Cs (ai @iP (ai @Zp (ai @Zr (ai @Zv (ai @Zu (ai @Vb (ai @Zs (ai @Zw (ai @Va (ai @Zt (ai @Zq (ai @V9 (ai @Bool.and_true (ai @Bool.true_and (ai @Ze (ai @Az (ai @JJ (ai @vf (ai @vL (ai @jG (ai @Nat.zero_add (ai @and_self (ai @and_true (ai @true_and (ai @b10 (ai @pV (ai @bY8 (ai @bY9 (ai @bY6 (ai @bY4 (ai @Jp (ai @JG (ai @JF (ai @pE (ai @bg7 (ai @bg8 (ai @bY5 (ai @Z8 (ai @Z9 (ai @Z7 (ai @Av (ai @cc6 (ai @YL (ai @bZ3 (ai @ac3 (ai @ac2 (ai @AW (ai @Vp (ai @vE (ai @nW (ai @Eb (ai @Ka (ai @Yh (ai @Yk (ai @bl1 (ai @Ve (ai @a04 (ai @a05 (ai @bg6 (ai @Nat.add_assoc (ai @Xm (ai @b12 (ai @cA9 (ai @Yj (ai @UM (ai @rQ (ai @DD (ai @nN (ai @Jw (ai @b13 (ai @bO0 (ai @lU (ai @np (ai @Hr (ai @Za (ai @cb7 (ai @cb6 (ai @cb8 (ai @YZ (ai @be7 (ai @K2 (ai @bH7 (ai @bb4 (ai @bb7 (ai @ba9 (ai @bH8 (ai @bH3 (ai @Wa (ai @KR (ai @E4 (ai @KO (ai @DZ (ai @KP (ai @UI (ai @Wb (ai @KQ (ai @Wc (ai @bH5 (ai @bU6 (ai @Yl (ai @L8 (ai @L7 (ai @DU (ai @DV (ai @DT (ai @decide_eq_true_eq (ai @or_self (ai @or_true (ai @or_false (ai @true_or (ai @false_or (ai @and_false (@false_and))))))))))))))))))))))))))))))))))))))))))))))))))))))))))))))))))))))))))))))))))))))))))))))))))))))))))))))))))))))))))))))))))))))))))))))))))))))))))))))))))))))))))))))))))))))))))))))))))))))))))))))))))))))))))))))))))))))))))))))))))
def WM:=ai @cond_true.{1} (ai @cond_false.{1} (ai @List.getElem?_cons_zero.{0} (ai @List.getElem?_cons_succ.{0} (ai @Option.getD_some.{0} (ai @if_true.{1} (ai @if_false.{1} (ai @ite_true.{1} (ai @ite_false.{1} (ai @List.set_cons_zero.{0} (ai @List.set_cons_succ.{0} (ai @List.length_cons.{0} (ai @List.length_nil.{0} (ai @List.nil_append.{0} (ai @List.append_nil.{0} (ai @List.cons_append.{0} (ai @List.drop_zero.{0} (ai @List.take_succ_cons.{0} (ai @List.take_zero.{0} (ai @List.take_nil.{0} (ai @List.drop_succ_cons.{0} (ai @Option.map_some.{0,0} (ai @Option.isSome_some.{0} (@Option.map_none.{0,0})))))))))))))))))))))))
def WX:=ai @WL @WM
end
end Go.Proofs.YtkcelmimbmbfkaaGreatDoor.Ev
