/- What is proved here: pieces of the evaluator's soundness: if the evaluator comes to a value, the model's run comes to it, for every world and tape; no conditions beyond the hypotheses of each theorem. -/
import Derived.Test.YtdnddpmjnlagfaaGreatDoorEv3
import GoSem.ClaimChange
set_option linter.unusedSimpArgs false
set_option linter.unusedVariables false
set_option linter.defProp false
set_option maxRecDepth 100000
namespace Go.Proofs.YtdnddpmjnlagfaaGreatDoor.Ev
open Go
noncomputable section
section
variable{Φ:Nat→Option CF}{rd:Option Nat}{fn:Nat}{F:RO}
def ou(o:RC)(P:V→Mem→Nat→Prop):Prop:=∃v M' c',o= .k v M' c'∧P v M' c'
theorem ou.mono{o:RC}{P P':V→Mem→Nat→Prop}(h:ou o P)(hp:∀v M' c',P v M' c'→P' v M' c'):ou o P':=by
 obtain⟨v,M',c',e,h⟩:=h
 exact⟨v,M',c',e,hp v M' c' h⟩
abbrev Calls(Φ:Nat→Option CF)(F:RO)(f:Nat)(args:List V)(M:Mem)(c:Nat)(P:V→Mem→Nat→Prop):Prop:=ou (cu (iu Φ) F f args M c (Φ f)) P
theorem az{f n:Nat}{res:List RV}{body:CC}{args:List V}{M:Mem}{c:Nat}{P:V→Mem→Nat→Prop}(hf:Φ f=some (.mk n res body))
 (h:Wp body (K Φ none f F) (.mk (bh n args) [] M c) (cX F res P)):Calls Φ F f args M c P:=yr hf h
theorem av{o:RC}{p:aH}{r:List CO}{k:Kn}{t:T}{d:List Nat}{R:St→Prop}(h:ou o fun v M' c'=>pZ r k (.mk (t.setP p v) d M' c') R):b63 o p r k t d R:=by
 obtain⟨v,M',c',e,h⟩:=h
 rw[e];exact h
theorem lb{o:RC}{p:Option aH}{base:Nat}{r:List (Nat×Nat×CO)}{k:Kn}{t:T}{reads:List (Nat×Nat)}{R:DS→Prop}
 (h:ou o fun v M' c'=>bF M' F=true∧mz base r k (.mk (setT t p v) M' c' [] reads) R):H0 o F p base r k t reads R:=by
 obtain⟨v,M',c',e,h⟩:=h
 rw[e];exact h
structure d9(F:RO)(M:Mem)(c:Nat):Prop where
 hiM:∀b,c≤b→M.get b=none
 hiF:∀b,c≤b→aV F b=none
 ap:∀b,(aV F b).isSome→M.get b=none
 ge:1000≤c
structure Gr(c:Nat)(M:Mem)(c':Nat)(M':Mem):Prop where
 le:c≤c'
 old:∀b,b<c→M'.get b=M.get b
 new:∀b,c'≤b→M'.get b=none
theorem zl(M:Mem):∀F:RO,(∀b,(aV F b).isSome→M.get b=none)→bF M F=true
 |[],_=>rfl
 |(b,x)::F,h=>by
  rw[fx,h b (by
   show(Bool.rec (motive:=fun _=>Option bq) (aV F b) (some x) (Nat.beq b b)).isSome=true;rw[Nat.beq_refl];rfl)]
  rw[zl M F fun b' hb'=>h b' (by
   show(Bool.rec (motive:=fun _=>Option bq) (aV F b') (some x) (Nat.beq b b')).isSome=true;cases Nat.beq b b' with
   |true=>rfl
   |false=>exact hb')]
  rfl
theorem d9.free{M:Mem}{c:Nat}(h:d9 F M c):bF M F=true:=zl M F h.ap
theorem d9.look{M:Mem}{c:Nat}(h:d9 F M c){b:Nat}(hb:c≤b):look F M b=none:=by
 rw[aC (h.hiM b hb),h.hiF b hb]
theorem Gr.refl{M:Mem}{c:Nat}(h:d9 F M c):Gr c M c M:=⟨ah _,fun _ _=>rfl,h.hiM⟩
theorem Gr.trans{M M1 M2:Mem}{c c1 c2:Nat}(h:Gr c M c1 M1)(h2:Gr c1 M1 c2 M2):Gr c M c2 M2:=
 ⟨bn h.le h2.le,fun b hb=>(h2.old b (Nat.lt_of_lt_of_le hb h.le)).trans (h.old b hb),h2.new⟩
theorem Gr.ok{M M1:Mem}{c c1:Nat}(h:Gr c M c1 M1)(ho:d9 F M c):d9 F M1 c1:=by
 refine⟨h.new,fun b hb=>ho.hiF b (bn h.le hb),fun b hb=>?_,bn ho.ge h.le⟩
 have:b<c:=by
  by_cases hc:b<c
  ·exact hc
  ·rw[ho.hiF b (by omega)]at hb;cases hb
 rw[h.old b this];exact ho.ap b hb
theorem Gr.set{M M1:Mem}{c c1 c2:Nat}(h:Gr c M c1 M1)(b:Nat)(x:bq)(h1:c≤b)(h2:b<c2)(h3:c1≤c2):Gr c M c2 (M1.set b x):=by
 refine⟨bn h.le h3,fun b' hb'=>?_,fun b' hb'=>?_⟩
 ·rw[aK _ _ (by omega)];exact h.old b' hb'
 ·rw[aK _ _ (by omega)];exact h.new b' (by omega)
theorem Gr.del{M M1:Mem}{c c1:Nat}(h:Gr c M c1 M1)(b:Nat)(h1:c≤b):Gr c M c1 (M1.del b):=by
 refine⟨h.le,fun b' hb'=>?_,fun b' hb'=>?_⟩
 ·rw[Tr.get_del,ab (by omega)];exact h.old b' hb'
 ·rw[Tr.get_del];split
  ·rfl
  ·exact h.new b' hb'
theorem Gr.up{M M1:Mem}{c c1 c2:Nat}(h:Gr c M c1 M1)(h3:c1≤c2):Gr c M c2 M1:=
 ⟨bn h.le h3,h.old,fun b hb=>h.new b (by omega)⟩
theorem Gr.look{M M1:Mem}{c c1:Nat}(h:Gr c M c1 M1){b:Nat}(hb:b<c):look F M1 b=look F M b:=eH (h.old b hb)
theorem Gr.load1{M M1:Mem}{c c1:Nat}(h:Gr c M c1 M1){b:Nat}(hb:b<c)(o:Nat):load1 F M1 b o=load1 F M b o:=by
 unfold Ev.load1;rw[h.look hb]
theorem Gr.loadN{M M1:Mem}{c c1:Nat}(h:Gr c M c1 M1){b:Nat}(hb:b<c)(o n:Nat):loadN F M1 b o n=loadN F M b o n:=by
 unfold Ev.loadN;rw[h.look hb]
theorem qN{α:Type}(v:α):∀(t:Tr α) (k:Nat),t.get k=some v→t.put (some v) k=t
 | .e,k,h=>by cases h
 | .n l x r,k,h=>by
   rw[Tr.put_n];rw[Tr.get_n]at h;by_cases h0:k=0
   ·rw[ac h0]at h⊢;rw[h]
   ·rw[ab h0]at h⊢;by_cases h2:k%2=0
    ·rw[ac h2]at h⊢;rw[qN v r _ h]
    ·rw[ab h2]at h⊢;rw[qN v l _ h]
theorem qW{M:Mem}{b:Nat}{x:bq}(h:M.get b=some x):M=M.set b x:=(qN x M b h).symm
def ja(F:RO)(M:Mem)(b:Nat)(row:List V):Prop:=∃ty ex fz str d c,look F M b=some (.cells ty row.length ex fz str d c)∧ ∀i,i<row.length→cell row.length d c i=row[i]?
theorem ja.load1{M:Mem}{b:Nat}{row:List V}(h:ja F M b row)(o:Nat):load1 F M b o=row[o]?:=by
 obtain⟨ty,ex,fz,str,d,c,hl,hc⟩:=h
 unfold Ev.load1
 rw[hl]
 show cell row.length d c o=_
 by_cases ho:o<row.length
 ·exact hc o ho
 ·rw[cd,ab ho,List.getElem?_eq_none (by omega)]
theorem vh{d:List V}{c:T}{row:List V}(hc:∀i,i<row.length→cell row.length d c i=row[i]?):∀(n i:Nat),i+n≤row.length→fe row.length d c n i=some ((row.drop i).take n)
 |0,i,h=>by rw[qi];simp
 |n+1,i,h=>by
  rw[jn,hc i (by omega),List.getElem?_eq_getElem (by omega)];show(match fe row.length d c n (i+1)with|none=>none|some r=>some (row[i]::r))=_;rw[vh hc n (i+1) (by omega)];simp only;rw[←List.getElem_cons_drop (by omega:i<row.length),List.take_succ_cons]
theorem ja.loadN{M:Mem}{b:Nat}{row:List V}(h:ja F M b row)(o n:Nat)(hn:o+n≤row.length):loadN F M b o n=some ((row.drop o).take n):=by
 obtain⟨ty,ex,fz,str,d,c,hl,hc⟩:=h
 unfold Ev.loadN
 rw[hl]
 exact vh hc n o hn
theorem ja.grow{M M':Mem}{b c c':Nat}{row:List V}(h:ja F M b row)(hg:Gr c M c' M')(hb:b<c):ja F M' b row:=by
 obtain⟨ty,ex,fz,str,d,cs,hl,hc⟩:=h
 exact⟨ty,ex,fz,str,d,cs,by rw[hg.look hb];exact hl,hc⟩
theorem ja.ne{M:Mem}{b b':Nat}{x:bq}{row:List V}(h:ja F M b row)(hb:b≠b'):ja F (M.set b' x) b row:=by
 obtain⟨ty,ex,fz,str,d,cs,hl,hc⟩:=h
 exact⟨ty,ex,fz,str,d,cs,by rw[ni M x hb];exact hl,hc⟩
theorem ny{M:Mem}{b ty fz:Nat}{ex str:Bool}{row:List V}(h:M.get b=some (.cells ty row.length ex fz str [] (iY row))):ja F M b row:=
 ⟨ty,ex,fz,str,[],iY row,aq h,fun i hi=>vg row i⟩
def cZ(F:RO)(M:Mem)(b o:Nat)(row:List V):Prop:=∀k,k<row.length→load1 F M b (o+k)=row[k]?
theorem ja.cells{M:Mem}{b:Nat}{row:List V}(h:ja F M b row):cZ F M b 0 row:=fun k _=>by rw[Nat.zero_add];exact h.load1 k
theorem cZ.grow{M M':Mem}{b o c c':Nat}{row:List V}(h:cZ F M b o row)(hg:Gr c M c' M')(hb:b<c):cZ F M' b o row:=fun k hk=>by rw[hg.load1 hb];exact h k hk
theorem cZ.sub{M:Mem}{b o:Nat}{row:List V}(h:cZ F M b o row)(i n:Nat)(hn:i+n≤row.length):cZ F M b (o+i) ((row.drop i).take n):=fun k hk=>by
 simp only[List.length_take,bP]at hk
 rw[Nat.add_assoc,h (i+k) (by omega),List.getElem?_take,ac (by omega),List.getElem?_drop]
theorem Fi{M:Mem}{b o:Nat}{v:V}(h:Ev.load1 F M b o=some v):∃ty n ex fz str d c,look F M b=some (.cells ty n ex fz str d c)∧cell n d c o=some v:=by
 unfold Ev.load1 at h
 cases hl:look F M b with
 |none=>rw[hl]at h;cases h
 |some x=>
  rw[hl]at h;cases x with
  |cells ty n ex fz str d c=>exact⟨ty,n,ex,fz,str,d,c,rfl,h⟩
  |_=>cases h
theorem cZ.load{M:Mem}{b o:Nat}{row:List V}(h:cZ F M b o row)(hr:row≠[]):loadN F M b o row.length=some row:=by
 cases row with
 |nil=>exact absurd rfl hr
 |cons v r=>
  have h0:=h 0 (by simp);simp only[bT,List.getElem?_cons_zero]at h0;obtain⟨ty,n,ex,fz,str,d,c,hl,_⟩:=Fi h0;have key:∀(l:List V) (o:Nat),(∀k,k<l.length→Ev.load1 F M b (o+k)=l[k]?)→fe n d c l.length o=some l:=by
   intro l
   induction l with
   |nil=>intro o _;rfl
   |cons x l ih=>
    intro o hx;have e0:=hx 0 (by simp);simp only[bT,List.getElem?_cons_zero]at e0;unfold Ev.load1 at e0;rw[hl]at e0;have e0':cell n d c o=some x:=e0;rw[aX,jn,e0'];show(match fe n d c l.length (o+1)with|none=>none|some r=>some (x::r))=_
    rw[ih (o+1) fun k hk=>by
     have:=hx (k+1) (by simpa using hk);rw[List.getElem?_cons_succ]at this;rw[←this];congr 1;omega]
  unfold Ev.loadN;rw[hl];exact key (v::r) o h
theorem cZ.loadN{M:Mem}{b o:Nat}{row:List V}(h:cZ F M b o row)(i n:Nat)(hn:i+n≤row.length)(h0:0<n):loadN F M b (o+i) n=some ((row.drop i).take n):=by
 have hs:=h.sub i n hn
 have hl:((row.drop i).take n).length=n:=by simp;omega
 have:=hs.load (by intro e;rw[e]at hl;simp at hl;omega)
 rwa [hl]at this
theorem iS:∀{es:List (List V)} {sz:Nat},(∀e∈es,e.length=sz)→es.flatten.length=es.length*sz
 |[],sz,_=>by simp
 |e::es,sz,h=>by
  rw[List.flatten_cons,bw,iS fun x hx=>h x (bz _ hx),h e (bK ..),aX,Nat.add_mul];omega
theorem Cq:∀{es:List (List V)} {sz:Nat},(∀e∈es,e.length=sz)→ ∀(i:Nat) (h:i<es.length),(es.flatten.drop (i*sz)).take sz=es[i]
 |[],sz,_,i,h=>by cases h
 |e::es,sz,h,0,_=>by
  rw[List.flatten_cons,Nat.zero_mul,List.drop_zero,List.take_append_of_le_length (by rw[h e (bK ..)];exact ah _),List.getElem_cons_zero,←h e (bK ..),List.take_length]
 |e::es,sz,h,i+1,hi=>by
  have he:=h e (bK ..);rw[List.flatten_cons,List.getElem_cons_succ,Nat.add_mul,Nat.one_mul,Nat.add_comm,List.drop_append,he,List.drop_eq_nil_of_le (by omega),List.nil_append,Nat.add_sub_cancel_left];exact Cq (fun x hx=>h x (bz _ hx)) i (by simpa using hi)
def cj(F:RO)(M:Mem)(c sz:Nat)(v:V)(es:List (List V)):Prop:=
 (∀e∈es,e.length=sz)∧((es=[]∧(v= .l0∨ ∃b o0 o,v= .ue b o0 o))∨
  ∃b o,((∃cap,es.length≤cap∧v= .l b o es.length cap)∨(∃el kn,el+es.length≤kn∧v= .u b o es.length el kn))∧b<c∧cZ F M b o es.flatten)
theorem cj.len{M:Mem}{c sz:Nat}{v:V}{es:List (List V)}(h:cj F M c sz v es):oD v=some (.i .i64 (es.length:Int)):=by
 rcases h with⟨_,⟨rfl,h|⟨b,o0,o,h⟩⟩|⟨b,o,⟨cap,_,h⟩|⟨el,kn,_,h⟩,_⟩⟩
 ·rw[h];exact fv
 ·rw[h];exact Yu _ _ _
 ·rw[h];exact b02 _ _ _ _
 ·rw[h];exact Yt _ _ _ _ _
theorem cj.grow{M M':Mem}{c c' sz:Nat}{v:V}{es:List (List V)}(h:cj F M c sz v es)(hg:Gr c M c' M'):cj F M' c' sz v es:=by
 rcases h with⟨h0,h|⟨b,o,hv,hb,hr⟩⟩
 ·exact⟨h0,.inl h⟩
 ·exact⟨h0,.inr ⟨b,o,hv,Nat.lt_of_lt_of_le hb hg.le,hr.grow hg hb⟩⟩
theorem cj.at{M:Mem}{c sz:Nat}{v:V}{es:List (List V)}(h:cj F M c sz v es)(i:Nat)(hi:i<es.length):
 ∃b o,b<c∧(∀k,jP sz v (.i k (i:Int))=some (.p b o))∧cZ F M b o es[i]:=by
 rcases h with⟨h0,⟨rfl,_⟩|⟨b,o,hv,hb,hr⟩⟩
 ·cases hi
 ·have hle:i*sz+sz≤es.flatten.length:=by
   have:(i+1)*sz≤es.length*sz:=Nat.mul_le_mul_right _ hi;rw[Nat.add_mul,Nat.one_mul]at this;rw[iS h0];exact this
  refine⟨b,o+i*sz,hb,fun k=>?_,?_⟩
  ·rcases hv with⟨cap,_,rfl⟩|⟨el,kn,_,rfl⟩
   ·exact iV _ _ _ _ _ _ _ hi
   ·exact b00 _ _ _ _ _ _ _ _ hi
  ·have:=hr.sub (i*sz) sz hle
   rwa [Cq h0 i hi]at this
theorem cj.one{M:Mem}{c:Nat}{v:V}{es:List (List V)}(h:cj F M c 1 v es)(i:Nat)(hi:i<es.length){x:V}(hx:es[i]=[x]):
 ∃b o,b<c∧(∀k,jP 1 v (.i k (i:Int))=some (.p b o))∧load1 F M b o=some x:=by
 obtain⟨b,o,h1,h2,h3⟩:=h.at i hi
 refine⟨b,o,h1,h2,?_⟩
 have:=h3 0 (by rw[hx];simp)
 rw[bT,hx]at this
 exact this
theorem d9.set{M:Mem}{c c':Nat}(h:d9 F M c)(b:Nat)(x:bq)(h1:c≤b)(h2:b<c'):d9 F (M.set b x) c':=by
 refine⟨fun b' hb'=>?_,fun b' hb'=>h.hiF b' (by omega),fun b' hb'=>?_,by have:=h.ge;omega⟩
 ·rw[aK _ _ (by omega)];exact h.hiM b' (by omega)
 ·have:b'≠b:=by
   intro e;subst e;rw[h.hiF b' h1]at hb';cases hb'
  rw[aK _ _ this];exact h.ap b' hb'
theorem d9.free_set{M:Mem}{c:Nat}(h:d9 F M c)(x:bq):bF (M.set c x) F=true:=(h.set c x (ah _) (aL _)).free
abbrev ov(F:RO)(M:Mem)(c:Nat)(v:V)(l:List UInt8):Prop:=cj F M c 1 v (l.map fun x=>[bV x])
theorem ov.get{M:Mem}{c:Nat}{v:V}{l:List UInt8}(h:ov F M c v l)(i:Nat)(hi:i<l.length):
 ∃b o,b<c∧(∀k,jP 1 v (.i k (i:Int))=some (.p b o))∧load1 F M b o=some (.i .u8 (l[i].toNat:Int)):=
 cj.one h i (by simpa using hi) (by simp[bV])
theorem ov.len{M:Mem}{c:Nat}{v:V}{l:List UInt8}(h:ov F M c v l):oD v=some (.i .i64 (l.length:Int)):=by
 have:=cj.len h
 rwa [List.length_map]at this
theorem au(M:Mem)(b:Nat)(x:bq):(M.set b x).get b=some x:=by rw[Tr.get_set,ac rfl]
end
section
variable{Φ:Nat→Option CF}{rd:Option Nat}{fn:Nat}{F:RO}
theorem LE{M:Mem}{c sz:Nat}{v:V}{es:List (List V)}(h:cj F M c sz v es):qE v=some es.length:=by
 rcases h with⟨_,⟨rfl,rfl|⟨b,o0,o,rfl⟩⟩|⟨b,o,⟨cap,_,rfl⟩|⟨el,kn,_,rfl⟩,_⟩⟩<;>rfl
theorem nr{M:Mem}{sz b o:Nat}{es:List (List V)}(hsz:0<sz)(h0:∀e∈es,e.length=sz)(h:cZ F M b o es.flatten):∃r,readB F M sz es.length b o=some (es.flatten,r):=by
 unfold readB
 rw[bp]
 cases es with
 |nil=>exact⟨none,rfl⟩
 |cons e es=>
  have hl:=iS h0;have hne:(e::es).flatten≠[]:=by
   intro h;rw[h]at hl;simp only[bU,aX,Nat.add_mul]at hl;omega
  have:=h.load hne;rw[hl]at this;rw[ag (by simp),cond_false];show∃r,(match loadN F M b o ((e::es).length*sz)with|some vs=>some (vs,some b)|none=>none)=_;rw[this];exact⟨some b,rfl⟩
theorem CU{M:Mem}{c sz:Nat}{v:V}{es:List (List V)}(hsz:0<sz)(h:cj F M c sz v es):∃r,readL F M sz es.length v=some (es.flatten,r):=by
 rcases h with⟨h0,⟨rfl,rfl|⟨b,o0,o,rfl⟩⟩|⟨b,o,⟨cap,_,rfl⟩|⟨el,kn,_,rfl⟩,_,hc⟩⟩
 ·exact⟨none,rfl⟩
 ·exact⟨none,rfl⟩
 ·exact nr hsz h0 hc
 ·exact nr hsz h0 hc
theorem wH{M:Mem}{c sz:Nat}{v:V}{es:List (List V)}(hsz:0<sz)(h:cj F M c sz v es):gd F M sz v=some (es.length,es.flatten):=by
 have hl:=LE h
 obtain⟨r,hr⟩:=CU hsz h
 have hs:∀n x,v≠ .s n x:=by
  intro n x e;rcases h with⟨_,⟨rfl,h|⟨b,o0,o,h⟩⟩|⟨b,o,⟨cap,_,h⟩|⟨el,kn,_,h⟩,_⟩⟩<;>(rw[e]at h;cases h)
 have e:gd F M sz v=match qE v with|some n=>aq2 n (readL F M sz n v)|none=>none:=by
  cases v<;>first|rfl|exact absurd rfl (hs _ _)
 rw[e,hl]
 show aq2 es.length (readL F M sz es.length v)=_
 rw[hr];rfl
theorem MK{M:Mem}(l:List UInt8):gd F M 1 (sV l)=some (l.length,l.map bV):=by
 show(bif Nat.beq 1 1 then some (l.length,bM l.length (bH l))else none)=_
 rw[kr];rfl
def mI(ty:Nat)(row:List V):bq:= .cells ty row.length false 0 false [] (iY row)
def aQ(M:Mem)(c0 c b ty sz:Nat)(v:V)(es:List (List V)):Prop:=
 (∀e∈es,e.length=sz)∧((es=[]∧v= .l0)∨(c0≤b∧b<c∧v= .u b 0 es.length 0 es.length∧M.get b=some (mI ty es.flatten)))
theorem aQ.nil{M:Mem}{c0 c b ty sz:Nat}:aQ M c0 c b ty sz .l0 []:=⟨fun e he=>(by cases he),.inl ⟨rfl,rfl⟩⟩
theorem MC{M:Mem}{b ty:Nat}{row:List V}(h:M.get b=some (mI ty row)):ja F M b row:=ny h
theorem aQ.sl{M:Mem}{c0 c b ty sz:Nat}{v:V}{es:List (List V)}(h:aQ M c0 c b ty sz v es):cj F M c sz v es:=by
 rcases h with⟨h0,⟨rfl,rfl⟩|⟨h1,h2,rfl,h3⟩⟩
 ·exact⟨h0,.inl ⟨rfl,.inl rfl⟩⟩
 ·exact⟨h0,.inr ⟨b,0,.inr ⟨0,es.length,by omega,rfl⟩,h2,(MC h3).cells⟩⟩
theorem aQ.up{M M':Mem}{c0 c c' b ty sz:Nat}{v:V}{es:List (List V)}(h:aQ M c0 c b ty sz v es)(hc:c≤c')(hb:b<c→M'.get b=M.get b):aQ M' c0 c' b ty sz v es:=by
 rcases h with⟨h0,h|⟨h1,h2,rfl,h3⟩⟩
 ·exact⟨h0,.inl h⟩
 ·exact⟨h0,.inr ⟨h1,by omega,rfl,by rw[hb h2];exact h3⟩⟩
theorem aQ.gr{M M':Mem}{c0 c c' b ty sz:Nat}{v:V}{es:List (List V)}(h:aQ M c0 c b ty sz v es)(hg:Gr c M c' M'):aQ M' c0 c' b ty sz v es:=h.up hg.le fun hb=>hg.old b hb
theorem eI{n bytes:Nat}(h:(3*n+2000)*bytes≤281474976710656)(h1:n≤1099511627776):kP n bytes=true:=by
 unfold kP
 rw[bL,bL]
 have a:decide (Nat.mul (Nat.add (Nat.mul 3 n) 2000) bytes≤281474976710656)=true:=ae h
 rw[a,ae h1];rfl
theorem vC(M:Mem)(c ty bytes len:Nat)(vs:List V)(h:kP len bytes=true):kC M c ty bytes len 0 false vs= .k (.u c 0 len 0 len) (M.set c (mI ty vs)) (c+1):=by
 unfold kC
 rw[h]
 show(M.set c (.cells ty vs.length false 0 false [] (aW vs 0 .e))).force (fun M=>fN (Nat.succ c) fun c'=>fN len fun len=>RC.k (.u c 0 len 0 len) M c')=_
 rw[Tr.force_eq,aN,aN];rfl
theorem oM:∀(a b:List V) (k:Nat) (t:T),aW (a++b) k t=aW b (k+a.length) (aW a k t)
 |[],b,k,t=>by rw[vR];rfl
 |v::a,b,k,t=>by rw[List.cons_append,cH,cH,oM a b,aX,show k+1+a.length=k+(a.length+1) by omega]
theorem yL(M:Mem)(c ty bytes len:Nat)(old new:List V)(h:kP len bytes=true):na M c ty bytes len 0 false new old.length [] (aW old 0 .e)= .k (.u c 0 len 0 len) (M.set c (mI ty (old++new))) (c+1):=by
 unfold na
 rw[h]
 show((aW new old.length (aW old 0 .e)).force fun cs=>fN (Nat.add old.length new.length) fun m=>(M.set c (.cells ty m false 0 false [] cs)).force fun M=>fN (Nat.succ c) fun c'=>fN len fun len=>RC.k (.u c 0 len 0 len) M c')=_
 rw[Tr.force_eq,aN,Tr.force_eq,aN,aN]
 unfold mI iY
 rw[bw,oM,Nat.zero_add];rfl
theorem Hd{M:Mem}{c ty sz bytes n:Nat}{new:List V}(h:n≠0):app F M c ty sz bytes .l0 n new=kC M c ty bytes n 0 false new:=by
 unfold app
 rw[bp,ag h,cond_false]
theorem E5{M:Mem}{c ty sz bytes b o len el kn n:Nat}{new:List V}(h:n≠0):app F M c ty sz bytes (.u b o len el kn) n new=oG F M c ty sz bytes b o len el kn n new:=by
 unfold app
 rw[bp,ag h,cond_false]
theorem b70{M0 M:Mem}{c0 c b ty sz bytes:Nat}{v:V}{es ns:List (List V)}(h:aQ M c0 c b ty sz v es)(hg:Gr c0 M0 c M)(hsz:0<sz)(hn:∀e∈ns,e.length=sz)(h1:bv ns.flatten=true)(hr:kP (es.length+ns.length) bytes=true):
 ou (pp F M c ty sz bytes v (some (ns.length,ns.flatten))) fun v' M' c'=>∃b',aQ M' c0 c' b' ty sz v' (es++ns)∧Gr c0 M0 c' M'∧c≤c'∧(∀x,x<c→x≠b→M'.get x=M.get x)∧(b'=b∨c≤b'):=by
 have hnl:=iS hn
 have e1:pp F M c ty sz bytes v (some (ns.length,ns.flatten))=app F M c ty sz bytes v ns.length ns.flatten:=by
  show(bif bv ns.flatten&&Nat.beq ns.flatten.length (Nat.mul ns.length sz)then _ else _)=_;rw[h1,bp,ae (show ns.flatten.length=Nat.mul ns.length sz from hnl)];rfl
 rw[e1]
 have hall:∀e∈es++ns,e.length=sz:=by
  intro e he;rcases List.mem_append.1 he with he|he
  ·exact h.1 e he
  ·exact hn e he
 by_cases hz:ns=[]
 ·subst hz;have e2:app F M c ty sz bytes v 0 []= .k v M c:=by
   show(bif Nat.beq 0 0 then(bif yU v then RC.k v M c else .f)else _)=_;have:yU v=true:=by
    rcases h with⟨_,⟨_,rfl⟩|⟨_,_,rfl,_⟩⟩
    ·rfl
    ·show Nat.ble es.length (Nat.sub es.length 0)=true;rw[bL];exact ae (ah _)
   rw[this];rfl
  exact⟨v,M,c,e2,b,by rw[cL];exact h,hg,ah _,fun _ _ _=>rfl,.inl rfl⟩
 ·have hn0:ns.length≠0:=fun e=>hz (List.length_eq_zero_iff.1 e);rcases h with⟨h0,⟨rfl,rfl⟩|⟨ha,hb,rfl,hM⟩⟩
  ·rw[bU,Nat.zero_add]at hr;refine⟨_,_,_,(Hd hn0).trans (vC M c ty bytes ns.length ns.flatten hr),c,⟨hall,.inr ⟨hg.le,by omega,rfl,?_⟩⟩,hg.set c _ hg.le (by omega) (by omega),by omega,fun x hx _=>aK _ _ (by omega),.inr (ah _)⟩;rw[Tr.get_set,ac rfl];rfl
  ·have hel:=iS h0;obtain⟨r,hrd⟩:=nr hsz h0 (MC (F:=F) hM).cells;have hmw:gR M b ty (Nat.add 0 (Nat.mul es.length sz)) (Nat.add 0 (Nat.mul (Nat.sub es.length 0) sz))=some (0,false):=by
    unfold gR;rw[hM];show(bif Nat.beq ty ty&&Nat.beq es.flatten.length (0+(es.length-0)*sz)&&Nat.ble 0 (0+es.length*sz)&&Nat.ble (0+es.length*sz) (0+(es.length-0)*sz)then some (0,false)else none)=_;rw[bp,bp,bL,bL,ae (show ty=ty from rfl),ae (show es.flatten.length=0+(es.length-0)*sz by rw[hel];simp),ae (aF _),ae (show 0+es.length*sz≤0+(es.length-0)*sz by simp)];rfl
   have e3:oG F M c ty sz bytes b 0 es.length 0 es.length ns.length ns.flatten= .k (.u c 0 (es.length+ns.length) 0 (es.length+ns.length)) ((M.del b).set c (mI ty (es.flatten++ns.flatten))) (c+1):=by
    unfold oG;rw[bL,ag (show¬Nat.add (Nat.add 0 es.length) ns.length≤es.length by show¬0+es.length+ns.length≤es.length;omega),cond_false,hmw];show(bif Nat.beq 0 0&&Nat.beq (es.length-0) es.length then F5 (M.del b) c ty bytes (es.length+ns.length) 0 false ns.flatten (M.get b)else _)=_;rw[bp,bp,ae rfl,ae (Nat.sub_zero _),Bool.true_and,cond_true,hM];exact yL _ c ty bytes _ es.flatten ns.flatten hr
   refine⟨_,_,_,(E5 hn0).trans e3,c,⟨hall,.inr ⟨by omega,by omega,by rw[bw],?_⟩⟩,(hg.del b ha).set c _ (by omega) (by omega) (by omega),by omega,fun x hx hxb=>?_,.inr (ah _)⟩
   ·rw[Tr.get_set,ac rfl,List.flatten_append]
   ·rw[aK _ _ (by omega),Tr.get_del,ab hxb]
def ap9(sz:Nat)(x:V)(lo hi mx:Option V):Option V:=(cS (.slL sz (.c x) (lo.map .c) (hi.map .c) (mx.map .c)) [] .e .e).val
theorem rY(tm:T)(o:Option X):optNN .e ((o.map fun x=>x.ev tm).map .c)=optNN tm o:=by cases o<;>rfl
theorem b29(sz:Nat)(x:X)(lo hi mx:Option X)(M:Mem)(t:T):(cS (.slL sz x lo hi mx) F M t).val=ap9 sz (x.ev t) (lo.map fun x=>x.ev t) (hi.map fun x=>x.ev t) (mx.map fun x=>x.ev t):=by
 show(se sz (x.ev t) (optNN t lo) (optNN t hi) (optNN t mx)).val=(se sz (x.ev t) (optNN .e _) (optNN .e _) (optNN .e _)).val
 rw[rY,rY,rY]
theorem Fl(b o n c:Nat):mkL b o n c= .v (.l b o n c):=by unfold mkL;rw[aN,aN,aN]
theorem Ao(b o n el kn:Nat):mkU b o n el kn= .v (.u b o n el kn):=by unfold mkU;rw[aN,aN,aN]
theorem Y2{es:List (List V)}{sz lo hi:Nat}(h0:∀e∈es,e.length=sz)(h1:lo≤hi)(h2:hi≤es.length):((es.take hi).drop lo).flatten=(es.flatten.drop (lo*sz)).take ((hi-lo)*sz):=by
 have key:∀(es:List (List V)) (k:Nat),(∀e∈es,e.length=sz)→(es.take k).flatten=es.flatten.take (k*sz)∧(es.drop k).flatten=es.flatten.drop (k*sz):=by
  intro es
  induction es with
  |nil=>intro k _;simp
  |cons e es ih=>
   intro k h;cases k with
   |zero=>simp
   |succ k=>
    obtain⟨a,b⟩:=ih k fun x hx=>h x (bz _ hx);have he:=h e (bK ..);constructor
    ·rw[List.take_succ_cons,List.flatten_cons,List.flatten_cons,a,show(k+1)*sz=e.length+k*sz by rw[Nat.add_mul,he];omega,List.take_length_add_append]
    ·rw[List.drop_succ_cons,List.flatten_cons,b,show(k+1)*sz=e.length+k*sz by rw[Nat.add_mul,he];omega,List.drop_length_add_append]
 have ht:∀e∈es.take hi,e.length=sz:=fun e he=>h0 e (List.mem_of_mem_take he)
 rw[(key (es.take hi) lo ht).2,(key es hi h0).1,List.drop_take,Nat.sub_mul]
theorem bi8{M:Mem}{c sz:Nat}{v:V}{es:List (List V)}{lo hi:Nat}(h:cj F M c sz v es)(h1:lo≤hi)(h2:hi≤es.length):
 ∃v',(D6 sz v (some lo) (some hi) none= .v v'∧(lo=0→D6 sz v none (some hi) none= .v v')∧(hi=es.length→D6 sz v (some lo) none none= .v v')∧(lo=0→hi=es.length→D6 sz v none none none= .v v'))∧cj F M c sz v' ((es.take hi).drop lo):=by
 have hs:∀e∈(es.take hi).drop lo,e.length=sz:=fun e he=>h.1 e (List.mem_of_mem_take (List.mem_of_mem_drop he))
 have hl:((es.take hi).drop lo).length=hi-lo:=by simp;omega
 rcases h with⟨h0,⟨rfl,rfl|⟨b,o0,o,rfl⟩⟩|⟨b,o,hv,hb,hc⟩⟩
 ·obtain rfl:hi=0:=by simpa using h2
  obtain rfl:lo=0:=by omega
  exact⟨.l0,⟨rfl,fun _=>rfl,fun _=>rfl,fun _ _=>rfl⟩,hs,.inl ⟨rfl,.inl rfl⟩⟩
 ·obtain rfl:hi=0:=by simpa using h2
  obtain rfl:lo=0:=by omega
  exact⟨.ue b o0 o,⟨rfl,fun _=>rfl,fun _=>rfl,fun _ _=>rfl⟩,hs,.inl ⟨rfl,.inr ⟨b,o0,o,rfl⟩⟩⟩
 ·have hfl:=iS h0;have hcs:cZ F M b (o+lo*sz) ((es.take hi).drop lo).flatten:=by
   rw[Y2 h0 h1 h2];refine hc.sub _ _ ?_;rw[hfl,←Nat.add_mul];exact Nat.mul_le_mul_right _ (by omega)
  rcases hv with⟨cap,hcap,rfl⟩|⟨el,kn,hkn,rfl⟩
  ·have e:tn sz b o cap lo hi cap= .v (.l b (if cap=lo then o else o+lo*sz) (hi-lo) (cap-lo)):=by
    unfold tn;rw[bL,bL,bL,bp,ae (ah cap),ae (show hi≤cap by omega),ae h1];show mkL b (bif decide (cap=lo)then o else o+lo*sz) (hi-lo) (cap-lo)=_;rw[Fl];by_cases hh:cap=lo
    ·rw[ae hh,ac hh];rfl
    ·rw[ag hh,ab hh];rfl
   refine⟨_,⟨e,fun hh=>?_,fun hh=>?_,fun hh hh2=>?_⟩,hs,.inr ⟨b,if cap=lo then o else o+lo*sz,.inl ⟨cap-lo,by rw[hl];omega,by rw[hl]⟩,hb,?_⟩⟩
   ·subst hh;exact e
   ·subst hh;exact e
   ·subst hh hh2;exact e
   ·by_cases hh:cap=lo
    ·rw[ac hh];have:(es.take hi).drop lo=[]:=List.eq_nil_of_length_eq_zero (by omega);rw[this];intro k hk;simp at hk
    ·rw[ab hh];exact hcs
  ·by_cases hz:lo=0
   ·subst hz;have e:oW sz b o el kn 0 hi= .v (.u b o hi el kn):=by
     unfold oW;rw[bL,bL,ae (show Nat.add el hi≤kn by show el+hi≤kn;omega),ae (aF hi)];exact Ao _ _ _ _ _
    refine⟨_,⟨e,fun _=>e,fun hh=>?_,fun _ hh=>?_⟩,hs,.inr ⟨b,o,.inr ⟨el,kn,by rw[hl];omega,by rw[hl];rfl⟩,hb,by simpa using hcs⟩⟩
    ·subst hh;exact e
    ·subst hh;exact e
   ·by_cases hh:el+lo<kn
    ·have e:oW sz b o el kn lo hi= .v (.u b (o+lo*sz) (hi-lo) (el+lo) kn):=by
      unfold oW;rw[bL,bL,bp,dY,ae (show Nat.add el hi≤kn by show el+hi≤kn;omega),ae h1,ag hz,ae (show Nat.add el lo<kn from hh)];exact Ao _ _ _ _ _
     refine⟨_,⟨e,fun h=>absurd h hz,fun hh=>?_,fun h _=>absurd h hz⟩,hs,.inr ⟨b,o+lo*sz,.inr ⟨el+lo,kn,by rw[hl];omega,by rw[hl]⟩,hb,hcs⟩⟩;subst hh;exact e
    ·have e:oW sz b o el kn lo hi= .v (.ue b o (o+lo*sz)):=by
      unfold oW;rw[bL,bL,bp,dY,ae (show Nat.add el hi≤kn by show el+hi≤kn;omega),ae h1,ag hz,ag (show¬Nat.add el lo<kn from hh)];show fN (o+lo*sz) (fun o'=>QR.v (.ue b o o'))=_;rw[aN]
     have hnil:(es.take hi).drop lo=[]:=List.eq_nil_of_length_eq_zero (by omega);refine⟨_,⟨e,fun h=>absurd h hz,fun hh=>?_,fun h _=>absurd h hz⟩,hs,.inl ⟨hnil,.inr ⟨b,o,_,rfl⟩⟩⟩;subst hh;exact e
def tM(F:RO)(M:Mem)(c ty sz bytes:Nat)(x y:V):RC:=pp F M c ty sz bytes x (gd F M sz y)
theorem a08(ty sz bytes:Nat)(x y:X)(M:Mem)(c:Nat)(t:T):gG (.app ty sz bytes x y) (K Φ rd fn F) M c t=tM F M c ty sz bytes (x.ev t) (y.ev t):=rfl
theorem iI{M0 M:Mem}{c0 c b ty sz bytes:Nat}{v y:V}{es ns:List (List V)}(h:aQ M c0 c b ty sz v es)(hg:Gr c0 M0 c M)(hsz:0<sz)(hy:cj F M c sz y ns)(h1:bv ns.flatten=true)(hr:kP (es.length+ns.length) bytes=true):
 ou (tM F M c ty sz bytes v y) fun v' M' c'=>∃b',aQ M' c0 c' b' ty sz v' (es++ns)∧Gr c0 M0 c' M'∧c≤c'∧(∀x,x<c→x≠b→M'.get x=M.get x)∧(b'=b∨c≤b'):=by
 unfold tM
 rw[wH hsz hy]
 exact b70 h hg hsz hy.1 h1 hr
theorem gp(l:List UInt8):(l.map fun x=>[bV x]).flatten=l.map bV:=by
 induction l with
 |nil=>rfl
 |cons a l ih=>rw[List.map_cons,List.flatten_cons,ih];rfl
theorem NQ(l:List UInt8):bv (l.map fun x=>[bV x]).flatten=true:=by rw[gp];exact gJ l
def bsV(F:RO)(M:Mem)(x:V):Option V:=(cS (.bs (.c x)) F M .e).val
theorem cL3(x:X)(M:Mem)(t:T):(cS (.bs x) F M t).val=bsV F M (x.ev t):=Eq.trans rfl (Eq.refl _)
theorem yq{M:Mem}{c:Nat}{v:V}{l:List UInt8}(h:ov F M c v l):bsV F M v=some (sV l):=by
 have hl:=LE h
 obtain⟨r,hr⟩:=CU Nat.one_pos h
 rw[List.length_map]at hl hr
 rw[gp]at hr
 have e:cS (.bs (.c v)) F M .e=Md F M v (qE v):=by
  show(match v with| .s _ _=>QR.f|v=>Md F M v (qE v))=_;rcases h with⟨_,⟨_,rfl|⟨b,o0,o,rfl⟩⟩|⟨b,o,⟨cap,_,rfl⟩|⟨el,kn,_,rfl⟩,_⟩⟩<;>rfl
 unfold bsV
 rw[e,hl]
 show(match readL F M 1 l.length v with|some (vs,b)=>Me b (gm vs)|none=>QR.f).val=_
 rw[hr]
 show(Me r (gm (l.map bV))).val=_
 rw[qh]
 show(fN l.length fun n=>fN (bH l) fun s=>match r with|some b=>QR.r (.s n s) b|none=> .v (.s n s)).val=_
 rw[aN,aN]
 cases r<;>rfl
def dx(d:List V)(ty:Nat)(row:List V):bq:= .cells ty row.length true 0 false d (iY row)
theorem O4(d l:List V)(i:Nat)(h:i<l.length):cell l.length d (iY l) i=l[i]?:=by
 rw[cd,ac h]
 unfold iY
 rw[dq,ac (by omega)]
 simp only[Nat.sub_zero]
 rw[List.getElem?_eq_getElem h]
theorem MB{M:Mem}{b ty:Nat}{d row:List V}(h:M.get b=some (dx d ty row)):ja F M b row:=
 ⟨ty,true,0,false,d,iY row,aq h,fun i hi=>O4 d row i hi⟩
theorem zo{M:Mem}{b c ty sz n:Nat}{d:List V}{es:List (List V)}(h:M.get b=some (dx d ty es.flatten))(hb:b<c)(h0:∀e∈es,e.length=sz)(hn:es.length=n):cj F M c sz (.l b 0 n n) es:=by
 subst hn
 exact⟨h0,.inr ⟨b,0,.inl ⟨_,ah _,rfl⟩,hb,(MB h).cells⟩⟩
def A8(t:T):List (Nat×X)→List (Nat×List V)
 |[]=>[]
 |(o,x)::r=>(o,flatten (x.ev t))::A8 t r
theorem XY(t:T):A8 t []=[]:=rfl
theorem rM(t:T)(o:Nat)(x:X)(r:List (Nat×X)):A8 t ((o,x)::r)=(o,flatten (x.ev t))::A8 t r:=rfl
def lQ(sz:Nat):Nat→List (Nat×List V)→Option (List V)
 |_,[]=>some []
 |o,(k,vs)::r=>if k=o∧vs.length=sz∧bv vs=true then(lQ sz (o+sz) r).map (vs++ ·)else none
theorem Ft(sz o:Nat):lQ sz o []=some []:=rfl
theorem nn(sz o k:Nat)(vs:List V)(r:List (Nat×List V)):lQ sz o ((k,vs)::r)=if k=o∧vs.length=sz∧bv vs=true then(lQ sz (o+sz) r).map (vs++ ·)else none:=rfl
theorem nh:∀(a b:List V) (k:Nat) (t:T),aW b (k+a.length) (aW a k t)=aW (a++b) k t
 |[],b,k,t=>rfl
 |x::a,b,k,t=>by
  rw[List.cons_append,cH,cH,aX,show k+(a.length+1)=(k+1)+a.length by omega,nh a b]
theorem Cp{sz m:Nat}{t:T}:∀{parts:List (Nat×X)} {pre row:List V},lQ sz pre.length (A8 t parts)=some row→pre.length+row.length≤m→fillP sz m t parts (aW pre 0 .e)=some (aW (pre++row) 0 .e)
 |[],pre,row,h,hm=>by
  obtain rfl:[]=row:=af h;rw[cL];rfl
 |(o,x)::r,pre,row,h,hm=>by
  rw[rM,nn]at h;split at h
  ·rename_i hc;obtain⟨rfl,h1,h2⟩:=hc;rw[b9]at h;obtain⟨row',h3,rfl⟩:=h;rw[bw]at hm;show(bif Nat.beq (flatten (x.ev t)).length sz&&Nat.ble (Nat.add pre.length sz) m&&bv (flatten (x.ev t))then(aW (flatten (x.ev t)) pre.length (aW pre 0 .e)).force fun t'=>fillP sz m t r t' else none)=_;rw[bp,bL,h2,ae h1,ae (show Nat.add pre.length sz≤m by show pre.length+sz≤m;omega)];show(aW (flatten (x.ev t)) pre.length (aW pre 0 .e)).force (fun t'=>fillP sz m t r t')=_;rw[Tr.force_eq];have hs:=nh pre (flatten (x.ev t)) 0 .e;rw[Nat.zero_add]at hs;rw[hs];have:=Cp (m:=m) (parts:=r) (pre:=pre++flatten (x.ev t)) (row:=row') (by rw[bw,h1];exact h3) (by rw[bw];omega);rw[this,gf]
  ·cases h
theorem wi{sz:Nat}:∀{ps:List (Nat×List V)} {o:Nat} {row:List V},lQ sz o ps=some row→row.length=ps.length*sz∧bv row=true
 |[],o,row,h=>by
  obtain rfl:[]=row:=af h;simp;rfl
 |(k,vs)::r,o,row,h=>by
  rw[nn]at h;split at h
  ·rename_i hc;rw[b9]at h;obtain⟨row',h3,rfl⟩:=h;obtain⟨h4,h5⟩:=wi h3;refine⟨by rw[bw,h4,hc.2.1,aX,Nat.add_mul];omega,?_⟩;have key:∀(a b:List V),bv a=true→bv b=true→bv (a++b)=true:=by
    intro a
    induction a with
    |nil=>intro b _ h;exact h
    |cons x a ih=>
     intro b ha hb;rw[dh,aD]at ha;rw[List.cons_append,dh,ha.1,ih b ha.2 hb];rfl
   exact key _ _ hc.2.2 h5
  ·cases h
def bI0(ty n:Nat)(zero:List V)(b:Nat):Option (List V)→Option (V×bq)
 |some row=>some (.l b 0 n n,dx zero ty row)
 |none=>none
def cw7(ty n sz:Nat)(zero:List V)(parts:List (Nat×X))(b:Nat)(t:T):Option (V×bq):=kl (.bsl ty n sz zero parts) b t
theorem Cn(t:T):∀ps:List (Nat×X),(A8 t ps).length=ps.length
 |[]=>rfl
 |(o,x)::r=>by rw[rM,aX,aX,Cn t r]
theorem Qh(ty n sz:Nat)(zero:List V)(parts:List (Nat×X))(b:Nat)(t:T)(hn:parts.length=n){row:List V}(h:lQ sz 0 (A8 t parts)=some row):
 kl (.bsl ty n sz zero parts) b t=some (.l b 0 n n,dx zero ty row):=by
 subst hn
 have hl:=(wi h).1
 rw[Cn]at hl
 have:=Cp (m:=parts.length*sz) (pre:=[]) h (by simp[hl])
 rw[List.nil_append]at this
 show(match fillP sz (parts.length*sz) t parts .e with|some c=>fN (parts.length*sz) fun m=>some (V.l b 0 parts.length parts.length,bq.cells ty m true 0 false zero c)|none=>none)=_
 rw[show fillP sz (parts.length*sz) t parts .e=some (aW row 0 .e)from this]
 show fN (parts.length*sz) (fun m=>some (V.l b 0 parts.length parts.length,bq.cells ty m true 0 false zero (aW row 0 .e)))=_
 rw[aN,←hl];rfl
theorem ad1(ty n sz:Nat)(zero:List V)(parts:List (Nat×X))(b:Nat)(t:T):kl (.bsl ty n sz zero parts) b t=if parts.length=n∧(lQ sz 0 (A8 t parts)).isSome=true then bI0 ty n zero b (lQ sz 0 (A8 t parts))else cw7 ty n sz zero parts b t:=by
 split
 ·rename_i h;obtain⟨row,hr⟩:=bm.1 h.2;rw[hr];exact Qh ty n sz zero parts b t h.1 hr
 ·rfl
theorem NZ(ty n:Nat)(zero:List V)(b:Nat)(row:List V):bI0 ty n zero b (some row)=some (.l b 0 n n,dx zero ty row):=rfl
end
def rx(C:Nat):Value→Option V
 | .bool x=>some (.b x)
 | .int k n=>some (.i k n)
 | .string s=>some (sV s.data.toList)
 | .pointer none=>some .p0
 | .slice none 0 0=>some .l0
 | .slice (some a) n c=>if a.spot=none∧a.block<C then some (.l a.block a.off n c)else if n=0∧c=0∧BZ a<C then some (.ue (BZ a) 1 0)else none
 | .iface t (.pointer (some ⟨r,o,none⟩))=>if r<C then some (.a t (.p r o))else none
 |_=>none
theorem ag9(E:cE)(s:ByteArray):conc E (sV s.data.toList)= .string s:=by
 show Value.string (ba s.data.toList.length (bH s.data.toList))=_
 unfold ba
 rw[iM]
theorem wR{C:Nat}{x:Value}{v:V}(h:rx C x=some v):conc E0 v=x∧bd (· <C) v:=by
 unfold rx at h
 split at h
 ·obtain rfl:=af h;exact⟨rfl,trivial⟩
 ·obtain rfl:=af h;exact⟨rfl,trivial⟩
 ·obtain rfl:=af h;exact⟨ag9 _ _,trivial⟩
 ·obtain rfl:=af h;exact⟨rfl,trivial⟩
 ·obtain rfl:=af h;exact⟨rfl,trivial⟩
 ·rename_i a n c;split at h
  ·rename_i hr;obtain⟨b,o,sp⟩:=a;obtain⟨h1,hr⟩:=hr;have h1:sp=none:=h1;subst h1;obtain rfl:=af h;refine⟨?_,hr⟩;show Value.slice (some ⟨b,0+o,none⟩) n c=_;rw[Nat.zero_add]
  ·split at h
   ·rename_i hr;obtain⟨rfl,rfl,hr⟩:=hr;obtain rfl:=af h;refine⟨?_,hr⟩;show Value.slice (some (if(0:Nat)=0 then(if(0:Nat)<1 then adD (BZ a)else _)else _)) 0 0=_;rw[ac rfl,ac (by decide),bF3]
   ·cases h
 ·rename_i t r o;split at h
  ·rename_i hr;obtain rfl:=af h;refine⟨?_,hr⟩;show Value.iface t (.pointer (some ⟨r,0+o,none⟩))=_;rw[Nat.zero_add]
  ·cases h
 ·cases h
def iW:List (Option V)→Nat→T→T
 |[],_,t=>t
 |none::r,k,t=>iW r (k+1) t
 |some v::r,k,t=>iW r (k+1) (t.set k v)
theorem rZ:∀(l:List (Option V)) (k:Nat) (t:T) (j:Nat),(iW l k t).get j=if k≤j∧j<k+l.length then(match l[j-k]? with|some (some v)=>some v|_=>t.get j)else t.get j
 |[],k,t,j=>by
  rw[ab (by simp;try omega)];rfl
 |none::r,k,t,j=>by
  show(iW r (k+1) t).get j=_;rw[rZ r (k+1) t j];simp only[aX];by_cases h0:j=k
  ·subst h0;rw[ab (by omega),ac (by omega)];simp
  ·by_cases h1:k≤j∧j<k+(r.length+1)
   ·rw[ac (by omega),ac h1,show j-k=(j-(k+1))+1 by omega,List.getElem?_cons_succ]
   ·rw[ab (by omega),ab h1]
 |some v::r,k,t,j=>by
  show(iW r (k+1) (t.set k v)).get j=_;rw[rZ r (k+1) (t.set k v) j,Tr.get_set];simp only[aX];by_cases h0:j=k
  ·subst h0;rw[ab (by omega),ac rfl,ac (by omega)];simp
  ·rw[ab h0];by_cases h1:k≤j∧j<k+(r.length+1)
   ·rw[ac (by omega),ac h1,show j-k=(j-(k+1))+1 by omega,List.getElem?_cons_succ]
   ·rw[ab (by omega),ab h1]
def sP(C:Nat):Obj→Option bq
 | .cells arr ty _=>some (.cells ty arr.size false arr.size true [] (iW (arr.toList.map (rx C)) 0 .e))
 |_=>none
def oL(C:Nat):List Obj→Nat→RO
 |[],_=>[]
 |o::r,k=>match sP C o with
  |some x=>(k,x)::oL C r (k+1)
  |none=>oL C r (k+1)
theorem yM(C:Nat):∀(l:List Obj) (k j:Nat),aV (oL C l k) j=if k≤j then(l[j-k]?).bind (sP C)else none
 |[],k,j=>by
  show none=_;split<;>simp
 |o::r,k,j=>by
  have ih:=yM C r (k+1) j;unfold oL;by_cases h0:j=k
  ·subst h0;rw[ab (by omega)]at ih;rw[ac (ah _),Nat.sub_self,List.getElem?_cons_zero];show _=sP C o;cases hb:sP C o with
   |none=>exact ih
   |some x=>
    show aV ((j,x)::oL C r (j+1)) j=some x;rw[cM,ac rfl]
  ·have e:aV (match sP C o with|some x=>(k,x)::oL C r (k+1)|none=>oL C r (k+1)) j=aV (oL C r (k+1)) j:=by
    cases sP C o with
    |none=>rfl
    |some x=>
     show aV ((k,x)::oL C r (k+1)) j=_;rw[cM,ab (fun e=>h0 e.symm)]
   rw[e,ih];by_cases h1:k≤j
   ·rw[ac (by omega),ac h1,show j-k=(j-(k+1))+1 by omega,List.getElem?_cons_succ]
   ·rw[ab (by omega),ab h1]
def cQ(W:World)(C:Nat):RO:=oL C W.heap.toList 0
theorem iv(W:World)(C j:Nat):aV (cQ W C) j=(W.heap[j]?).bind (sP C):=by
 unfold cQ
 rw[yM,ac (aF _),Nat.sub_zero,Array.getElem?_toList]
theorem iw{C ty:Nat}{arr:Array Value}{k:Nat}{v:V}:cell arr.size [] (iW (arr.toList.map (rx C)) 0 .e) k=some v↔ ∃x,arr[k]?=some x∧rx C x=some v:=by
 rw[cd]
 by_cases h:k<arr.size
 ·rw[ac h,rZ,ac (by simpa using h)];simp only[Nat.sub_zero,List.getElem?_map,Array.getElem?_toList,Array.getElem?_eq_getElem h,Option.map_some];show(match (match some (rx C arr[k])with|some (some v)=>some v|_=>(Tr.e:T).get k)with|some v=>some v|none=>([]:List V)[k%([]:List V).length]?)=some v↔_;constructor
  ·intro hv;refine⟨arr[k],rfl,?_⟩;cases hx:rx C arr[k]with
   |none=>rw[hx]at hv;simp[Tr.get_e]at hv
   |some y=>rw[hx]at hv;simpa using hv
  ·rintro⟨x,hx,hv⟩;obtain rfl:=af hx;rw[hv]
 ·rw[ab h];constructor
  ·intro hh;cases hh
  ·rintro⟨x,hx,_⟩;rw[Array.getElem?_eq_none (by omega)]at hx;cases hx
theorem Ya{P:Program}{W:World}{C:Nat}(hC:W.heap.size≤C):jl P E0 (cQ W C) .e (· <C) W:=by
 refine⟨?_,fun b b' _ _ e=>e,fun b _=>rfl⟩
 intro b blk hb
 rw[aC (show(Tr.e:Mem).get b=none from rfl),iv]at hb
 cases ho:W.heap[b]? with
 |none=>rw[ho]at hb;cases hb
 |some o=>
  rw[ho]at hb;have hb':sP C o=some blk:=hb;have hlt:b<C:=Nat.lt_of_lt_of_le (Array.getElem?_eq_some_iff.1 ho).1 hC;cases o with
  |cells arr ty fr=>
   obtain rfl:=af hb';refine⟨hlt,?_,_,ho,arr,fr,rfl,?_,?_,?_,?_⟩
   ·intro k v hk;obtain⟨x,_,hv⟩:=(iw (ty:=ty)).1 hk;exact(wR hv).2
   ·intro k v hk;obtain⟨x,hx,hv⟩:=(iw (ty:=ty)).1 hk;show arr[0+k]?=_;rw[Nat.zero_add,hx,(wR hv).1]
   ·show arr.size=0+arr.size+0*_;simp
   ·intro o h1 h2;have h1':0+arr.size≤o:=h1;omega
   ·intro h;cases h
  |_=>cases hb'
theorem Ov{W:World}{C r o:Nat}{x:Value}{v:V}(h:W.cell? ⟨r,o,none⟩=some x)(hv:rx C x=some v):load1 (cQ W C) .e r o=some v:=by
 unfold World.cell? at h
 split at h
 ·rename_i cs ty fr hh;have h':cs[o]?=some x:=h;unfold Ev.load1;rw[aC (show(Tr.e:Mem).get r=none from rfl),iv];have hh':W.heap[r]?=some (.cells cs ty fr):=hh;rw[hh'];exact(iw (ty:=ty)).2 ⟨x,h',hv⟩
 ·cases h
theorem yO{W:World}{C:Nat}:∀{L:List eT},(∀t∈L,t.1<1000∧yk W t)→bA (cQ W C) L=true
 |[],_=>rfl
 |t::r,h=>by
  show(Nat.blt t.1 1000&&(jY (cQ W C) t&&bA (cQ W C) r))=true;rw[yO fun t ht=>h t (bz _ ht),dY,ae (h t (bK ..)).1];obtain⟨_,ty,fr,hh⟩:=h t (bK ..);have hi:jY (cQ W C) t=true:=by
   unfold jY;rw[iv,hh];show(Nat.beq (t.2.2.map fun z=>Value.int t.2.1 z).toArray.size (t.2.2.map fun z=>Value.int t.2.1 z).toArray.size&&jX _ [] _ t.2.1 t.2.2 0)=true;rw[Nat.beq_refl,Bool.true_and]
   have key:∀(zs:List Int) (i:Nat),i+zs.length=t.2.2.length→(∀j,zs[j]?=t.2.2[i+j]?)→
    jX (t.2.2.map fun z=>Value.int t.2.1 z).toArray.size [] (iW ((t.2.2.map fun z=>Value.int t.2.1 z).toArray.toList.map (rx C)) 0 .e) t.2.1 zs i=true:=by
    intro zs
    induction zs with
    |nil=>
     intro i hi _;show Nat.beq i _=true;simp only[bU]at hi;rw[bp];simp;omega
    |cons z zs ih=>
     intro i hi hz;have h0:=hz 0;simp only[List.getElem?_cons_zero,bT]at h0
     have hc:cell (t.2.2.map fun z=>Value.int t.2.1 z).toArray.size [] (iW ((t.2.2.map fun z=>Value.int t.2.1 z).toArray.toList.map (rx C)) 0 .e) i=some (.i t.2.1 z):=
      (iw (ty:=ty)).2 ⟨.int t.2.1 z,by simp[←h0],rfl⟩
     unfold jX;rw[hc];show(FS t.2.1 z (.i t.2.1 z)&&_)=true;rw[ih (i+1) (by simp at hi;omega) fun j=>by have:=hz (j+1);rw[List.getElem?_cons_succ]at this;rw[this];congr 1;omega];show(ii t.2.1 t.2.1&&Ob z z&&true)=true;rw[eX,cB];simp
   exact key t.2.2 0 (by omega) (fun j=>by rw[Nat.zero_add])
  rw[hi];rfl
theorem be8{P:Program}(hm:P.follows .mixedOrders=true){Φ:Nat→Option CF}(hΦ:fo P Φ){f:Nat}{W:World}{C:Nat}{args:List V}(hC:W.heap.size≤C)(hk:1000≤C)(ha:fE (· <C) args)
 (h:Ev.Calls Φ (cQ W C) f args .e C fun v _ _=>v= .b true):Go.Calls P f (aw E0 args).toArray W fun e W'=>e= .returned (.bool true)∧(∀may,W.keptBut W' may)∧ ∀i,i<W.heap.size→W'.heap[i]?=W.heap[i]?:=by
 obtain⟨v,M',c',hc,rfl⟩:=h
 obtain⟨fn,h1,h2,h3,hC⟩:=ir (rd:=none) (fn:=0) (F₀:=[]) hΦ (EM hm hΦ) (cQ W C) f args .e C (.b true) M' c' hc E0 (· <C) W (Ya hC) (fun g _=>⟨rfl,rfl⟩) (fun g hg=>Nat.lt_of_lt_of_le hg hk) (fun b hb hc=>Nat.lt_irrefl _ (Nat.lt_of_lt_of_le hc hb)) ha
 refine hC.mono ?_
 rintro e W' ⟨E',c',rfl,hS,_,_⟩
 exact⟨rfl,fun may=>al1 hS may,fun i hi=>hS.frame i hi (fun b hb=>by cases hb)⟩
inductive Ty where
 |bool|int (k:IntKind)|str|sl (e:Ty)|nil|cons (a b:Ty)
def Ty.D:Ty→Type
 | .bool=>Bool
 | .int _=>Int
 | .str=>List UInt8
 | .sl e=>List e.D
 | .nil=>Unit
 | .cons a b=>a.D×b.D
def Ty.size:Ty→Nat
 | .nil=>0
 | .cons a b=>a.size+b.size
 |_=>1
def Ty.hasSl:Ty→Bool
 | .sl _=>true
 | .cons a b=>a.hasSl||b.hasSl
 |_=>false
def Ty.deep:Ty→Bool
 | .sl e=>e.hasSl
 | .cons a b=>a.deep||b.deep
 |_=>false
def Rp(F:RO)(M:Mem)(c:Nat):(t:Ty)→List V→t.D→Prop
 | .bool,vs,x=>vs=[.b x]
 | .int k,vs,n=>(fun z:Int=>vs=[.i k z]∧k.min≤z∧z≤k.max) n
 | .str,vs,x=>(fun l:List UInt8=>vs=[sV l]∧l.length≤Go.maxLen) x
 | .sl e,vs,x=>(fun l:List e.D=>∃v es,vs=[v]∧cj F M c e.size v es∧l.length≤Go.maxLen∧es.length=l.length∧ ∀i (h:i<es.length) (h':i<l.length),Rp F M c e es[i] l[i]) x
 | .nil,vs,_=>vs=[]
 | .cons a b,vs,x=>∃v1 v2,vs=v1++v2∧Rp F M c a v1 x.1∧Rp F M c b v2 x.2
theorem Rp.len{F:RO}{M:Mem}{c:Nat}:∀{t:Ty} {vs:List V} {x:t.D},Rp F M c t vs x→vs.length=t.size
 | .bool,vs,x,h=>by obtain rfl:vs=[.b x]:=h;rfl
 | .int k,vs,x,h=>by obtain⟨rfl,_⟩:=h;rfl
 | .str,vs,x,h=>by obtain⟨rfl,_⟩:=h;rfl
 | .sl e,vs,x,h=>by obtain⟨v,es,rfl,_⟩:=h;rfl
 | .nil,vs,x,h=>by obtain rfl:vs=[]:=h;rfl
 | .cons a b,vs,x,h=>by
   obtain⟨v1,v2,rfl,h1,h2⟩:=h;rw[bw,h1.len,h2.len];rfl
def Sz(B:Nat):(t:Ty)→t.D→Prop
 | .str,x=>(fun l:List UInt8=>l.length≤B) x
 | .sl e,x=>(fun l:List e.D=>l.length≤B∧ ∀y∈l,Sz B e y) x
 | .cons a b,x=>Sz B a x.1∧Sz B b x.2
 |_,_=>True
mutual
def u9(P:Program):Ty→TypeId→Bool
 | .bool,t=>match P.underlying t with|some .bool=>true|_=>false
 | .int k,t=>match P.underlying t with|some (.int k')=>decide (k'=k)|_=>false
 | .str,t=>match P.underlying t with|some .string=>true|_=>false
 | .sl e,t=>match P.underlying t with|some (.slice te)=>decide (P.cellsOf te=e.size∧0<P.bytesOf te)&&u9 P e te|_=>false
 | .nil,_=>false
 | .cons a b,t=>match P.underlying t with
   |some (.struct fs)=>decide (P.cellsOf t=a.size+b.size)&&match fs.toList with
    |f::r=>decide (f.offset=0)&&(decide (P.cellsOf f.type=a.size)&&(u9 P a f.type&&Oo P b r a.size))
    |[]=>false
   |_=>false
def Oo(P:Program):Ty→List Field→Nat→Bool
 | .nil,[],_=>true
 | .cons a b,f::r,o=>decide (f.offset=o)&&(decide (P.cellsOf f.type=a.size)&&(u9 P a f.type&&Oo P b r (o+a.size)))
 |_,_,_=>false
end
theorem fG{α β:Type}{f:α→Option β}:∀{l:List α} {r:List β},l.mapM f=some r→r.length=l.length∧ ∀i (h:i<l.length) (h':i<r.length),f l[i]=some r[i]
 |[],r,h=>by
  rw[List.mapM_nil]at h;obtain rfl:[]=r:=af h;exact⟨rfl,fun i h=>by cases h⟩
 |a::l,r,h=>by
  rw[List.mapM_cons]at h;cases h1:f a with
  |none=>rw[h1]at h;cases h
  |some b=>
   rw[h1]at h;have h':(l.mapM f).bind (fun bs=>some (b::bs))=some r:=h;cases h2:l.mapM f with
   |none=>rw[h2]at h';cases h'
   |some bs=>
    rw[h2]at h';obtain rfl:b::bs=r:=af h';obtain⟨h3,h4⟩:=fG h2;refine⟨by simp[h3],fun i hi hi'=>?_⟩;cases i with
    |zero=>exact h1
    |succ i=>exact h4 i (by simpa using hi) (by simpa using hi')
def ON(C:Nat):Value→Prop
 | .slice (some a) 0 0=>(a.spot=none∧a.block<C)∨BZ a<C
 |_=>True
def BF(C:Nat)(cs:List Value)(vs:List V):Prop:=cs.map (rx C)=vs.map some
theorem BF.conc{C:Nat}:∀{cs:List Value} {vs:List V},BF C cs vs→aw E0 vs=cs∧fE (· <C) vs
 |[],[],_=>⟨rfl,trivial⟩
 |[],_::_,h=>by cases h
 |_::_,[],h=>by cases h
 |c::cs,v::vs,h=>by
  have h':rx C c::cs.map (rx C)=some v::vs.map some:=h;injection h' with h1 h2
  obtain⟨a1,a2⟩:=BF.conc (cs:=cs) (vs:=vs) h2;obtain⟨b1,b2⟩:=wR h1;exact⟨by rw[aw,a1,b1],b2,a2⟩
theorem BF.append{C:Nat}{cs cs':List Value}{vs vs':List V}(h:BF C cs vs)(h':BF C cs' vs'):BF C (cs++cs') (vs++vs'):=by
 unfold BF at *
 rw[List.map_append,List.map_append,h,h']
theorem BF.len{C:Nat}{cs:List Value}{vs:List V}(h:BF C cs vs):cs.length=vs.length:=by
 have:=congrArg List.length h
 simpa using this
theorem BF.get{C:Nat}{cs:List Value}{vs:List V}(h:BF C cs vs)(i:Nat)(hi:i<cs.length):rx C cs[i]=vs[i]?:=by
 have:=congrArg (fun l:List (Option V)=>l[i]?) h
 simp only[List.getElem?_map]at this
 rw[List.getElem?_eq_getElem hi,List.getElem?_eq_getElem (by rw[←h.len];exact hi)]at this
 rw[List.getElem?_eq_getElem (by rw[←h.len];exact hi)]
 simpa using this
section
variable{H:Type}{enc:TypeId×Value→H}{P:Program}{W:World}{C:Nat}{sp:Nat→Bool}{held:Bool}
theorem Z4{r o:Nat}{cs:List Value}{vs:List V}(h:BF C cs vs)(hc:∀i (hi:i<cs.length),W.cell? ⟨r,o+i,none⟩=some cs[i]):cZ (cQ W C) .e r o vs:=by
 intro k hk
 have hk':k<cs.length:=by rw[h.len];exact hk
 have:=h.get k hk'
 rw[List.getElem?_eq_getElem hk]at this⊢
 exact Ov (hc k hk') this
theorem zy{t:TypeId}{cs:List Value}{fuel:Nat}{r:DataW H×List MemPlace}(hu:P.underlying t=some .bool)(h:DataW.trod enc P W 0 sp held fuel t cs=some r):∃b,cs=[.bool b]:=by
 cases fuel with
 |zero=>cases h
 |succ fuel=>
  unfold DataW.trod at h;rw[hu]at h;split at h<;>first|(rename_i e;cases e;done)|cases h|skip
  all_goals simp_all
theorem De{t:TypeId}{k:IntKind}{cs:List Value}{fuel:Nat}{r:DataW H×List MemPlace}(hu:P.underlying t=some (.int k))(h:DataW.trod enc P W 0 sp held fuel t cs=some r):∃n,cs=[.int k n]∧k.min≤n∧n≤k.max:=by
 cases fuel with
 |zero=>cases h
 |succ fuel=>
  unfold DataW.trod at h;rw[hu]at h;split at h<;>first|(rename_i e;cases e;done)|cases h|skip
  rename_i k0 k' n e;simp only[Option.some.injEq,TypeDesc.int.injEq]at e;subst e;split at h
  ·rename_i hk;obtain⟨rfl,hw⟩:=hk;have hw':(decide (k'.min≤n)&&decide (n≤k'.max))=true:=hw;simp only[aD,decide_eq_true_eq]at hw';exact⟨n,rfl,hw'⟩
  ·cases h
theorem Df{t:TypeId}{cs:List Value}{fuel:Nat}{r:DataW H×List MemPlace}(hu:P.underlying t=some .string)(h:DataW.trod enc P W 0 sp held fuel t cs=some r):∃s:ByteArray,cs=[.string s]∧s.data.toList.length≤Go.maxLen∧r.1= .lit (.string s.data.toList):=by
 cases fuel with
 |zero=>cases h
 |succ fuel=>
  unfold DataW.trod at h;rw[hu]at h;split at h<;>first|(rename_i e;cases e;done)|cases h|skip
  rename_i s e;split at h
  ·rename_i hk;injection h with h
   exact⟨s,rfl,by simpa using hk,by rw[←h]⟩
  ·cases h
def H2(P:Program)(B:Nat)(t:TypeId)(d:DataW H):Prop:=∀n∈d.weights P t,n≤B
theorem LJ{P:Program}{e:TypeId}{n:Nat}:∀{l:List (DataW H)} {d:DataW H},d∈l→n∈d.weights P e→n∈DataW.weightsAll P e l
 |[],_,h,_=>by cases h
 |x::l,d,h,hn=>by
  rw[DataW.weightsAll,List.mem_append];rcases bj.1 h with rfl|h
  ·exact .inl hn
  ·exact .inr (LJ h hn)
theorem CD{P:Program}{n:Nat}:∀{ts:List TypeId} {l:List (DataW H)} {i:Nat} {t:TypeId} {d:DataW H},ts[i]?=some t→l[i]?=some d→n∈d.weights P t→n∈DataW.weightsEach P ts l
 |[],_,i,_,_,h,_,_=>by cases i<;>cases h
 |_::_,[],i,_,_,_,h,_=>by cases i<;>cases h
 |t::ts,d::l,0,_,_,h1,h2,hn=>by
  cases h1;cases h2;rw[DataW.weightsEach,List.mem_append];exact .inl hn
 |t::ts,d::l,i+1,_,_,h1,h2,hn=>by
  rw[DataW.weightsEach,List.mem_append];exact .inr (CD (i:=i) h1 h2 hn)
theorem MP{B:Nat}{t te:TypeId}{cs:List Value}{fuel:Nat}{r:DataW H×List MemPlace}(hu:P.underlying t=some (.slice te))(h:DataW.trod enc P W 0 sp held fuel t cs=some r):
 cs=[.slice none 0 0]∨ ∃a len cap fuel',cs=[.slice (some a) len cap]∧len≤cap∧cap≤Go.maxLen∧
  (∀i,i<len→ ∃es x,W.cells? 0 (a.add (i*P.cellsOf te)) (P.cellsOf te)=some es∧DataW.trod enc P W 0 sp held fuel' te es=some x∧(H2 P B t r.1→H2 P B te x.1))∧(H2 P B t r.1→len*P.bytesOf te≤B)∧
  (sp a.block=true→0<cap→ ∃es,W.cells? 0 a (P.cellsOf te)=some es):=by
 cases fuel with
 |zero=>cases h
 |succ fuel=>
  unfold DataW.trod at h;rw[hu]at h;split at h<;>first|(rename_i e;cases e;done)|cases h|skip
  ·exact .inl rfl
  ·rename_i e0 a len cap e;simp only[Option.some.injEq,TypeDesc.slice.injEq]at e;subst e;simp only at h;split at h
   ·rename_i hk;obtain⟨_,h1,h2⟩:=hk;cases hm:(List.range len).mapM fun i=>(W.cells? 0 (a.add (i*P.cellsOf te)) (P.cellsOf te)).bind (DataW.trod enc P W 0 sp held fuel te)with
    |none=>rw[hm]at h;cases h
    |some elems=>
     obtain⟨hl,hget⟩:=fG hm;obtain⟨rest,hr⟩:∃rest,r.1= .slice (elems.map (·.1)) rest:=by
      rw[hm]at h;simp only[Option.bind_some]at h;rw[b9]at h;obtain⟨rs,_,h⟩:=h;exact⟨_,by rw[←h]⟩
     have hw:r.1.weights P t=((elems.map (·.1)).length+rest.length)*P.bytesOf te::(DataW.weightsAll P te (elems.map (·.1))++DataW.weightsAll P te rest):=by
      rw[hr,DataW.weights,hu]
     rw[List.length_range]at hl
     have hlen':H2 P B t r.1→len*P.bytesOf te≤B:=fun hW=>by
      have:=hW _ (by rw[hw];exact bK ..);rw[List.length_map,hl]at this;exact bn (Nat.mul_le_mul (Nat.le_add_right _ _) (ah _)) this
     have hel:∀i,i<len→ ∃es x,W.cells? 0 (a.add (i*P.cellsOf te)) (P.cellsOf te)=some es∧DataW.trod enc P W 0 sp held fuel te es=some x∧(H2 P B t r.1→H2 P B te x.1):=fun i hi=>by
      have:=hget i (by simpa using hi) (by rw[hl];exact hi);simp only[List.getElem_range]at this;cases hc:W.cells? 0 (a.add (i*P.cellsOf te)) (P.cellsOf te)with
      |none=>rw[hc]at this;cases this
      |some es=>
       rw[hc]at this;refine⟨es,_,rfl,this,fun hW n hn=>hW n ?_⟩;rw[hw];exact bz _ (List.mem_append_left _ (LJ (List.mem_map.2 ⟨_,List.getElem_mem _,rfl⟩) hn))
     refine .inr ⟨a,len,cap,fuel,rfl,h1,h2,hel,hlen',fun hsp h0=>?_⟩;by_cases hlen:0<len
     ·obtain⟨es,_,he,_⟩:=hel 0 hlen;rw[Nat.zero_mul]at he;exact⟨es,by simpa [Addr.add]using he⟩
     ·rw[hm]at h;simp only[Option.bind_some,ac hsp]at h;cases hm2:(List.range (cap-len)).mapM fun j=>(W.cells? 0 (a.add ((len+j)*P.cellsOf te)) (P.cellsOf te)).bind (DataW.trod enc P W 0 sp held fuel te)with
      |none=>rw[hm2]at h;cases h
      |some rest=>
       obtain⟨g1,g2⟩:=fG hm2;rw[List.length_range]at g1;have:=g2 0 (by rw[List.length_range];omega) (by omega);simp only[List.getElem_range]at this;rw[show(len+0)*P.cellsOf te=0 by rw[show len=0 by omega];simp]at this;cases hc:W.cells? 0 (a.add 0) (P.cellsOf te)with
       |none=>rw[hc]at this;cases this
       |some es=>exact⟨es,by simpa [Addr.add]using hc⟩
   ·cases h
theorem MQ{B:Nat}{t:TypeId}{fs:Array Field}{cs:List Value}{fuel:Nat}{r:DataW H×List MemPlace}(hu:P.underlying t=some (.struct fs))(h:DataW.trod enc P W 0 sp held fuel t cs=some r):
 cs.length=P.cellsOf t∧ ∃fuel',∀f∈fs.toList,∃x,DataW.trod enc P W 0 sp held fuel' f.type ((cs.drop f.offset).take (P.cellsOf f.type))=some x∧(H2 P B t r.1→H2 P B f.type x.1):=by
 cases fuel with
 |zero=>cases h
 |succ fuel=>
  have key:(if cs.length=P.cellsOf t then(fs.toList.mapM fun f=>DataW.trod enc P W 0 sp held fuel f.type ((cs.drop f.offset).take (P.cellsOf f.type))).map fun xs=>(DataW.agg (xs.map (·.1)),xs.flatMap (·.2))else none)=some r:=by
   unfold DataW.trod at h;rw[hu]at h;split at h<;>first|(rename_i e;cases e;done)|cases h|skip
   ·rename_i e;simp only[Option.some.injEq,TypeDesc.struct.injEq]at e;subst e;exact h
   ·exact(‹∀fs_1:Array Field,some (TypeDesc.struct fs)=some (TypeDesc.struct fs_1)→False› fs rfl).elim
  split at key
  ·rename_i hk;refine⟨hk,fuel,fun f hf=>?_⟩;rw[b9]at key;obtain⟨xs,hm,hr⟩:=key;obtain⟨hl,hget⟩:=fG hm;obtain⟨i,hi,rfl⟩:=List.getElem_of_mem hf;refine⟨_,hget i hi (by rw[hl];exact hi),fun hW n hn=>hW n ?_⟩;rw[←hr,DataW.weights,hu];refine CD (i:=i) (t:=fs.toList[i].type) (d:=(xs[i]'(by rw[hl];exact hi)).1) ?_ ?_ hn
   ·rw[List.getElem?_map,List.getElem?_eq_getElem hi];rfl
   ·rw[List.getElem?_map,List.getElem?_eq_getElem (by rw[hl];exact hi)];rfl
  ·cases key
theorem Ps{a:Addr}{n c:Nat}(h1:a.spot=none)(h2:a.block<C):rx C (.slice (some a) n c)=some (.l a.block a.off n c):=by
 show(if a.spot=none∧a.block<C then some (V.l a.block a.off n c)else _)=_
 rw[ac ⟨h1,h2⟩]
theorem Ca{a:Addr}{n:Nat}{cs:List Value}(hc:W.cells? 0 a n=some cs)(hn:0<n):a.spot=none∧a.block<W.heap.size:=by
 unfold World.cells? at hc
 rw[ac (aF _)]at hc
 obtain⟨h1,h2⟩:=fG hc
 rw[List.length_range]at h1
 have:=h2 0 (by rw[List.length_range];exact hn) (by omega)
 rw[List.getElem_range,show a.add 0=a from rfl]at this
 unfold World.cell? at this
 split at this
 ·rename_i hh;split at this
  ·cases this
  ·rename_i hs;refine⟨?_,(Array.getElem?_eq_some_iff.1 hh).1⟩;cases hsp:a.spot with
   |none=>rfl
   |some k=>rw[hsp]at hs;simp at hs
 ·cases this
theorem Zj{sz:Nat}{a:Addr}{len cap:Nat}{Q:List Value→List V→Prop}(hs:a.spot=none)(hb:a.block<C)(hlc:len≤cap)
 (h:∀i,i<len→ ∃cs vs,W.cells? 0 (a.add (i*sz)) sz=some cs∧BF C cs vs∧Q cs vs):
 ∃es:List (List V),es.length=len∧cj (cQ W C) .e C sz (.l a.block a.off len cap) es∧ ∀i (hi:i<es.length),∃cs,Q cs es[i]:=by
 obtain⟨b,o,sp⟩:=a
 obtain rfl:sp=none:=hs
 have hget:∀i,i<len→ ∃cs vs,BF C cs vs∧Q cs vs∧cs.length=sz∧ ∀k (hk:k<cs.length),W.cell? ⟨b,o+i*sz+k,none⟩=some cs[k]:=by
  intro i hi;obtain⟨cs,vs,h1,h2,h3⟩:=h i hi;rw[Addr.add_eq]at h1;unfold World.cells? at h1;rw[ac (aF _)]at h1;obtain⟨h4,h5⟩:=fG h1;rw[List.length_range]at h4;refine⟨cs,vs,h2,h3,h4,fun k hk=>?_⟩;have:=h5 k (by rw[List.length_range];omega) hk;rw[List.getElem_range,Addr.add_eq]at this;exact this
 have key:∀n,n≤len→ ∃es:List (List V),es.length=n∧(∀e∈es,e.length=sz)∧cZ (cQ W C) .e b o es.flatten∧ ∀i (hi:i<es.length),∃cs,Q cs es[i]:=by
  intro n
  induction n with
  |zero=>intro _;exact⟨[],rfl,fun e he=>(by cases he),fun k hk=>(by simp at hk),fun i hi=>(by simp at hi)⟩
  |succ n ih=>
   intro hn;obtain⟨es,h1,h2,h3,h4⟩:=ih (by omega);obtain⟨cs,vs,g1,g2,g3,g4⟩:=hget n (by omega);have hvl:vs.length=sz:=by rw[←g1.len];exact g3
   have h2':∀e∈es++[vs],e.length=sz:=by
    intro e he;rw[List.mem_append,List.mem_singleton]at he;rcases he with he|rfl
    ·exact h2 e he
    ·exact hvl
   have hfl:es.flatten.length=n*sz:=by rw[iS h2,h1]
   refine⟨es++[vs],by simp[h1],h2',?_,fun i hi=>?_⟩
   ·intro k hk;rw[List.flatten_append]at hk⊢;simp only[List.flatten_cons,List.flatten_nil,cL,bw]at hk⊢;by_cases hk1:k<es.flatten.length
    ·rw[List.getElem?_append_left hk1];exact h3 k hk1
    ·rw[List.getElem?_append_right (by omega),hfl];have hr:=Z4 (o:=o+n*sz) g1 g4 (k-n*sz) (by omega);rw[←hr];congr 1;omega
   ·by_cases hi1:i<es.length
    ·rw[List.getElem_append_left hi1];exact h4 i hi1
    ·rw[List.getElem_append_right (by omega)];have:i-es.length=0:=by simp at hi;omega
     simp only[this,List.getElem_cons_zero];exact⟨cs,g2⟩
 obtain⟨es,h1,h2,h3,h4⟩:=key len (ah _)
 refine⟨es,h1,⟨h2,.inr ⟨b,o,.inl ⟨cap,by omega,by rw[h1]⟩,hb,h3⟩⟩,h4⟩
theorem al2{α:Type}{n:Nat}{Q:Nat→α→Prop}(h:∀i,i<n→ ∃x,Q i x):∃l:List α,l.length=n∧ ∀i (hi:i<l.length),Q i l[i]:=by
 induction n with
 |zero=>exact⟨[],rfl,fun i hi=>(by simp at hi)⟩
 |succ n ih=>
  obtain⟨l,h1,h2⟩:=ih fun i hi=>h i (by omega);obtain⟨x,hx⟩:=h n (by omega);refine⟨l++[x],by simp[h1],fun i hi=>?_⟩;by_cases hi1:i<l.length
  ·rw[List.getElem_append_left hi1];exact h2 i hi1
  ·rw[List.getElem_append_right (by omega)];have e:i=n:=by simp at hi;omega
   subst e;simp only[h1,Nat.sub_self,List.getElem_cons_zero];exact hx
theorem Ty.size_pos{P:Program}{ty:Ty}{t:TypeId}(h:u9 P ty t=true):0<ty.size:=by
 induction ty generalizing t with
 |cons a b iha _=>
  rw[u9]at h;split at h
  ·simp only[aD]at h;obtain⟨_,h⟩:=h;split at h
   ·simp only[aD]at h;have:=iha h.2.2.1;show 0<a.size+b.size;omega
   ·cases h
  ·cases h
 |nil=>cases h
 |_=>exact Nat.one_pos
mutual
theorem uu{B:Nat}(hsp:∀b,sp b=true)(hC:W.heap.size≤C):∀(ty:Ty) (t:TypeId) (cs:List Value) (fuel:Nat) (r:DataW H×List MemPlace),u9 P ty t=true→DataW.trod enc P W 0 sp held fuel t cs=some r→
 (ty.hasSl=true→ ∀v∈cs,ON C v)→(ty.deep=true→ ∀a x,W.cell? a=some x→ON C x)→ ∃vs x,BF C cs vs∧Rp (cQ W C) .e C ty vs x∧(H2 P B t r.1→Sz B ty x)
 | .bool,t,cs,fuel,r,hb,h,h1,h2=>by
   rw[u9]at hb;split at hb
   ·rename_i hu;obtain⟨b,rfl⟩:=zy hu h;exact⟨[.b b],b,rfl,rfl,fun _=>trivial⟩
   ·cases hb
 | .int k,t,cs,fuel,r,hb,h,h1,h2=>by
   rw[u9]at hb;split at hb
   ·rename_i k' hu;obtain rfl:=bc hb;obtain⟨n,rfl,hn⟩:=De hu h;exact⟨[.i k' n],n,rfl,⟨rfl,hn⟩,fun _=>trivial⟩
   ·cases hb
 | .str,t,cs,fuel,r,hb,h,h1,h2=>by
   rw[u9]at hb;split at hb
   ·rename_i hu;obtain⟨s,rfl,hs,hr⟩:=Df hu h;refine⟨[sV s.data.toList],s.data.toList,rfl,⟨rfl,hs⟩,fun hW=>hW _ ?_⟩;rw[hr,DataW.weights];exact List.mem_singleton.2 rfl
   ·cases hb
 | .sl e,t,cs,fuel,r,hb,h,h1,h2=>by
   rw[u9]at hb;split at hb
   ·rename_i te hu;simp only[aD,decide_eq_true_eq]at hb;obtain⟨⟨hsz,hbp⟩,hb⟩:=hb;have hpos:=Ty.size_pos hb;rcases MP (B:=B) hu h with rfl|⟨a,len,cap,fuel',rfl,hlc,hcap,hel,hlW,hfirst⟩
    ·exact⟨[.l0],[],rfl,⟨.l0,[],rfl,⟨fun e he=>(by cases he),.inl ⟨rfl,.inl rfl⟩⟩,aF _,rfl,fun i hi=>(by cases hi)⟩,fun _=>⟨aF _,fun y hy=>(by cases hy)⟩⟩
    ·have hz:=h1 rfl _ (List.mem_singleton.2 rfl);rw[hsz]at hel hfirst;have hok:(a.spot=none∧a.block<C)∨(len=0∧cap=0∧BZ a<C∧ ¬(a.spot=none∧a.block<C)):=by
      by_cases h0:0<cap
      ·obtain⟨es,he⟩:=hfirst (hsp _) h0;obtain⟨g1,g2⟩:=Ca he hpos;exact .inl ⟨g1,Nat.lt_of_lt_of_le g2 hC⟩
      ·obtain rfl:cap=0:=by omega
       obtain rfl:len=0:=by omega
       by_cases hq:a.spot=none∧a.block<C
       ·exact .inl hq
       ·exact .inr ⟨rfl,rfl,hz.resolve_left hq,hq⟩
     rcases hok with hok|⟨rfl,rfl,he,hq⟩
     rotate_left
     ·refine⟨[.ue (BZ a) 1 0],[],?_,⟨.ue (BZ a) 1 0,[],rfl,⟨fun e he=>(by cases he),.inl ⟨rfl,.inr ⟨_,_,_,rfl⟩⟩⟩,aF _,rfl,fun i hi=>(by cases hi)⟩,fun _=>⟨aF _,fun y hy=>(by cases hy)⟩⟩;show[rx C _]=[some _]
      congr 1
      show(if a.spot=none∧a.block<C then _ else if 0=0∧0=0∧BZ a<C then some (V.ue (BZ a) 1 0)else none)=_;rw[ab hq,ac ⟨rfl,rfl,he⟩]
     obtain⟨es,hl,hS,hQ⟩:=Zj (cap:=cap) (C:=C) (Q:=fun _ vs=>∃x,Rp (cQ W C) .e C e vs x∧(H2 P B t r.1→Sz B e x)) hok.1 hok.2 hlc (fun i hi=>by
      obtain⟨cs',x,hc,ht,hxW⟩:=hel i hi
      obtain⟨vs,y,hv,hR,hZ⟩:=uu (B:=B) hsp hC e te cs' fuel' x hb ht
       (fun he v hv=>by
        obtain⟨j,hj,rfl⟩:=List.getElem_of_mem hv;unfold World.cells? at hc;rw[ac (aF _)]at hc;obtain⟨h4,h5⟩:=fG hc;exact h2 he _ _ (h5 j (by rw[List.length_range]at h4⊢;omega) hj))
       (fun he=>h2 (by
        have key:∀t:Ty,t.deep=true→t.hasSl=true:=by
         intro t
         induction t with
         |cons a b iha ihb=>
          intro hd;have hd':(a.deep||b.deep)=true:=hd;show(a.hasSl||b.hasSl)=true;rw[Bool.or_eq_true]at hd'⊢;exact hd'.imp iha ihb
         |sl e _=>intro _;rfl
         |_=>intro hd;cases hd
        exact key e he))
      exact⟨cs',vs,hc,hv,y,hR,fun hW=>hZ (hxW hW)⟩)
     obtain⟨xs,hxl,hx⟩:=al2 (n:=es.length) (Q:=fun i x=>(∀h:i<es.length,Rp (cQ W C) .e C e es[i] x)∧(H2 P B t r.1→Sz B e x)) (fun i hi=>by
      obtain⟨_,x,hR,hZ⟩:=hQ i hi;exact⟨x,fun _=>hR,hZ⟩)
     refine⟨[.l a.block a.off len cap],xs,?_,⟨.l a.block a.off len cap,es,rfl,hS,?_,hxl.symm,fun i hi hi'=>(hx i hi').1 hi⟩,fun hW=>⟨?_,fun y hy=>?_⟩⟩
     ·show[rx C _]=[some _]
      rw[Ps hok.1 hok.2]
     ·show List.length xs≤_;omega
     ·show List.length xs≤_;rw[hxl,hl];exact bn (Nat.le_mul_of_pos_right _ hbp) (hlW hW)
     ·obtain⟨i,hi,rfl⟩:=List.getElem_of_mem hy;exact(hx i hi).2 hW
   ·cases hb
 | .nil,t,cs,fuel,r,hb,h,h1,h2=>by cases hb
 | .cons a b,t,cs,fuel,r,hb,h,h1,h2=>by
   rw[u9]at hb;split at hb
   ·rename_i fs hu;simp only[aD,decide_eq_true_eq]at hb;obtain⟨hsz,hb⟩:=hb;obtain⟨hlen,fuel',hf⟩:=MQ (B:=B) hu h;split at hb
    ·rename_i f rest hfs;simp only[aD,decide_eq_true_eq]at hb;obtain⟨ho,hfa,hta,hrest⟩:=hb;rw[hfs]at hf;obtain⟨x,hx,hxW⟩:=hf f (bK ..);rw[ho,hfa]at hx;have hs:(a.hasSl=true→ ∀v∈(cs.drop 0).take a.size,ON C v):=fun ha v hv=>h1 (by show(a.hasSl||b.hasSl)=true;rw[ha];rfl) v (List.mem_of_mem_drop (List.mem_of_mem_take hv));obtain⟨v1,x1,hv1,hR1,hZ1⟩:=uu (B:=B) hsp hC a f.type _ fuel' x hta hx hs (fun ha=>h2 (by show(a.deep||b.deep)=true;rw[ha];rfl))
     obtain⟨v2,x2,hv2,hR2,hZ2⟩:=MD (B:=B) (hyp:=H2 P B t r.1) hsp hC b rest cs fuel' a.size hrest (by rw[hlen,hsz]) (fun f' hf'=>hf f' (bz _ hf'))
      (fun hb' v hv=>h1 (by show(a.hasSl||b.hasSl)=true;rw[hb'];simp) v (List.mem_of_mem_drop hv)) (fun hb'=>h2 (by show(a.deep||b.deep)=true;rw[hb'];simp))
     refine⟨v1++v2,(x1,x2),?_,⟨v1,v2,rfl,hR1,hR2⟩,fun hW=>⟨hZ1 (hxW hW),hZ2 hW⟩⟩;have:=hv1.append hv2
     rwa [List.drop_zero,List.take_append_drop]at this
    ·cases hb
   ·cases hb
theorem MD{B:Nat}{hyp:Prop}(hsp:∀b,sp b=true)(hC:W.heap.size≤C):∀(ty:Ty) (fs:List Field) (cs:List Value) (fuel o:Nat),Oo P ty fs o=true→cs.length=o+ty.size→
 (∀f∈fs,∃x,DataW.trod enc P W 0 sp held fuel f.type ((cs.drop f.offset).take (P.cellsOf f.type))=some x∧(hyp→H2 P B f.type x.1))→
 (ty.hasSl=true→ ∀v∈cs.drop o,ON C v)→(ty.deep=true→ ∀a x,W.cell? a=some x→ON C x)→ ∃vs x,BF C (cs.drop o) vs∧Rp (cQ W C) .e C ty vs x∧(hyp→Sz B ty x)
 | .nil,[],cs,fuel,o,hb,hl,hf,h1,h2=>by
   refine⟨[],(),?_,rfl,fun _=>trivial⟩;rw[List.drop_eq_nil_of_le (by have:(Ty.nil).size=0:=rfl;omega)];rfl
 | .nil,_::_,cs,fuel,o,hb,hl,hf,h1,h2=>by cases hb
 | .bool,fs,cs,fuel,o,hb,hl,hf,h1,h2=>by cases fs<;>cases hb
 | .int k,fs,cs,fuel,o,hb,hl,hf,h1,h2=>by cases fs<;>cases hb
 | .str,fs,cs,fuel,o,hb,hl,hf,h1,h2=>by cases fs<;>cases hb
 | .sl e,fs,cs,fuel,o,hb,hl,hf,h1,h2=>by cases fs<;>cases hb
 | .cons a b,[],cs,fuel,o,hb,hl,hf,h1,h2=>by cases hb
 | .cons a b,f::rest,cs,fuel,o,hb,hl,hf,h1,h2=>by
   rw[Oo]at hb;simp only[aD,decide_eq_true_eq]at hb;obtain⟨ho,hfa,hta,hrest⟩:=hb;have hl':cs.length=o+(a.size+b.size):=hl;obtain⟨x,hx,hxW⟩:=hf f (bK ..);rw[ho,hfa]at hx;obtain⟨v1,x1,hv1,hR1,hZ1⟩:=uu (B:=B) hsp hC a f.type _ fuel x hta hx (fun ha v hv=>h1 (by show(a.hasSl||b.hasSl)=true;rw[ha];rfl) v (List.mem_of_mem_take hv)) (fun ha=>h2 (by show(a.deep||b.deep)=true;rw[ha];rfl))
   obtain⟨v2,x2,hv2,hR2,hZ2⟩:=MD (B:=B) (hyp:=hyp) hsp hC b rest cs fuel (o+a.size) hrest (by omega) (fun f' hf'=>hf f' (bz _ hf'))
    (fun hb' v hv=>h1 (by show(a.hasSl||b.hasSl)=true;rw[hb'];simp) v (by rw[←List.drop_drop]at hv;exact List.mem_of_mem_drop hv)) (fun hb'=>h2 (by show(a.deep||b.deep)=true;rw[hb'];simp))
   refine⟨v1++v2,(x1,x2),?_,⟨v1,v2,rfl,hR1,hR2⟩,fun hW=>⟨hZ1 (hxW hW),hZ2 hW⟩⟩;have:=hv1.append hv2
   rwa [←List.drop_drop,List.take_append_drop]at this
end
theorem ED{W W':World}(h:∀i,i<W.heap.size→W'.heap[i]?=W.heap[i]?){a:Addr}{n:Nat}{cs:List Value}(hc:W.cells? 0 a n=some cs):W'.cells? 0 a n=some cs:=by
 unfold World.cells? at hc⊢
 rw[ac (aF _)]at hc⊢
 have key:∀(l:List Nat) (r:List Value),(l.mapM fun i=>W.cell? (a.add i))=some r→(l.mapM fun i=>W'.cell? (a.add i))=some r:=by
  intro l
  induction l with
  |nil=>intro r hr;exact hr
  |cons x l ih=>
   intro r hr;rw[List.mapM_cons]at hr⊢;cases h1:W.cell? (a.add x)with
   |none=>rw[h1]at hr;cases hr
   |some v=>
    have e:W'.cell? (a.add x)=some v:=by
     unfold World.cell? at h1⊢;split at h1
     ·rename_i hh;rw[h _ (Array.getElem?_eq_some_iff.1 hh).1,hh];exact h1
     ·cases h1
    rw[h1]at hr;rw[e];cases h2:l.mapM fun i=>W.cell? (a.add i)with
    |none=>rw[h2]at hr;cases hr
    |some vs=>
     rw[h2]at hr;rw[ih vs h2];exact hr
 exact key _ _ hc
theorem XB{W:World}{a:Addr}{n:Nat}{cs:List Value}(hc:W.cells? 0 a n=some cs)(hn:0<n):a.block<W.heap.size:=by
 unfold World.cells? at hc
 rw[ac (aF _)]at hc
 obtain⟨h1,h2⟩:=fG hc
 rw[List.length_range]at h1
 have:=h2 0 (by rw[List.length_range];exact hn) (by omega)
 rw[List.getElem_range]at this
 unfold World.cell? at this
 split at this
 ·rename_i hh;have:=(Array.getElem?_eq_some_iff.1 hh).1;unfold Addr.add at this
  simpa using this
 ·cases this
theorem qG{α β:Type}{f g:α→Option β}:∀{l:List α} {r:List β},l.mapM f=some r→(∀x∈l,∀y,f x=some y→g x=some y)→l.mapM g=some r
 |[],r,h,_=>h
 |a::l,r,h,hfg=>by
  rw[List.mapM_cons]at h⊢;cases h1:f a with
  |none=>rw[h1]at h;cases h
  |some b=>
   rw[h1]at h;rw[hfg a (bK ..) b h1];cases h2:l.mapM f with
   |none=>rw[h2]at h;cases h
   |some bs=>
    rw[h2]at h;rw[qG h2 fun x hx=>hfg x (bz _ hx)];exact h
theorem FW{t:TypeId}{fs:Array Field}{cs:List Value}{fuel:Nat}(hu:P.underlying t=some (.struct fs))(hlen:cs.length=P.cellsOf t):DataW.trod enc P W 0 sp held (fuel+1) t cs=
 (fs.toList.mapM fun f=>DataW.trod enc P W 0 sp held fuel f.type ((cs.drop f.offset).take (P.cellsOf f.type))).map fun xs=>(DataW.agg (xs.map (·.1)),xs.flatMap (·.2)):=by
 rw[DataW.trod_step]
 unfold DataW.trodStep
 rw[hu]
 clear hu
 split
 all_goals first
  |(rename_i e;simp only[Option.some.injEq,TypeDesc.struct.injEq]at e;subst e;rw[ac hlen];done)
  |(rename_i e;cases e;done)
  |exact(‹∀fs_1:Array Field,some (TypeDesc.struct fs)=some (TypeDesc.struct fs_1)→False› fs rfl).elim
  |skip
mutual
theorem oe{W W':World}(hW:∀i,i<W.heap.size→W'.heap[i]?=W.heap[i]?):∀(ty:Ty) (t:TypeId) (cs:List Value) (fuel:Nat) (r:DataW H×List MemPlace),u9 P ty t=true→
 DataW.trod enc P W 0 (fun _=>true) held fuel t cs=some r→DataW.trod enc P W' 0 (fun b=>decide (b<W.heap.size)) held fuel t cs=some r
 |ty,t,cs,0,r,hb,h=>by cases h
 | .bool,t,cs,fuel+1,r,hb,h=>by
   rw[u9]at hb;split at hb
   ·rename_i hu;obtain⟨b,rfl⟩:=zy hu h;simp only[DataW.trod,hu]at h⊢;exact h
   ·cases hb
 | .int k,t,cs,fuel+1,r,hb,h=>by
   rw[u9]at hb;split at hb
   ·rename_i k' hu;obtain rfl:=bc hb;obtain⟨n,rfl,hn⟩:=De hu h;simp only[DataW.trod,hu]at h⊢;exact h
   ·cases hb
 | .str,t,cs,fuel+1,r,hb,h=>by
   rw[u9]at hb;split at hb
   ·rename_i hu;obtain⟨s,rfl,hs⟩:=Df hu h;simp only[DataW.trod,hu]at h⊢;exact h
   ·cases hb
 | .sl e,t,cs,fuel+1,r,hb,h=>by
   rw[u9]at hb;split at hb
   ·rename_i te hu;simp only[aD,decide_eq_true_eq]at hb;obtain⟨⟨hsz,_⟩,hb⟩:=hb;have hpos:=Ty.size_pos hb;rcases MP (B:=0) hu h with rfl|⟨a,len,cap,fuel',rfl,hlc,hcap,hel⟩
    ·simp only[DataW.trod,hu]at h⊢;exact h
    ·simp only[DataW.trod,hu]at h⊢;rw[ac ⟨aF _,hlc,hcap⟩]at h⊢
     have elem:∀i y,(W.cells? 0 (a.add (i*P.cellsOf te)) (P.cellsOf te)).bind (DataW.trod enc P W 0 (fun _=>true) held fuel te)=some y→
      (W'.cells? 0 (a.add (i*P.cellsOf te)) (P.cellsOf te)).bind (DataW.trod enc P W' 0 (fun b=>decide (b<W.heap.size)) held fuel te)=some y:=by
      intro i y hy;cases hc:W.cells? 0 (a.add (i*P.cellsOf te)) (P.cellsOf te)with
      |none=>rw[hc]at hy;cases hy
      |some es=>
       rw[hc]at hy;rw[ED hW hc];exact oe hW e te es fuel y hb hy
     cases hm:(List.range len).mapM fun i=>(W.cells? 0 (a.add (i*P.cellsOf te)) (P.cellsOf te)).bind (DataW.trod enc P W 0 (fun _=>true) held fuel te)with
     |none=>rw[hm]at h;cases h
     |some elems=>
      rw[hm]at h;rw[qG hm fun i _=>elem i];simp only[Option.bind_some,if_true]at h⊢;by_cases hblk:a.block<W.heap.size
      ·rw[ae hblk];simp only[if_true];cases hm2:(List.range (cap-len)).mapM fun j=>(W.cells? 0 (a.add ((len+j)*P.cellsOf te)) (P.cellsOf te)).bind (DataW.trod enc P W 0 (fun _=>true) held fuel te)with
       |none=>rw[hm2]at h;cases h
       |some rest=>
        rw[hm2]at h;rw[qG hm2 fun i _=>elem (len+i)];exact h
      ·rw[ag hblk];have h0:cap-len=0:=by
        by_cases h0:cap-len=0
        ·exact h0
        ·exfalso;cases hm2:(List.range (cap-len)).mapM fun j=>(W.cells? 0 (a.add ((len+j)*P.cellsOf te)) (P.cellsOf te)).bind (DataW.trod enc P W 0 (fun _=>true) held fuel te)with
         |none=>rw[hm2]at h;cases h
         |some rest=>
          obtain⟨g1,g2⟩:=fG hm2;rw[List.length_range]at g1;have:=g2 0 (by rw[List.length_range];omega) (by omega);cases hc:W.cells? 0 (a.add ((len+(List.range (cap-len))[0]'(by rw[List.length_range];omega))*P.cellsOf te)) (P.cellsOf te)with
          |none=>rw[hc]at this;cases this
          |some es=>
           have:=XB hc (by omega);unfold Addr.add at this;split at this<;>exact hblk this
       rw[h0]at h;simp only[List.range_zero,List.mapM_nil]at h;exact h
   ·cases hb
 | .nil,t,cs,fuel+1,r,hb,h=>by cases hb
 | .cons a b,t,cs,fuel+1,r,hb,h=>by
   rw[u9]at hb;split at hb
   ·rename_i fs hu;simp only[aD,decide_eq_true_eq]at hb;obtain⟨hsz,hb⟩:=hb;obtain⟨hlen,_⟩:=MQ (B:=0) hu h;rw[FW hu hlen]at h⊢;split at hb
    ·rename_i f rest hfs;simp only[aD,decide_eq_true_eq]at hb;obtain⟨ho,hfa,hta,hrest⟩:=hb;rw[b9]at h;obtain⟨xs,hm,rfl⟩:=h;rw[hfs]at hm⊢
     rw[qG hm fun g hg y hy=>by
      rcases bj.1 hg with rfl|hg
      ·exact oe hW a _ _ fuel y hta hy
      ·exact yJ hW b rest fuel a.size hrest g hg _ y hy]
     rfl
    ·cases hb
   ·cases hb
theorem yJ{W W':World}(hW:∀i,i<W.heap.size→W'.heap[i]?=W.heap[i]?):∀(ty:Ty) (fs:List Field) (fuel o:Nat),Oo P ty fs o=true→ ∀f∈fs,∀(cs:List Value) (y:DataW H×List MemPlace),
 DataW.trod enc P W 0 (fun _=>true) held fuel f.type cs=some y→DataW.trod enc P W' 0 (fun b=>decide (b<W.heap.size)) held fuel f.type cs=some y
 | .nil,[],fuel,o,hb,f,hf,cs,y,h=>by cases hf
 | .nil,_::_,fuel,o,hb,f,hf,cs,y,h=>by cases hb
 | .bool,fs,fuel,o,hb,f,hf,cs,y,h=>by cases fs<;>cases hb
 | .int k,fs,fuel,o,hb,f,hf,cs,y,h=>by cases fs<;>cases hb
 | .str,fs,fuel,o,hb,f,hf,cs,y,h=>by cases fs<;>cases hb
 | .sl e,fs,fuel,o,hb,f,hf,cs,y,h=>by cases fs<;>cases hb
 | .cons a b,[],fuel,o,hb,f,hf,cs,y,h=>by cases hb
 | .cons a b,g::rest,fuel,o,hb,f,hf,cs,y,h=>by
   rw[Oo]at hb;simp only[aD,decide_eq_true_eq]at hb;obtain⟨ho,hfa,hta,hrest⟩:=hb;rcases bj.1 hf with rfl|hf
   ·exact oe hW a _ _ fuel y hta h
   ·exact yJ hW b rest fuel _ hrest f hf cs y h
end
def Ty.arg:Ty→List V→V
 | .cons _ _,vs=> .g vs
 |_,v::_=>v
 |_,[]=>undef
def PO(F:RO)(C:Nat):List Ty→List V→Prop
 |[],as0=>as0=[]
 |ty::r,as0=>∃vs x a',as0=ty.arg vs::a'∧Rp F .e C ty vs x∧PO F C r a'
def Pq(P:Program):List Ty→List TypeId→Bool
 |[],[]=>true
 |ty::r,t::ts=>u9 P ty t&&Pq P r ts
 |_,_=>false
theorem CI{base:Nat}{u:TypeId}{v:Value}(h:Cell.okWide P W .any base u v)(hC:W.heap.size≤C):ON C v:=by
 unfold ON
 split
 ·rename_i a;have key:W.has P .any base a 0 0∨ ∃e n,W.has P .any base a e n:=by
   unfold Cell.okWide at h;split at h<;>first|(rename_i e;cases e;done)|skip
   ·rename_i hne;unfold Cell.ok at h;split at h<;>first|(rename_i e;cases e;done)|skip
    all_goals first
     |exact h.elim
     |skip
    all_goals (rename_i e1 e2;first|cases e2|skip)
    exact .inr ⟨_,_,h.2.2⟩
  have:∃e n,W.has P .any base a e n:=by
   rcases key with h|h
   ·exact⟨0,0,h⟩
   ·exact h
  obtain⟨e,n,_,h1,row,cells,h2,_⟩:=this;refine .inl ⟨h1,?_⟩;unfold World.shape? at h2;split at h2
  ·rename_i hh;exact Nat.lt_of_lt_of_le (Array.getElem?_eq_some_iff.1 hh).1 hC
  ·cases h2
 ·trivial
theorem am5{base:Nat}{t:TypeId}{v:Value}(h:Value.okWide P W .any base t v)(hC:W.heap.size≤C):∀x∈v.cells.toList,ON C x:=by
 intro x hx
 unfold Value.okWide at h
 have agg:(∃cs,v= .agg cs∧cs.size=P.cellsOf t∧Row.okWide P W .any base t cs)→ON C x:=by
  rintro⟨cs,rfl,_,ts,_,_,hcell⟩;obtain⟨i,hi,rfl⟩:=List.getElem_of_mem hx
  obtain⟨u,_,hu⟩:=hcell i _ (by
   show cs[i]?=some _;rw[Array.getElem?_eq_getElem (by simpa [Value.cells]using hi)])
  exact CI hu hC
 split at h
 ·exact agg h
 ·exact agg h
 ·have hv:v.cells=#[v]∨ ∃cs,v= .agg cs:=by
   cases v<;>first|exact .inl rfl|exact .inr ⟨_,rfl⟩
  rcases hv with hv|⟨cs,rfl⟩
  ·rw[hv]at hx;obtain rfl:x=v:=by simpa using hx
   exact CI h hC
  ·exfalso;unfold Cell.okWide at h;split at h<;>first|(rename_i e1 e2;cases e2;done)|skip
   unfold Cell.ok at h;split at h<;>first|(rename_i e1 e2;cases e2;done)|exact h
theorem b67{base:Nat}{t:TypeId}{v:Value}{fs:Array Field}(h:Value.okWide P W .any base t v)(hu:P.underlying t=some (.struct fs)):∃cs,v= .agg cs:=by
 unfold Value.okWide at h
 rw[hu]at h
 obtain⟨cs,e,_⟩:=h
 exact⟨cs,e⟩
theorem ag6{ty:Ty}{t:TypeId}{base:Nat}{v:Value}(h:Value.okWide P W .any base t v)(hb:u9 P ty t=true)(hn:∀a b,ty≠ .cons a b):v.cells=#[v]:=by
 have hu:∀fs,P.underlying t≠some (.struct fs):=by
  intro fs hu;cases ty with
  |cons a b=>exact hn a b rfl
  |nil=>cases hb
  |_=>rw[u9,hu]at hb;cases hb
 have hu2:∀n e,P.underlying t≠some (.array n e):=by
  intro n e hu;cases ty with
  |cons a b=>exact hn a b rfl
  |nil=>cases hb
  |_=>rw[u9,hu]at hb;cases hb
 unfold Value.okWide at h
 split at h
 ·exact(hu _ (by assumption)).elim
 ·exact(hu2 _ _ (by assumption)).elim
 ·cases v<;>first|rfl|skip
  exfalso;unfold Cell.okWide at h;split at h<;>first|(rename_i e1 e2;cases e2;done)|skip
  unfold Cell.ok at h;split at h<;>first|(rename_i e1 e2;cases e2;done)|exact h
theorem b71(hsp:∀b,sp b=true){ty:Ty}{t:TypeId}{base:Nat}{v:Value}{d:DataW H}{ps:List MemPlace}(hb:u9 P ty t=true)(h:DataW.Trod enc P W 0 sp held t v d ps)(hv:Value.okWide P W .any base t v)(hC:W.heap.size≤C)
 (hd:ty.deep=true→ ∀a x,W.cell? a=some x→ON C x) (B:Nat):∃vs x,conc E0 (ty.arg vs)=v∧bd (· <C) (ty.arg vs)∧Rp (cQ W C) .e C ty vs x∧(H2 P B t d→Sz B ty x):=by
 obtain⟨fuel,h⟩:=h
 obtain⟨vs,x,h1,h2⟩:=uu (B:=B) hsp hC ty t _ fuel _ hb h (fun _=>am5 hv hC) hd
 obtain⟨c1,c2⟩:=h1.conc
 refine⟨vs,x,?_,?_,h2⟩
 ·cases ty with
  |cons a b=>
   rw[u9]at hb;split at hb
   ·rename_i fs hu;obtain⟨cs,rfl⟩:=b67 hv hu;show Value.agg (aw E0 vs).toArray=_;rw[c1];simp[Value.cells]
   ·cases hb
  |nil=>cases hb
  |_=>
   have hc:=ag6 hv hb (by intro a b e;cases e);rw[hc]at c1 h1;have hl:=h1.len
   match vs,hl with
   |[w],_=>
    have:[conc E0 w]=[v]:=c1;injection this
 ·cases ty with
  |cons a b=>exact c2
  |nil=>cases hb
  |_=>
   cases vs with
   |nil=>trivial
   |cons w r=>exact c2.1
theorem He(hsp:∀b,sp b=true){base:Nat}(hC:W.heap.size≤C):∀{DH:List Ty} {ts:List TypeId} {vs:List Value} {ds:List (DataW H)} {ps:List MemPlace},Pq P DH ts=true→DataW.TrodAll enc P W 0 sp held ts vs ds ps→
 (∀(j:Nat) t v,ts[j]?=some t→vs[j]?=some v→Value.okWide P W .any base t v)→(DH.any Ty.deep=true→ ∀a x,W.cell? a=some x→ON C x)→ ∃as0,aw E0 as0=vs∧fE (· <C) as0∧PO (cQ W C) C DH as0
 |[],[],[],ds,ps,hb,h,hv,hd=>⟨[],rfl,trivial,rfl⟩
 |[],[],_::_,ds,ps,hb,h,hv,hd=>by cases ds<;>cases h
 |[],_::_,vs,ds,ps,hb,h,hv,hd=>by cases hb
 |_::_,[],vs,ds,ps,hb,h,hv,hd=>by cases hb
 |ty::DH,t::ts,[],ds,ps,hb,h,hv,hd=>by cases ds<;>cases h
 |ty::DH,t::ts,v::vs,[],ps,hb,h,hv,hd=>by cases h
 |ty::DH,t::ts,v::vs,d::ds,ps,hb,h,hv,hd=>by
  have hb':(u9 P ty t&&Pq P DH ts)=true:=hb;rw[aD]at hb';obtain⟨p,q,h1,h2,_⟩:=h;obtain⟨ws,x,g1,g2,g3,_⟩:=b71 hsp hb'.1 h1 (hv 0 t v rfl rfl) hC (fun hh=>hd (by rw[List.any_cons,hh];rfl)) 0;obtain⟨as0,a1,a2,a3⟩:=He hsp hC hb'.2 h2 (fun j t v ht hv'=>hv (j+1) t v ht hv') (fun hh=>hd (by rw[List.any_cons,hh];simp));exact⟨ty.arg ws::as0,by rw[aw,g1,a1],⟨g2,a2⟩,ws,x,as0,rfl,g3,a3⟩
theorem C1{W':World}(hW:∀i,i<W.heap.size→W'.heap[i]?=W.heap[i]?):∀{DH:List Ty} {ts:List TypeId} {vs:List Value} {ds:List (DataW H)} {ps:List MemPlace},Pq P DH ts=true→
 DataW.TrodAll enc P W 0 (fun _=>true) held ts vs ds ps→DataW.TrodAll enc P W' 0 (fun b=>decide (b<W.heap.size)) held ts vs ds ps
 |[],[],[],[],ps,hb,h=>h
 |[],[],[],_::_,ps,hb,h=>by cases h
 |[],[],_::_,ds,ps,hb,h=>by cases ds<;>cases h
 |[],_::_,vs,ds,ps,hb,h=>by cases hb
 |_::_,[],vs,ds,ps,hb,h=>by cases hb
 |ty::DH,t::ts,[],ds,ps,hb,h=>by cases ds<;>cases h
 |ty::DH,t::ts,v::vs,[],ps,hb,h=>by cases h
 |ty::DH,t::ts,v::vs,d::ds,ps,hb,h=>by
  have hb':(u9 P ty t&&Pq P DH ts)=true:=hb;rw[aD]at hb';obtain⟨p,q,⟨fuel,h1⟩,h2,e⟩:=h;exact⟨p,q,⟨fuel,oe hW ty t _ fuel _ hb'.1 h1⟩,C1 hW hb'.2 h2,e⟩
theorem YE{W:World}{C:Nat}(hC:W.heap.size≤C)(hk:1000≤C):d9 (cQ W C) .e C:=by
 refine⟨fun _ _=>rfl,fun b hb=>?_,fun _ _=>rfl,hk⟩
 rw[iv,Array.getElem?_eq_none (by omega)];rfl
def ae6:Value→Nat
 | .slice (some a) 0 0=>BZ a+1
 |_=>0
theorem C6:∀l:List Value,∃B,∀x∈l,ae6 x≤B
 |[]=>⟨0,fun x hx=>by cases hx⟩
 |v::l=>by
  obtain⟨B,hB⟩:=C6 l;refine⟨max (ae6 v) B,fun x hx=>?_⟩;rcases bj.1 hx with rfl|hx
  ·exact Nat.le_max_left _ _
  ·exact bn (hB x hx) (Nat.le_max_right _ _)
theorem C5:∀l:List Obj,∃B,∀cs t f,Obj.cells cs t f∈l→ ∀x∈cs.toList,ae6 x≤B
 |[]=>⟨0,fun cs t f h=>by cases h⟩
 |o::l=>by
  obtain⟨B,hB⟩:=C5 l;obtain⟨B',hB'⟩:∃B',∀cs t f,o=Obj.cells cs t f→ ∀x∈cs.toList,ae6 x≤B':=by
   cases o with
   |cells cs t f=>
    obtain⟨B',h⟩:=C6 cs.toList;exact⟨B',fun cs' t' f' e=>by injection e with e1 e2 e3;subst e1;exact h⟩
   |_=>exact⟨0,fun cs t f e=>by cases e⟩
  refine⟨max B B',fun cs t f h x hx=>?_⟩;rcases bj.1 h with h|h
  ·exact bn (hB' cs t f h.symm x hx) (Nat.le_max_right _ _)
  ·exact bn (hB cs t f h x hx) (Nat.le_max_left _ _)
theorem bb0(W:World):∃C,1000≤C∧W.heap.size≤C∧ ∀a x,W.cell? a=some x→ON C x:=by
 obtain⟨B,hB⟩:=C5 W.heap.toList
 refine⟨max 1000 (max W.heap.size B),Nat.le_max_left _ _,bn (Nat.le_max_left _ _) (Nat.le_max_right _ _),fun a x hx=>?_⟩
 unfold World.cell? at hx
 split at hx
 ·rename_i cs t f hh;split at hx
  ·cases hx
  ·have hm:Obj.cells cs t f∈W.heap.toList:=by
    obtain⟨h1,h2⟩:=Array.getElem?_eq_some_iff.1 hh;rw[←h2];exact Array.getElem_mem_toList h1
   have hxm:x∈cs.toList:=by
    obtain⟨h1,h2⟩:=Array.getElem?_eq_some_iff.1 hx;rw[←h2];exact Array.getElem_mem_toList h1
   have hb:=hB cs t f hm x hxm;unfold ON;split
   ·rename_i a';have hb':BZ a'+1≤B:=hb;right;have:=Nat.le_max_right 1000 (max W.heap.size B);have:=Nat.le_max_right W.heap.size B;omega
   ·trivial
 ·cases hx
theorem Xq{F:RO}{M:Mem}{c:Nat}{vs:List V}{x:(Ty.sl (.int .u8)).D}(h:Rp F M c (.sl (.int .u8)) vs x):∃v,∃l:List UInt8,vs=[v]∧ov F M c v l∧l.length≤9223372036854775807:=by
 obtain⟨v,es,rfl,hs,hl,he,hr⟩:=h
 have key:∀(es:List (List V)) (xs:List Int),es.length=xs.length→(∀i (h:i<es.length) (h':i<xs.length),es[i]=[V.i .u8 xs[i]]∧IntKind.u8.min≤xs[i]∧xs[i]≤IntKind.u8.max)→ ∃l:List UInt8,es=l.map fun x=>[bV x]:=by
  intro es
  induction es with
  |nil=>intro xs _ _;exact⟨[],rfl⟩
  |cons e es ih=>
   intro xs hl h;cases xs with
   |nil=>cases hl
   |cons z xs=>
    obtain⟨l,rfl⟩:=ih xs (by simpa using hl) (fun i hi hi'=>h (i+1) (by simpa using hi) (by simpa using hi'));obtain⟨h1,h2,h3⟩:=h 0 (by simp) (by simp);simp only[List.getElem_cons_zero]at h1 h2 h3;have h2':0≤z:=h2;have h3':z≤255:=h3;refine⟨UInt8.ofNat z.toNat::l,?_⟩;rw[List.map_cons,h1]
    congr 1
    unfold bV;rw[UInt8.toNat_ofNat',Nat.mod_eq_of_lt (by omega)]
    congr 2
    omega
 obtain⟨l,rfl⟩:=key es x he hr
 refine⟨v,l,rfl,hs,?_⟩
 rw[List.length_map]at he
 have hl':List.length x≤2^63-1:=hl
 have:List.length x=l.length:=he.symm
 omega
end
section
variable{Φ:Nat→Option CF}{rd:Option Nat}{fn:Nat}{F:RO}
theorem At{α:Type}(v w:Option α):∀(t:Tr α) (k:Nat) (x:α),t.get k=some x→(t.put v k).put w k=t.put w k
 | .e,k,x,h=>by cases h
 | .n l y r,k,x,h=>by
   rw[Tr.put_n,Tr.put_n];rw[Tr.get_n]at h;by_cases h0:k=0
   ·rw[ac h0,ac h0,Tr.put_n,ac h0]
   ·rw[ab h0]at h;rw[ab h0,ab h0];by_cases h2:k%2=0
    ·rw[ac h2]at h;rw[ac h2,ac h2,Tr.put_n,ab h0,ac h2,At v w r _ x h]
    ·rw[ab h2]at h;rw[ab h2,ab h2,Tr.put_n,ab h0,ab h2,At v w l _ x h]
theorem ah3{M:Mem}{b:Nat}{x:bq}(h:M.get b=some x):(M.del b).set b x=M:=by
 show((M.put none b).put (some x) b)=M
 rw[At _ _ M b x h,qN x M b h]
theorem lX{M:Mem}(b:Nat):∀{F:RO},bF M F=true→bF (M.del b) F=true
 |[],_=>rfl
 |(b',x)::F,h=>by
  rw[fx,aD]at h;rw[fx,lX b h.2,Tr.get_del];split
  ·rfl
  ·rw[h.1];rfl
theorem gy(mask:Nat):∀(reads:List (Nat×Nat)) (F:RO) (M:Mem) (s:List (Nat×bq)),bF M F=true→ ∃F' M' s',bB mask reads F M s=Pr.mk F' M' s'∧bF M' F'=true∧b7 s' M'=b7 s M
 |[],F,M,s,h=>⟨F,M,s,rfl,h,rfl⟩
 |(i,b)::r,F,M,s,h=>by
  rw[bB];cases testBit mask i with
  |true=>exact gy mask r F M s h
  |false=>
   show∃F' M' s',(match M.get b with|none=>bB mask r F M s|some blk=>(M.del b).force fun M=>bB mask r ((b,blk)::F) M ((b,blk)::s))=Pr.mk F' M' s'∧_;cases hb:M.get b with
   |none=>exact gy mask r F M s h
   |some blk=>
    obtain⟨F',M',s',h1,h2,h3⟩:=gy mask r ((b,blk)::F) (M.del b) ((b,blk)::s) (by
     rw[fx,lX b h,Tr.get_del,ac rfl];rfl)
    refine⟨F',M',s',?_,h2,?_⟩
    ·show(M.del b).force (fun M=>bB mask r ((b,blk)::F) M ((b,blk)::s))=_;rw[Tr.force_eq];exact h1
    ·rw[h3];show((M.del b).set b blk).force (fun M=>b7 s M)=_;rw[Tr.force_eq,ah3 hb]
def H1(o:Option V)(p:Option aH)(base:Nat)(r:List (Nat×Nat×CO))(k:Kn)(t:T)(M:Mem)(c:Nat)(reads:List (Nat×Nat))(R:DS→Prop):Prop:=match o with
 |some v=>mz base r k (.mk (setT t p v) M c [] reads) R
 |none=>False
theorem cc2(v:V)(p:Option aH)(base:Nat)(r:List (Nat×Nat×CO))(k:Kn)(t:T)(M:Mem)(c:Nat)(reads:List (Nat×Nat))(R:DS→Prop):H1 (some v) p base r k t M c reads R=mz base r k (.mk (setT t p v) M c [] reads) R:=Eq.trans rfl (Eq.refl _)
theorem Nn{f:Nat}{h:List V→Option V}(base i mask:Nat)(dst:Option aH)(as0:List X)(r:List (Nat×Nat×CO))(t:T)(M:Mem)(c:Nat)(reads:List (Nat×Nat))(R:DS→Prop)(hf:Φ f=some (.orc (bg h)))(hM:bF M F=true)
 (hk:H1 (h (evs as0 t)) dst base r (K Φ rd fn F) t M c reads R):mz base ((i,mask,.mk dst (.e (.call f as0)) none)::r) (K Φ rd fn F) (.mk t M c [] reads) R:=by
 cases hv:h (evs as0 t)with
 |none=>rw[hv]at hk;exact hk.elim
 |some v=>
  rw[hv]at hk;rw[fR];refine⟨_,?_,hk⟩;obtain⟨F',M',s',h1,h2,h3⟩:=gy mask reads F M [] hM;show rK (.call f as0) (K Φ rd fn F) dst t c [] reads (bB mask reads F M [])=_;rw[h1];show(bif cz F' M' []then lM F' dst t [] reads s' (cu (iu Φ) F' f (evs as0 t) M' c (Φ f))else none)=_;rw[hf];show lM F' dst t [] reads s' (bg h F' (evs as0 t) M' c)=_;have:bg h F' (evs as0 t) M' c= .k v M' c:=by unfold bg;rw[hv]
  rw[this];show(bif bF M' F'&&cz F' M' []then(b7 s' M').force fun M=>(setT t dst v).force fun t=>some (DS.mk t M c [] reads)else none)=_;rw[h2];show(b7 s' M').force (fun M=>(setT t dst v).force fun t=>some (DS.mk t M c [] reads))=_;rw[Tr.force_eq,Tr.force_eq,h3];rfl
theorem cq3{base i mask:Nat}{dst:Option aH}{o:OK}{g:aH}{want:Bool}{r:List (Nat×Nat×CO)}{k:Kn}{t:T}{M:Mem}{c:Nat}{pend:List (Nat×Nat×bq)}{reads:List (Nat×Nat)}{R:DS→Prop}(hg:cq t g= .b want):
 mz base ((i,mask,.mk dst o (some (g,want)))::r) k (.mk t M c pend reads) R=mz base ((i,mask,.mk dst o none)::r) k (.mk t M c pend reads) R:=by
 have hw:wanted t (some (g,want))=true:=by
  show iN want (cq t g)=_;rw[hg];cases want<;>rfl
 have hs:ui k base (i,mask,.mk dst o (some (g,want))) (.mk t M c pend reads)=ui k base (i,mask,.mk dst o none) (.mk t M c pend reads):=by
  show(bif wanted t (some (g,want))then _ else _)=_;rw[hw];rfl
 apply propext
 rw[fR,fR,hs]
theorem cq2{base i mask:Nat}{dst:Option aH}{o:OK}{g:aH}{want:Bool}{r:List (Nat×Nat×CO)}{k:Kn}{t:T}{M:Mem}{c:Nat}{pend:List (Nat×Nat×bq)}{reads:List (Nat×Nat)}{R:DS→Prop}(hg:cq t g= .b (!want)):
 mz base ((i,mask,.mk dst o (some (g,want)))::r) k (.mk t M c pend reads) R=mz base r k (.mk (setT t dst undef) M c pend reads) R:=by
 have hw:wanted t (some (g,want))=false:=by
  show iN want (cq t g)=_;rw[hg];cases want<;>rfl
 have hs:ui k base (i,mask,.mk dst o (some (g,want))) (.mk t M c pend reads)=some (.mk (setT t dst undef) M c pend reads):=by
  show(bif wanted t (some (g,want))then _ else(setT t dst undef).force fun t=>some (DS.mk t M c pend reads))=_;rw[hw];show(setT t dst undef).force (fun t=>some (DS.mk t M c pend reads))=_;rw[Tr.force_eq]
 apply propext
 rw[fR,hs]
 constructor
 ·rintro⟨s',h,q⟩;obtain rfl:=af h;exact q
 ·exact fun q=>⟨_,rfl,q⟩
theorem cq4{base i mask:Nat}{dst:Option aH}{o:OK}{g:aH}{want:Bool}{r:List (Nat×Nat×CO)}{k:Kn}{t:T}{M:Mem}{c:Nat}{pend:List (Nat×Nat×bq)}{reads:List (Nat×Nat)}{R:DS→Prop}(hg:cq t g=undef):
 mz base ((i,mask,.mk dst o (some (g,want)))::r) k (.mk t M c pend reads) R=mz base r k (.mk (setT t dst undef) M c pend reads) R:=by
 have hw:wanted t (some (g,want))=false:=by
  show iN want (cq t g)=_;rw[hg];rfl
 have hs:ui k base (i,mask,.mk dst o (some (g,want))) (.mk t M c pend reads)=some (.mk (setT t dst undef) M c pend reads):=by
  show(bif wanted t (some (g,want))then _ else(setT t dst undef).force fun t=>some (DS.mk t M c pend reads))=_;rw[hw];show(setT t dst undef).force (fun t=>some (DS.mk t M c pend reads))=_;rw[Tr.force_eq]
 apply propext
 rw[fR,hs]
 constructor
 ·rintro⟨s',h,q⟩;obtain rfl:=af h;exact q
 ·exact fun q=>⟨_,rfl,q⟩
theorem bf0(n:Nat)(b o:Nat)(M:Mem){vs:List V}(h:loadN F M b o n=some vs)(t:T)(x:X)(hx:x.ev t= .p b o):oB (.ldn n x) F M t= .r (.g vs) b:=by
 have hblk:∃blk,look F M b=some blk:=by
  unfold loadN at h;cases hl:look F M b with
  |none=>rw[hl]at h;cases h
  |some blk=>exact⟨blk,rfl⟩
 obtain⟨blk,hb⟩:=hblk
 have q:∀F' M',loadN F' M' b o n=some vs→cS (.ldn n x) F' M' t= .r (.g vs) b:=by
  intro F' M' h';show(rX (x.ev t) .f fun b o=>qgb b (loadN F' M' b o n))=_;rw[hx];show qgb b (loadN F' M' b o n)=_;rw[h'];rfl
 show O6 (.ldn n x) F M t (cS (.ldn n x) F M t)=_
 rw[q F M h]
 show ah2 (.ldn n x) t b (look F M b)=_
 rw[hb]
 show Mw b (cS (.ldn n x) [(b,blk)] .e t)=_
 have h':loadN [(b,blk)] .e b o n=some vs:=by
  unfold loadN at h⊢;rw[hb]at h;rw[aC (show(Tr.e:Mem).get b=none from rfl),cM,ac rfl];exact h
 rw[q _ _ h'];rfl
def bV7(n:Nat)(X:V)(F:RO)(M:Mem):QR:=oB (.ldn n (.c X)) F M .e
def bV8(b:Nat):Option (List V)→QR
 |some vs=> .r (.g vs) b
 |none=> .f
theorem Oy(b:Nat)(vs:List V):bV8 b (some vs)= .r (.g vs) b:=Eq.trans rfl (Eq.refl _)
theorem ah6(n:Nat)(x:X)(M:Mem)(t:T):oB (.ldn n x) F M t=bV7 n (x.ev t) F M:=Eq.trans rfl (Eq.refl _)
theorem be9(n b o:Nat)(M:Mem):bV7 n (.p b o) F M=bV8 b (loadN F M b o n):=by
 cases h:loadN F M b o n with
 |some vs=>exact bf0 n b o M h .e _ rfl
 |none=>
  show O6 (.ldn n (.c (.p b o))) F M .e (qgb b (loadN F M b o n))=_;rw[h];rfl
theorem bP4(c a b:X)(M:Mem)(t:T):oB (.pk c a b) F M t=oV (pkV (c.ev t) (a.ev t) (b.ev t)):=by
 refine(gO ?_).trans (congrArg oV (cj9 (F:=F) c a b M t))
 intro F' M'
 show(LX (c.ev t) QR.f fun x=>Bool.rec (motive:=fun _=>QR) (.v (b.ev t)) (.v (a.ev t)) x)=oV (LX (c.ev t) QR.f fun x=>Bool.rec (motive:=fun _=>QR) (.v (b.ev t)) (.v (a.ev t)) x).val
 cases c.ev t with
 |b x=>cases x<;>rfl
 |_=>rfl
theorem bP5(op:UnOp)(x:X)(M:Mem)(t:T):oB (.un op x) F M t=oV (unV op (x.ev t)):=by
 refine(gO ?_).trans (congrArg oV (ck0 (F:=F) op x M t))
 intro F' M'
 refine lc ?_
 show(cS (.un op x) F' M' t= .f∨_)
 cases op with
 |neg=>
  show((wg (x.ev t) QR.f fun k n=>vI k (wr k (Int.sub 0 n)))= .f∨ ∃y,(wg (x.ev t) QR.f fun k n=>vI k (wr k (Int.sub 0 n)))= .v y);cases x.ev t with
  |i k n=>exact .inr ⟨_,dW _ _⟩
  |_=>exact .inl rfl
 |not=>
  show((LX (x.ev t) QR.f fun b=>vB (rV b))= .f∨ ∃y,(LX (x.ev t) QR.f fun b=>vB (rV b))= .v y);cases x.ev t with
  |b b=>exact .inr ⟨_,nH _⟩
  |_=>exact .inl rfl
 |xor=>
  show((wg (x.ev t) QR.f fun k n=>km k (Nat.xor (Nat.sub (Nat.pow 2 (kF k)) 1) (toU k n)))= .f∨ ∃y,(wg (x.ev t) QR.f fun k n=>km k (Nat.xor (Nat.sub (Nat.pow 2 (kF k)) 1) (toU k n)))= .v y);cases x.ev t with
  |i k n=>exact .inr ⟨_,dW _ _⟩
  |_=>exact .inl rfl
 |plus=>exact .inl rfl
def wE:Sh→Bool
 | .ptr=>false
 | .agg _=>false
 |_=>true
def tk:List (Nat×Sh)→Bool
 |[]=>true
 |(_,s)::r=>wE s&&tk r
def Pg:Sh→Bool
 | .ptr=>false
 | .agg ks=>tk ks
 |_=>true
theorem XU{sh:Sh}(h:wE sh=true)(F':RO)(M M':Mem)(lit:Bool)(x y:V):La F' M' sh lit x y=La F M sh lit x y:=by
 cases sh<;>first|rfl|cases h
theorem vt(F':RO)(M M':Mem)(xs ys:List V):∀{ks:List (Nat×Sh)},tk ks=true→mp F' M' xs ys ks=mp F M xs ys ks
 |[],_=>rfl
 |(o,s)::r,h=>by
  have h':(wE s&&tk r)=true:=h;rw[aD]at h';rw[pq,pq,vt F' M M' xs ys h'.2]
  congr 1
  cases xs[o]? with
  |none=>rfl
  |some x=>
   cases ys[o]? with
   |none=>rfl
   |some y=>exact XU h'.1 F' M M' false x y
theorem XX{sh:Sh}(h:Pg sh=true)(F':RO)(M M':Mem)(lit:Bool)(x y:V):xB F' M' sh lit x y=xB F M sh lit x y:=by
 cases sh with
 |agg ks=>
  show yD F' M' ks x y=yD F M ks x y;unfold yD;cases x<;>first|rfl|skip
  cases y<;>first|rfl|skip
  exact vt F' M M' _ _ h
 |ptr=>cases h
 |_=>rfl
theorem bP0(neg:Bool)(sh:Sh)(lit:Bool)(x y:X)(M:Mem)(t:T)(h:Pg sh=true):oB (.eq neg sh lit x y) F M t=oV (am0 neg (xB F M sh lit (x.ev t) (y.ev t))):=by
 refine(gO ?_).trans (congrArg oV (cj0 (F:=F) neg sh lit x y M t))
 intro F' M'
 show zg neg (xB F' M' sh lit (x.ev t) (y.ev t))=oV (zg neg (xB [] .e sh lit (x.ev t) (y.ev t))).val
 rw[XX (F:=[]) h F' .e M']
 refine lc ?_
 cases xB [] .e sh lit (x.ev t) (y.ev t)with
 |none=>exact .inl rfl
 |some r=>exact .inr ⟨_,nH _⟩
theorem Ze(ks:List (Nat×Sh)):Pg (.agg ks)=tk ks:=rfl
theorem Pk:tk []=true:=Eq.trans rfl (Eq.refl _)
theorem FO(o:Nat)(s:Sh)(r:List (Nat×Sh)):tk ((o,s)::r)=(wE s&&tk r):=rfl
theorem Ph:wE .int=true:=Eq.trans rfl (Eq.refl _)
theorem FN:wE .bool=true:=Eq.trans rfl (Eq.refl _)
theorem Pi:wE .str=true:=Eq.trans rfl (Eq.refl _)
theorem Zf:Pg .int=true:=Eq.trans rfl (Eq.refl _)
theorem Pj:Pg .bool=true:=Eq.trans rfl (Eq.refl _)
theorem Zg:Pg .str=true:=Eq.trans rfl (Eq.refl _)
theorem XW(lit:Bool)(M:Mem)(a b:Bool):xB F M .bool lit (.b a) (.b b)=some (decide (a=b)):=Ci (F:=F) lit M a b
theorem bP2(off:Nat)(x:X)(M:Mem)(t:T):oB (.fa off x) F M t=oV (match x.ev t with| .p b o=>some (.p b (o+off))|_=>none):=by
 refine(gO ?_).trans (congrArg oV (cj2 (F:=F) off x M t))
 intro F' M'
 refine lc ?_
 show((rX (x.ev t) QR.f fun b o=>uo b (Nat.add o off))= .f∨ ∃y,(rX (x.ev t) QR.f fun b o=>uo b (Nat.add o off))= .v y)
 cases x.ev t with
 |p b o=>exact .inr ⟨.p b (o+off),by show uo b (o+off)=_;unfold uo;rw[aN]⟩
 |_=>exact .inl rfl
theorem bc3(x:X)(M:Mem)(t:T):oB (.ln .slice x) F M t=oV (oD (x.ev t)):=by
 refine(gO ?_).trans (congrArg oV ((bk1 (F:=F) .slice x M t).trans (bW1 (F:=F) M _)))
 intro F' M'
 refine lc ?_
 show(Mn (Ff (x.ev t))= .f∨ ∃y,Mn (Ff (x.ev t))= .v y)
 cases Ff (x.ev t)with
 |none=>exact .inl rfl
 |some n=>exact .inr ⟨_,rfl⟩
theorem bc4(x:X)(M:Mem)(t:T):oB (.ln .str x) F M t=oV (lnV .str F M (x.ev t)):=by
 refine(gO ?_).trans (congrArg oV (bk1 (F:=F) .str x M t))
 intro F' M'
 refine lc ?_
 show((oT (x.ev t) QR.f fun n _=> .v (.i .i64 (.ofNat n)))= .f∨ ∃y,(oT (x.ev t) QR.f fun n _=>QR.v (.i .i64 (.ofNat n)))= .v y)
 cases x.ev t with
 |s n x=>exact .inr ⟨_,rfl⟩
 |_=>exact .inl rfl
theorem bc0(x i:X)(M:Mem)(t:T):oB (.ixS x i) F M t=oV (rP (x.ev t) (i.ev t)):=by
 refine(gO ?_).trans (congrArg oV (b27 (F:=F) x i M t))
 intro F' M'
 refine lc ?_
 show((oT (x.ev t) QR.f fun n s=>Option.rec (motive:=fun _=>QR) .f (fun i=>np n s i) (oA (i.ev t)))= .f∨ ∃y,(oT (x.ev t) QR.f fun n s=>Option.rec (motive:=fun _=>QR) .f (fun i=>np n s i) (oA (i.ev t)))= .v y)
 cases x.ev t with
 |s n x=>
  show(Option.rec (motive:=fun _=>QR) .f (fun i=>np n x i) (oA (i.ev t))= .f∨ ∃y,(Option.rec (motive:=fun _=>QR) .f (fun i=>np n x i) (oA (i.ev t)):QR)= .v y);cases oA (i.ev t)with
  |none=>exact .inl rfl
  |some k=>
   show(Bool.rec (motive:=fun _=>QR) .f (fN (Nat.mod (Nat.div x (j8 k)) 256) fun c=> .v (.i .u8 (.ofNat c))) (Nat.blt k n)= .f∨ ∃y,(Bool.rec (motive:=fun _=>QR) .f (fN (Nat.mod (Nat.div x (j8 k)) 256) fun c=> .v (.i .u8 (.ofNat c))) (Nat.blt k n):QR)= .v y);cases Nat.blt k n with
   |false=>exact .inl rfl
   |true=>exact .inr ⟨_,by show fN _ _=_;rw[aN]⟩
 |_=>exact .inl rfl
def uO(u:List (Option V))(i:Nat):Option V:=(u[i]?).join
def nw(I:Nat→St→Prop)(n:Nat)(Q:Ex→St→Prop):Ex→St→Prop
 | .nrm,s=>∃m,m<n∧I m s
 |e,s=>Q e s
theorem FI(I:Nat→St→Prop)(n:Nat)(Q:Ex→St→Prop)(s:St):nw I n Q .nrm s=∃m,m<n∧I m s:=Eq.trans rfl (Eq.refl _)
theorem FJ(I:Nat→St→Prop)(n:Nat)(Q:Ex→St→Prop)(s:St):nw I n Q .ret s=Q .ret s:=Eq.trans rfl (Eq.refl _)
theorem FH(I:Nat→St→Prop)(n:Nat)(Q:Ex→St→Prop)(s:St)(id:Nat):nw I n Q (.ext id) s=Q (.ext id) s:=Eq.trans rfl (Eq.refl _)
theorem bG{b:CC}{Q:Ex→St→Prop}(I:Nat→St→Prop)(h:∀n s,I n s→Wp b (K Φ rd fn F) s (nw I n Q)):∀n s,I n s→Wp (.loop b) (K Φ rd fn F) s Q:=
 Pv I fun n s hs=>(h n s hs).mono fun e s' he=>by cases e<;>exact he
end
section
variable{Φ:Nat→Option CF}{rd:Option Nat}{fn:Nat}{F:RO}
theorem sm{M:Mem}{b o ty n fz:Nat}{ex str:Bool}{d vs:List V}{t:T}(hM:M.get b=some (.cells ty n ex fz str d t))(h1:o+vs.length≤n)(h2:fz≤o)(h3:bv vs=true):
 cC M b o vs=some (M.set b (.cells ty n ex fz str d (aW vs o t))):=by
 show Option.rec (motive:=fun _=>Option Mem) none (fun blk=>o8 M b o vs blk) (M.get b)=_
 rw[hM]
 show(Bool.rec (motive:=fun _=>Option Mem) none (Bool.rec (motive:=fun _=>Option Mem) none (Bool.rec (motive:=fun _=>Option Mem) none (fy M b o vs ty n ex fz str d t) (bv vs)) (Nat.ble fz o)) (Nat.ble (Nat.add o vs.length) n))=_
 rw[bb,bb,bb,bL,bL,ae (show Nat.add o vs.length≤n from h1),ae h2,h3]
 simp only[if_true]
 unfold fy
 rw[Tr.force_eq,Tr.force_eq]
def cR4(M:Mem)(c0 c b ty sz cap:Nat)(v:V)(es:List (List V)):Prop:=
 (∀e∈es,e.length=sz)∧es.length≤cap∧c0≤b∧b<c∧v= .l b 0 es.length cap∧ ∃d t,M.get b=some (.cells ty (cap*sz) true 0 false d t)∧ ∀k,k<es.flatten.length→cell (cap*sz) d t k=es.flatten[k]?
theorem Qk(ty sz bytes:Nat)(zero:List V)(l c:X)(b:Nat)(t:T){k k':IntKind}{n m:Nat}(hl:l.ev t= .i k (n:Int))(hc:c.ev t= .i k' (m:Int))(h1:n≤m)(h2:m*(bytes+1)≤1099511627776):
 kl (.mks ty sz bytes zero l c) b t=some (.l b 0 n m,.cells ty (m*sz) true 0 false zero .e):=by
 show zQ ty sz bytes zero b (oA (l.ev t)) (oA (c.ev t))=_
 rw[hl,hc]
 show(bif Nat.ble n m&&Nat.ble (Nat.mul m (Nat.succ bytes)) 1099511627776 then fN (Nat.mul m sz) fun m'=>some (V.l b 0 n m,bq.cells ty m' true 0 false zero .e)else none)=_
 rw[bL,bL,ae h1,ae (show Nat.mul m (Nat.succ bytes)≤1099511627776 from h2)]
 show fN (m*sz) (fun m'=>some (V.l b 0 n m,bq.cells ty m' true 0 false zero .e))=_
 rw[aN]
def bW6(ty sz bytes:Nat)(zero:List V)(l c:V)(b:Nat):Option (V×bq):=kl (.mks ty sz bytes zero (.c l) (.c c)) b .e
theorem ad4(ty sz bytes:Nat)(zero:List V)(l c:X)(b:Nat)(t:T):kl (.mks ty sz bytes zero l c) b t=bW6 ty sz bytes zero (l.ev t) (c.ev t) b:=Eq.trans rfl (Eq.refl _)
theorem bf5(ty sz bytes:Nat)(zero:List V)(k k':IntKind)(n m b:Nat)(h1:n≤m)(h2:m*(bytes+1)≤1099511627776):bW6 ty sz bytes zero (.i k (n:Int)) (.i k' (m:Int)) b=some (.l b 0 n m,.cells ty (m*sz) true 0 false zero .e):=Qk ty sz bytes zero _ _ b .e rfl rfl h1 h2
def bB9(F:RO)(M:Mem)(lo c sz:Nat)(v:V)(es:List (List V)):Prop:=∀M':Mem,(∀b,lo≤b→b<c→M'.get b=M.get b)→cj F M' c sz v es
theorem aQ.own{M:Mem}{c0 c b ty sz:Nat}{v:V}{es:List (List V)}(h:aQ M c0 c b ty sz v es):bB9 F M c0 c sz v es:=by
 intro M' hM
 refine aQ.sl (c0:=c0) (b:=b) (ty:=ty) (M:=M') ?_
 rcases h with⟨h0,h|⟨h1,h2,rfl,h3⟩⟩
 ·exact⟨h0,.inl h⟩
 ·exact⟨h0,.inr ⟨h1,h2,rfl,by rw[hM b h1 h2];exact h3⟩⟩
theorem d9.put{M:Mem}{c b:Nat}{x y:bq}(h:d9 F M c)(hb:b<c)(hx:M.get b=some x):d9 F (M.set b y) c:=by
 refine⟨fun b' hb'=>?_,h.hiF,fun b' hb'=>?_,h.ge⟩
 ·rw[aK _ _ (by omega)];exact h.hiM b' hb'
 ·have:b'≠b:=by
   intro e;subst e;rw[h.ap b' hb']at hx;cases hx
  rw[aK _ _ this];exact h.ap b' hb'
theorem bf{M:Mem}{b ty:Nat}{l:List V}(h:M.get b=some (ax ty l))(o:Nat)(vs:List V)(h1:o+vs.length≤l.length)(h2:bv vs=true):cC M b o vs=some (M.set b (ax ty (over l o vs))):=by
 have:=kI M b o ty l vs h1 h2
 rwa [←qW h]at this
theorem aj{M:Mem}{b ty:Nat}{l:List V}(h:M.get b=some (ax ty l))(o:Nat):load1 F M b o=l[o]?:=by
 rw[qW h];exact vV M b o ty l
theorem bQ{M:Mem}{b ty:Nat}{l:List V}(h:M.get b=some (ax ty l))(n:Nat)(hn:l.length=n):loadN F M b 0 n=some l:=by
 rw[qW h,vW M b 0 n ty l (by omega),List.drop_zero,←hn,List.take_length]
theorem Pu(a b:CC)(k:Kn)(t:T)(d:List Nat)(M:Mem)(c:Nat)(Q:Ex→St→Prop):Wp (.cond (.c (.b true)) a b) k (.mk t d M c) Q=Wp a k (.mk t d M c) Q:=Dn rfl
theorem Pt(a b:CC)(k:Kn)(t:T)(d:List Nat)(M:Mem)(c:Nat)(Q:Ex→St→Prop):Wp (.cond (.c (.b false)) a b) k (.mk t d M c) Q=Wp b k (.mk t d M c) Q:=Dm rfl
end
theorem ai{a b:Prop}(x:a)(y:b):a∧b:=⟨x,y⟩
def WL:=ai @au8 (ai @Xi (ai @yp (ai @b06 (ai @FG (ai @fx (ai @aK (ai @Tr.get_e (ai @Ae (ai @XN (ai @An (ai @bx4 (ai @cM7 (ai @bh3 (ai @bh2 (ai @am4 (ai @bP3 (ai @bO9 (ai @bb8 (ai @bH8 (ai @bP1 (ai @bc1 (ai @bV6 (ai @Yq (ai @bb9 (ai @cj5 (ai @bW1 (ai @b02 (ai @Yt (ai @fv (ai @Yu (ai @be (ai @Zb (ai @Zc (ai @Za (ai @bx6 (ai @bx7 (ai @av0 (ai @au9 (ai @a06 (ai @Et (ai @Eu (ai @Es (ai @OD (ai @OE (ai @OC (ai @bx5 (ai @cN2 (ai @cN0 (ai @cN1 (ai @cr3 (ai @cq8 (ai @cq7 (ai @cq9 (ai @Dn (ai @Dm (ai @cH3 (ai @cH1 (ai @cH2 (ai @cc3 (ai @lh (ai @Pf (ai @cL6 (ai @cj9 (ai @cc0 (ai @cb9 (ai @bk0 (ai @eF (ai @b90 (ai @b88 (ai @b89 (ai @b87 (ai @En (ai @b91 (ai @ck0 (ai @bj7 (ai @bk1 (ai @lnS (ai @b27 (ai @cj6 (ai @cj7 (ai @bV5 (ai @bW0 (ai @vV (ai @cj2 (ai @ai2 (ai @ai9 (ai @av6 (ai @O3 (ai @ev_t (ai @ev_c (ai @aj3 (ai @XZ (ai @Tr.setP_h (ai @Tr.setP_l (ai @Tr.setP_r (ai @be3 (ai @be5 (ai @be4 (ai @be6 (ai @XS (ai @XT (ai @cz9 (ai @P7 (ai @bi2 (ai @EF (ai @YG (ai @YH (ai @Bool.not_true (ai @Bool.not_false (ai @Bool.false_eq_true (ai @Bool.true_eq_false (ai @decide_true (ai @decide_false (ai @YN (ai @YC (ai @Of (ai @Oi (ai @Om (ai @Ol (ai @F2 (ai @Oj (ai @On (ai @EY (ai @Ok (ai @EZ (ai @Og (ai @EX (ai @Oh (ai @pf (ai @dh (ai @ak3 (ai @Af (ai @ak8 (ai @ak7 (ai @Yh (ai @ak5 (ai @ak9 (ai @Yg (ai @ak6 (ai @ak4 (ai @Yf (ai @Bool.and_true (ai @Bool.true_and (ai @aj2 (ai @Cm (ai @Od (ai @vw (ai @qI (ai @fJ (ai @Nat.zero_add (ai @and_self (ai @and_true (ai @true_and (ai @b26 (ai @pJ (ai @cj3 (ai @cj4 (ai @cj1 (ai @ci9 (ai @NR (ai @Oa (ai @O9 (ai @pq (ai @bf9 (ai @bg0 (ai @cj0 (ai @ai6 (ai @ai7 (ai @ai5 (ai @Ci (ai @b53 (ai @L0 (ai @cj8 (ai @ap0 (ai @ao9 (ai @CB (ai @Yv (ai @vW (ai @kI (ai @FR (ai @OI (ai @ac9 (ai @ad3 (ai @ZC (ai @Fa (ai @al8 (ai @al9 (ai @bf8 (ai @Nat.add_assoc (ai @a08 (ai @b29 (ai @cL3 (ai @ad1 (ai @XY (ai @rM (ai @Ft (ai @nn (ai @NZ (ai @b30 (ai @bf1 (ai @gk (ai @pi (ai @Lb (ai @ai8 (ai @cq3 (ai @cq2 (ai @cq4 (ai @ah6 (ai @be9 (ai @Oy (ai @bP4 (ai @bc3 (ai @bc4 (ai @bc0 (ai @bP5 (ai @bP0 (ai @Ze (ai @Pk (ai @FO (ai @Ph (ai @FN (ai @Pi (ai @XW (ai @Zf (ai @Pj (ai @Zg (ai @bP2 (ai @cc2 (ai @ad4 (ai @Pu (ai @Pt (ai @FI (ai @FJ (ai @FH (ai @decide_eq_true_eq (ai @or_self (ai @or_true (ai @or_false (ai @true_or (ai @false_or (ai @and_false (@false_and))))))))))))))))))))))))))))))))))))))))))))))))))))))))))))))))))))))))))))))))))))))))))))))))))))))))))))))))))))))))))))))))))))))))))))))))))))))))))))))))))))))))))))))))))))))))))))))))))))))))))))))))))))))))))))))))))))))))))))))))))
def WM:=ai @cond_true.{1} (ai @cond_false.{1} (ai @List.getElem?_cons_zero.{0} (ai @List.getElem?_cons_succ.{0} (ai @Option.getD_some.{0} (ai @if_true.{1} (ai @if_false.{1} (ai @ite_true.{1} (ai @ite_false.{1} (ai @List.set_cons_zero.{0} (ai @List.set_cons_succ.{0} (ai @List.length_cons.{0} (ai @List.length_nil.{0} (ai @List.nil_append.{0} (ai @List.append_nil.{0} (ai @List.cons_append.{0} (ai @List.drop_zero.{0} (ai @List.take_succ_cons.{0} (ai @List.take_zero.{0} (ai @List.take_nil.{0} (ai @List.drop_succ_cons.{0} (ai @Option.map_some.{0,0} (ai @Option.isSome_some.{0} (@Option.map_none.{0,0})))))))))))))))))))))))
def WX:=ai @WL @WM
end
end Go.Proofs.YtdnddpmjnlagfaaGreatDoor.Ev
