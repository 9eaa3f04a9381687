/- What is proved here: pieces of the evaluator's soundness: if the evaluator comes to a value, the model's run comes to it, for every world and tape; no conditions beyond the hypotheses of each theorem. -/
import Derived.Test.YtmjeiphepinphaaGreatDoorEv3
import GoSem.ClaimChange
set_option linter.unusedSimpArgs false
set_option linter.unusedVariables false
set_option linter.defProp false
set_option maxRecDepth 100000
namespace Go.Proofs.YtmjeiphepinphaaGreatDoor.Ev
open Go
noncomputable section
section
variable{Φ:Nat→Option CF}{rd:Option Nat}{fn:Nat}{F:RO}
def xe(o:RC)(P:V→Mem→Nat→Prop):Prop:=∃v M' c',o= .k v M' c'∧P v M' c'
theorem xe.mono{o:RC}{P P':V→Mem→Nat→Prop}(h:xe o P)(hp:∀v M' c',P v M' c'→P' v M' c'):xe o P':=by
 obtain⟨v,M',c',e,h⟩:=h
 exact⟨v,M',c',e,hp v M' c' h⟩
abbrev Calls(Φ:Nat→Option CF)(F:RO)(f:Nat)(args:List V)(M:Mem)(c:Nat)(P:V→Mem→Nat→Prop):Prop:=xe (fc (mK Φ) F f args M c (Φ f)) P
theorem aq{f n:Nat}{res:List RV}{body:CC}{args:List V}{M:Mem}{c:Nat}{P:V→Mem→Nat→Prop}(hf:Φ f=some (.mk n res body))
 (h:Wp body (K Φ none f F) (.mk (aN n args) [] M c) (nB F res P)):Calls Φ F f args M c P:=y8 hf h
theorem DZ{f:Nat}{g:List V→Option V}{args:List V}{v:V}{M:Mem}{c:Nat}{P:V→Mem→Nat→Prop}(hf:Φ f=some (.orc (ah g)))(hg:g args=some v)(h:P v M c):Calls Φ F f args M c P:=by
 refine⟨v,M,c,?_,h⟩
 rw[hf]
 show ah g F args M c=_
 unfold ah
 rw[hg]
theorem aC{o:RC}{p:aF}{r:List CO}{k:Kn}{t:T}{d:List Nat}{R:St→Prop}(h:xe o fun v M' c'=>ph r k (.mk (t.setP p v) d M' c') R):br8 o p r k t d R:=by
 obtain⟨v,M',c',e,h⟩:=h
 rw[e];exact h
theorem Cb{o:RC}{p:Option aF}{base:Nat}{r:List (Nat×Nat×CO)}{k:Kn}{t:T}{reads:List (Nat×Nat)}{R:DS→Prop}
 (h:xe o fun v M' c'=>bz M' F=true∧pK base r k (.mk (setT t p v) M' c' [] reads) R):G8 o F p base r k t reads R:=by
 obtain⟨v,M',c',e,h⟩:=h
 rw[e];exact h
structure dH(F:RO)(M:Mem)(c:Nat):Prop where
 hiM:∀b,c≤b→M.get b=none
 hiF:∀b,c≤b→be F b=none
 ap:∀b,(be F b).isSome→M.get b=none
 ge:1000≤c
structure Gr(c:Nat)(M:Mem)(c':Nat)(M':Mem):Prop where
 le:c≤c'
 old:∀b,b<c→M'.get b=M.get b
 new:∀b,c'≤b→M'.get b=none
theorem sZ(M:Mem):∀F:RO,(∀b,(be F b).isSome→M.get b=none)→bz M F=true
 |[],_=>rfl
 |(b,x)::F,h=>by
  rw[gp,h b (by
   show(Bool.rec (motive:=fun _=>Option bw) (be F b) (some x) (Nat.beq b b)).isSome=true;rw[Nat.beq_refl];rfl)]
  rw[sZ M F fun b' hb'=>h b' (by
   show(Bool.rec (motive:=fun _=>Option bw) (be F b') (some x) (Nat.beq b b')).isSome=true;cases Nat.beq b b' with
   |true=>rfl
   |false=>exact hb')]
  rfl
theorem dH.free{M:Mem}{c:Nat}(h:dH F M c):bz M F=true:=sZ M F h.ap
theorem dH.look{M:Mem}{c:Nat}(h:dH F M c){b:Nat}(hb:c≤b):look F M b=none:=by
 rw[aM (h.hiM b hb),h.hiF b hb]
theorem Gr.refl{M:Mem}{c:Nat}(h:dH F M c):Gr c M c M:=⟨ak _,fun _ _=>rfl,h.hiM⟩
theorem Gr.trans{M M1 M2:Mem}{c c1 c2:Nat}(h:Gr c M c1 M1)(h2:Gr c1 M1 c2 M2):Gr c M c2 M2:=
 ⟨bp h.le h2.le,fun b hb=>(h2.old b (Nat.lt_of_lt_of_le hb h.le)).trans (h.old b hb),h2.new⟩
theorem Gr.ok{M M1:Mem}{c c1:Nat}(h:Gr c M c1 M1)(ho:dH F M c):dH F M1 c1:=by
 refine⟨h.new,fun b hb=>ho.hiF b (bp h.le hb),fun b hb=>?_,bp ho.ge h.le⟩
 have:b<c:=by
  by_cases hc:b<c
  ·exact hc
  ·rw[ho.hiF b (by omega)]at hb;cases hb
 rw[h.old b this];exact ho.ap b hb
theorem Gr.set{M M1:Mem}{c c1 c2:Nat}(h:Gr c M c1 M1)(b:Nat)(x:bw)(h1:c≤b)(h2:b<c2)(h3:c1≤c2):Gr c M c2 (M1.set b x):=by
 refine⟨bp h.le h3,fun b' hb'=>?_,fun b' hb'=>?_⟩
 ·rw[am _ _ (by omega)];exact h.old b' hb'
 ·rw[am _ _ (by omega)];exact h.new b' (by omega)
theorem Gr.del{M M1:Mem}{c c1:Nat}(h:Gr c M c1 M1)(b:Nat)(h1:c≤b):Gr c M c1 (M1.del b):=by
 refine⟨h.le,fun b' hb'=>?_,fun b' hb'=>?_⟩
 ·rw[Tr.get_del,ab (by omega)];exact h.old b' hb'
 ·rw[Tr.get_del];split
  ·rfl
  ·exact h.new b' hb'
theorem Gr.up{M M1:Mem}{c c1 c2:Nat}(h:Gr c M c1 M1)(h3:c1≤c2):Gr c M c2 M1:=
 ⟨bp h.le h3,h.old,fun b hb=>h.new b (by omega)⟩
theorem Gr.look{M M1:Mem}{c c1:Nat}(h:Gr c M c1 M1){b:Nat}(hb:b<c):look F M1 b=look F M b:=eb (h.old b hb)
theorem Gr.load1{M M1:Mem}{c c1:Nat}(h:Gr c M c1 M1){b:Nat}(hb:b<c)(o:Nat):load1 F M1 b o=load1 F M b o:=by
 unfold Ev.load1;rw[h.look hb]
theorem Gr.loadN{M M1:Mem}{c c1:Nat}(h:Gr c M c1 M1){b:Nat}(hb:b<c)(o n:Nat):loadN F M1 b o n=loadN F M b o n:=by
 unfold Ev.loadN;rw[h.look hb]
theorem rv{α:Type}(v:α):∀(t:Tr α) (k:Nat),t.get k=some v→t.put (some v) k=t
 | .e,k,h=>by cases h
 | .n l x r,k,h=>by
   rw[Tr.put_n];rw[Tr.get_n]at h;by_cases h0:k=0
   ·rw[ac h0]at h⊢;rw[h]
   ·rw[ab h0]at h⊢;by_cases h2:k%2=0
    ·rw[ac h2]at h⊢;rw[rv v r _ h]
    ·rw[ab h2]at h⊢;rw[rv v l _ h]
theorem rE{M:Mem}{b:Nat}{x:bw}(h:M.get b=some x):M=M.set b x:=(rv x M b h).symm
def j9(F:RO)(M:Mem)(b:Nat)(row:List V):Prop:=∃ty ex fz str d c,look F M b=some (.cells ty row.length ex fz str d c)∧ ∀i,i<row.length→cell row.length d c i=row[i]?
theorem j9.load1{M:Mem}{b:Nat}{row:List V}(h:j9 F M b row)(o:Nat):load1 F M b o=row[o]?:=by
 obtain⟨ty,ex,fz,str,d,c,hl,hc⟩:=h
 unfold Ev.load1
 rw[hl]
 show cell row.length d c o=_
 by_cases ho:o<row.length
 ·exact hc o ho
 ·rw[cN,ab ho,List.getElem?_eq_none (by omega)]
theorem vp{d:List V}{c:T}{row:List V}(hc:∀i,i<row.length→cell row.length d c i=row[i]?):∀(n i:Nat),i+n≤row.length→fe row.length d c n i=some ((row.drop i).take n)
 |0,i,h=>by rw[qP];simp
 |n+1,i,h=>by
  rw[jh,hc i (by omega),List.getElem?_eq_getElem (by omega)];show(match fe row.length d c n (i+1)with|none=>none|some r=>some (row[i]::r))=_;rw[vp hc n (i+1) (by omega)];simp only;rw[←List.getElem_cons_drop (by omega:i<row.length),List.take_succ_cons]
theorem j9.loadN{M:Mem}{b:Nat}{row:List V}(h:j9 F M b row)(o n:Nat)(hn:o+n≤row.length):loadN F M b o n=some ((row.drop o).take n):=by
 obtain⟨ty,ex,fz,str,d,c,hl,hc⟩:=h
 unfold Ev.loadN
 rw[hl]
 exact vp hc n o hn
theorem j9.grow{M M':Mem}{b c c':Nat}{row:List V}(h:j9 F M b row)(hg:Gr c M c' M')(hb:b<c):j9 F M' b row:=by
 obtain⟨ty,ex,fz,str,d,cs,hl,hc⟩:=h
 exact⟨ty,ex,fz,str,d,cs,by rw[hg.look hb];exact hl,hc⟩
theorem j9.ne{M:Mem}{b b':Nat}{x:bw}{row:List V}(h:j9 F M b row)(hb:b≠b'):j9 F (M.set b' x) b row:=by
 obtain⟨ty,ex,fz,str,d,cs,hl,hc⟩:=h
 exact⟨ty,ex,fz,str,d,cs,by rw[nK M x hb];exact hl,hc⟩
theorem ku{M:Mem}{b ty fz:Nat}{ex str:Bool}{row:List V}(h:M.get b=some (.cells ty row.length ex fz str [] (j5 row))):j9 F M b row:=
 ⟨ty,ex,fz,str,[],j5 row,au h,fun i hi=>vo row i⟩
def cQ(F:RO)(M:Mem)(b o:Nat)(row:List V):Prop:=∀k,k<row.length→load1 F M b (o+k)=row[k]?
theorem j9.cells{M:Mem}{b:Nat}{row:List V}(h:j9 F M b row):cQ F M b 0 row:=fun k _=>by rw[Nat.zero_add];exact h.load1 k
theorem cQ.grow{M M':Mem}{b o c c':Nat}{row:List V}(h:cQ F M b o row)(hg:Gr c M c' M')(hb:b<c):cQ F M' b o row:=fun k hk=>by rw[hg.load1 hb];exact h k hk
theorem cQ.of_get{M M':Mem}{b o:Nat}{row:List V}(h:cQ F M b o row)(hg:M'.get b=M.get b):cQ F M' b o row:=fun k hk=>by
 unfold Ev.load1;rw[eb hg];exact h k hk
theorem cQ.sub{M:Mem}{b o:Nat}{row:List V}(h:cQ F M b o row)(i n:Nat)(hn:i+n≤row.length):cQ F M b (o+i) ((row.drop i).take n):=fun k hk=>by
 simp only[List.length_take,dv]at hk
 rw[Nat.add_assoc,h (i+k) (by omega),List.getElem?_take,ac (by omega),List.getElem?_drop]
theorem EN{M:Mem}{b o:Nat}{v:V}(h:Ev.load1 F M b o=some v):∃ty n ex fz str d c,look F M b=some (.cells ty n ex fz str d c)∧cell n d c o=some v:=by
 unfold Ev.load1 at h
 cases hl:look F M b with
 |none=>rw[hl]at h;cases h
 |some x=>
  rw[hl]at h;cases x with
  |cells ty n ex fz str d c=>exact⟨ty,n,ex,fz,str,d,c,rfl,h⟩
  |_=>cases h
theorem cQ.load{M:Mem}{b o:Nat}{row:List V}(h:cQ F M b o row)(hr:row≠[]):loadN F M b o row.length=some row:=by
 cases row with
 |nil=>exact absurd rfl hr
 |cons v r=>
  have h0:=h 0 (by simp);simp only[cX,List.getElem?_cons_zero]at h0;obtain⟨ty,n,ex,fz,str,d,c,hl,_⟩:=EN h0;have key:∀(l:List V) (o:Nat),(∀k,k<l.length→Ev.load1 F M b (o+k)=l[k]?)→fe n d c l.length o=some l:=by
   intro l
   induction l with
   |nil=>intro o _;rfl
   |cons x l ih=>
    intro o hx;have e0:=hx 0 (by simp);simp only[cX,List.getElem?_cons_zero]at e0;unfold Ev.load1 at e0;rw[hl]at e0;have e0':cell n d c o=some x:=e0;rw[bq,jh,e0'];show(match fe n d c l.length (o+1)with|none=>none|some r=>some (x::r))=_
    rw[ih (o+1) fun k hk=>by
     have:=hx (k+1) (by simpa using hk);rw[List.getElem?_cons_succ]at this;rw[←this];congr 1;omega]
  unfold Ev.loadN;rw[hl];exact key (v::r) o h
theorem cQ.loadN{M:Mem}{b o:Nat}{row:List V}(h:cQ F M b o row)(i n:Nat)(hn:i+n≤row.length)(h0:0<n):loadN F M b (o+i) n=some ((row.drop i).take n):=by
 have hs:=h.sub i n hn
 have hl:((row.drop i).take n).length=n:=by simp;omega
 have:=hs.load (by intro e;rw[e]at hl;simp at hl;omega)
 rwa [hl]at this
theorem fR:∀{es:List (List V)} {sz:Nat},(∀e∈es,e.length=sz)→es.flatten.length=es.length*sz
 |[],sz,_=>by simp
 |e::es,sz,h=>by
  rw[List.flatten_cons,aV,fR fun x hx=>h x (bK _ hx),h e (cd ..),bq,Nat.add_mul];omega
theorem BF:∀{es:List (List V)} {sz:Nat},(∀e∈es,e.length=sz)→ ∀(i:Nat) (h:i<es.length),(es.flatten.drop (i*sz)).take sz=es[i]
 |[],sz,_,i,h=>by cases h
 |e::es,sz,h,0,_=>by
  rw[List.flatten_cons,Nat.zero_mul,List.drop_zero,List.take_append_of_le_length (by rw[h e (cd ..)];exact ak _),List.getElem_cons_zero,←h e (cd ..),List.take_length]
 |e::es,sz,h,i+1,hi=>by
  have he:=h e (cd ..);rw[List.flatten_cons,List.getElem_cons_succ,Nat.add_mul,Nat.one_mul,Nat.add_comm,List.drop_append,he,List.drop_eq_nil_of_le (by omega),List.nil_append,Nat.add_sub_cancel_left];exact BF (fun x hx=>h x (bK _ hx)) i (by simpa using hi)
def dp(F:RO)(M:Mem)(c sz:Nat)(v:V)(es:List (List V)):Prop:=
 (∀e∈es,e.length=sz)∧((es=[]∧(v= .l0∨ ∃b o0 o,v= .ue b o0 o))∨
  ∃b o,((∃cap,es.length≤cap∧v= .l b o es.length cap)∨(∃el kn,el+es.length≤kn∧v= .u b o es.length el kn))∧b<c∧cQ F M b o es.flatten)
theorem dp.len{M:Mem}{c sz:Nat}{v:V}{es:List (List V)}(h:dp F M c sz v es):BW v=some (.i .i64 (es.length:Int)):=by
 rcases h with⟨_,⟨rfl,h|⟨b,o0,o,h⟩⟩|⟨b,o,⟨cap,_,h⟩|⟨el,kn,_,h⟩,_⟩⟩
 ·rw[h];exact A6
 ·rw[h];exact XB _ _ _
 ·rw[h];exact bj7 _ _ _ _
 ·rw[h];exact XA _ _ _ _ _
theorem dp.grow{M M':Mem}{c c' sz:Nat}{v:V}{es:List (List V)}(h:dp F M c sz v es)(hg:Gr c M c' M'):dp F M' c' sz v es:=by
 rcases h with⟨h0,h|⟨b,o,hv,hb,hr⟩⟩
 ·exact⟨h0,.inl h⟩
 ·exact⟨h0,.inr ⟨b,o,hv,Nat.lt_of_lt_of_le hb hg.le,hr.grow hg hb⟩⟩
theorem dp.at{M:Mem}{c sz:Nat}{v:V}{es:List (List V)}(h:dp F M c sz v es)(i:Nat)(hi:i<es.length):
 ∃b o,b<c∧(∀k,bL sz v (.i k (i:Int))=some (.p b o))∧cQ F M b o es[i]:=by
 rcases h with⟨h0,⟨rfl,_⟩|⟨b,o,hv,hb,hr⟩⟩
 ·cases hi
 ·have hle:i*sz+sz≤es.flatten.length:=by
   have:(i+1)*sz≤es.length*sz:=Nat.mul_le_mul_right _ hi;rw[Nat.add_mul,Nat.one_mul]at this;rw[fR h0];exact this
  refine⟨b,o+i*sz,hb,fun k=>?_,?_⟩
  ·rcases hv with⟨cap,_,rfl⟩|⟨el,kn,_,rfl⟩
   ·exact bm _ _ _ _ _ _ _ hi
   ·exact cp6 _ _ _ _ _ _ _ _ hi
  ·have:=hr.sub (i*sz) sz hle
   rwa [BF h0 i hi]at this
theorem dp.one{M:Mem}{c:Nat}{v:V}{es:List (List V)}(h:dp F M c 1 v es)(i:Nat)(hi:i<es.length){x:V}(hx:es[i]=[x]):
 ∃b o,b<c∧(∀k,bL 1 v (.i k (i:Int))=some (.p b o))∧load1 F M b o=some x:=by
 obtain⟨b,o,h1,h2,h3⟩:=h.at i hi
 refine⟨b,o,h1,h2,?_⟩
 have:=h3 0 (by rw[hx];simp)
 rw[cX,hx]at this
 exact this
theorem dH.set{M:Mem}{c c':Nat}(h:dH F M c)(b:Nat)(x:bw)(h1:c≤b)(h2:b<c'):dH F (M.set b x) c':=by
 refine⟨fun b' hb'=>?_,fun b' hb'=>h.hiF b' (by omega),fun b' hb'=>?_,by have:=h.ge;omega⟩
 ·rw[am _ _ (by omega)];exact h.hiM b' (by omega)
 ·have:b'≠b:=by
   intro e;subst e;rw[h.hiF b' h1]at hb';cases hb'
  rw[am _ _ this];exact h.ap b' hb'
theorem dH.free_set{M:Mem}{c:Nat}(h:dH F M c)(x:bw):bz (M.set c x) F=true:=(h.set c x (ak _) (bf _)).free
abbrev nk(F:RO)(M:Mem)(c:Nat)(v:V)(l:List UInt8):Prop:=dp F M c 1 v (l.map fun x=>[bV x])
theorem nk.get{M:Mem}{c:Nat}{v:V}{l:List UInt8}(h:nk F M c v l)(i:Nat)(hi:i<l.length):
 ∃b o,b<c∧(∀k,bL 1 v (.i k (i:Int))=some (.p b o))∧load1 F M b o=some (.i .u8 (l[i].toNat:Int)):=
 dp.one h i (by simpa using hi) (by simp[bV])
theorem nk.len{M:Mem}{c:Nat}{v:V}{l:List UInt8}(h:nk F M c v l):BW v=some (.i .i64 (l.length:Int)):=by
 have:=dp.len h
 rwa [List.length_map]at this
theorem av(M:Mem)(b:Nat)(x:bw):(M.set b x).get b=some x:=by rw[Tr.get_set,ac rfl]
end
section
variable{Φ:Nat→Option CF}{rd:Option Nat}{fn:Nat}{F:RO}
theorem Iz{M:Mem}{c sz:Nat}{v:V}{es:List (List V)}(h:dp F M c sz v es):r9 v=some es.length:=by
 rcases h with⟨_,⟨rfl,rfl|⟨b,o0,o,rfl⟩⟩|⟨b,o,⟨cap,_,rfl⟩|⟨el,kn,_,rfl⟩,_⟩⟩<;>rfl
theorem nS{M:Mem}{sz b o:Nat}{es:List (List V)}(hsz:0<sz)(h0:∀e∈es,e.length=sz)(h:cQ F M b o es.flatten):∃r,readB F M sz es.length b o=some (es.flatten,r):=by
 unfold readB
 rw[bF]
 cases es with
 |nil=>exact⟨none,rfl⟩
 |cons e es=>
  have hl:=fR h0;have hne:(e::es).flatten≠[]:=by
   intro h;rw[h]at hl;simp only[eP,bq,Nat.add_mul]at hl;omega
  have:=h.load hne;rw[hl]at this;rw[ag (by simp),cond_false];show∃r,(match loadN F M b o ((e::es).length*sz)with|some vs=>some (vs,some b)|none=>none)=_;rw[this];exact⟨some b,rfl⟩
theorem Cj{M:Mem}{c sz:Nat}{v:V}{es:List (List V)}(hsz:0<sz)(h:dp F M c sz v es):∃r,readL F M sz es.length v=some (es.flatten,r):=by
 rcases h with⟨h0,⟨rfl,rfl|⟨b,o0,o,rfl⟩⟩|⟨b,o,⟨cap,_,rfl⟩|⟨el,kn,_,rfl⟩,_,hc⟩⟩
 ·exact⟨none,rfl⟩
 ·exact⟨none,rfl⟩
 ·exact nS hsz h0 hc
 ·exact nS hsz h0 hc
theorem wI{M:Mem}{c sz:Nat}{v:V}{es:List (List V)}(hsz:0<sz)(h:dp F M c sz v es):fW F M sz v=some (es.length,es.flatten):=by
 have hl:=Iz h
 obtain⟨r,hr⟩:=Cj hsz h
 have hs:∀n x,v≠ .s n x:=by
  intro n x e;rcases h with⟨_,⟨rfl,h|⟨b,o0,o,h⟩⟩|⟨b,o,⟨cap,_,h⟩|⟨el,kn,_,h⟩,_⟩⟩<;>(rw[e]at h;cases h)
 have e:fW F M sz v=match r9 v with|some n=>aq4 n (readL F M sz n v)|none=>none:=by
  cases v<;>first|rfl|exact absurd rfl (hs _ _)
 rw[e,hl]
 show aq4 es.length (readL F M sz es.length v)=_
 rw[hr];rfl
theorem aq7{M:Mem}(l:List UInt8):fW F M 1 (sV l)=some (l.length,l.map bV):=by
 show(bif Nat.beq 1 1 then some (l.length,ce l.length (bP l))else none)=_
 rw[ki];rfl
def Ya(ty:Nat)(row:List V):bw:= .cells ty row.length false 0 false [] (j5 row)
def d6(M:Mem)(c0 c b ty sz:Nat)(v:V)(es:List (List V)):Prop:=
 (∀e∈es,e.length=sz)∧((es=[]∧v= .l0)∨(c0≤b∧b<c∧v= .u b 0 es.length 0 es.length∧M.get b=some (Ya ty es.flatten)))
theorem d6.nil{M:Mem}{c0 c b ty sz:Nat}:d6 M c0 c b ty sz .l0 []:=⟨fun e he=>(by cases he),.inl ⟨rfl,rfl⟩⟩
theorem Jg{M:Mem}{b ty:Nat}{row:List V}(h:M.get b=some (Ya ty row)):j9 F M b row:=ku h
theorem d6.sl{M:Mem}{c0 c b ty sz:Nat}{v:V}{es:List (List V)}(h:d6 M c0 c b ty sz v es):dp F M c sz v es:=by
 rcases h with⟨h0,⟨rfl,rfl⟩|⟨h1,h2,rfl,h3⟩⟩
 ·exact⟨h0,.inl ⟨rfl,.inl rfl⟩⟩
 ·exact⟨h0,.inr ⟨b,0,.inr ⟨0,es.length,by omega,rfl⟩,h2,(Jg h3).cells⟩⟩
theorem d6.up{M M':Mem}{c0 c c' b ty sz:Nat}{v:V}{es:List (List V)}(h:d6 M c0 c b ty sz v es)(hc:c≤c')(hb:b<c→M'.get b=M.get b):d6 M' c0 c' b ty sz v es:=by
 rcases h with⟨h0,h|⟨h1,h2,rfl,h3⟩⟩
 ·exact⟨h0,.inl h⟩
 ·exact⟨h0,.inr ⟨h1,by omega,rfl,by rw[hb h2];exact h3⟩⟩
theorem d6.gr{M M':Mem}{c0 c c' b ty sz:Nat}{v:V}{es:List (List V)}(h:d6 M c0 c b ty sz v es)(hg:Gr c M c' M'):d6 M' c0 c' b ty sz v es:=h.up hg.le fun hb=>hg.old b hb
theorem jp{n bytes:Nat}(h:(3*n+2000)*bytes≤281474976710656)(h1:n≤1099511627776):pa n bytes=true:=by
 unfold pa
 rw[bQ,bQ]
 have a:decide (Nat.mul (Nat.add (Nat.mul 3 n) 2000) bytes≤281474976710656)=true:=af h
 rw[a,af h1];rfl
theorem qZ(M:Mem)(c ty bytes len:Nat)(vs:List V)(h:pa len bytes=true):jc M c ty bytes len 0 false vs= .k (.u c 0 len 0 len) (M.set c (Ya ty vs)) (c+1):=by
 unfold jc
 rw[h]
 show(M.set c (.cells ty vs.length false 0 false [] (bu vs 0 .e))).force (fun M=>fN (Nat.succ c) fun c'=>fN len fun len=>RC.k (.u c 0 len 0 len) M c')=_
 rw[Tr.force_eq,aQ,aQ];rfl
theorem Gg{M:Mem}{c ty sz bytes n:Nat}{new:List V}(h:n≠0):app F M c ty sz bytes .l0 n new=jc M c ty bytes n 0 false new:=by
 unfold app
 rw[bF,ag h,cond_false]
theorem DI{M:Mem}{c ty sz bytes b o len el kn n:Nat}{new:List V}(h:n≠0):app F M c ty sz bytes (.u b o len el kn) n new=pj F M c ty sz bytes b o len el kn n new:=by
 unfold app
 rw[bF,ag h,cond_false]
theorem bt1{M0 M:Mem}{c0 c b ty sz bytes:Nat}{v:V}{es ns:List (List V)}(h:d6 M c0 c b ty sz v es)(hg:Gr c0 M0 c M)(hsz:0<sz)(hn:∀e∈ns,e.length=sz)(h1:bh ns.flatten=true)(hr:pa (es.length+ns.length) bytes=true):
 xe (mc F M c ty sz bytes v (some (ns.length,ns.flatten))) fun v' M' c'=>∃b',d6 M' c0 c' b' ty sz v' (es++ns)∧Gr c0 M0 c' M'∧c≤c'∧(∀x,x<c→x≠b→M'.get x=M.get x)∧(b'=b∨c≤b'):=by
 have hnl:=fR hn
 have e1:mc F M c ty sz bytes v (some (ns.length,ns.flatten))=app F M c ty sz bytes v ns.length ns.flatten:=by
  show(bif bh ns.flatten&&Nat.beq ns.flatten.length (Nat.mul ns.length sz)then _ else _)=_;rw[h1,bF,af (show ns.flatten.length=Nat.mul ns.length sz from hnl)];rfl
 rw[e1]
 have hall:∀e∈es++ns,e.length=sz:=by
  intro e he;rcases List.mem_append.1 he with he|he
  ·exact h.1 e he
  ·exact hn e he
 by_cases hz:ns=[]
 ·subst hz;have e2:app F M c ty sz bytes v 0 []= .k v M c:=by
   show(bif Nat.beq 0 0 then(bif yu v then RC.k v M c else .f)else _)=_;have:yu v=true:=by
    rcases h with⟨_,⟨_,rfl⟩|⟨_,_,rfl,_⟩⟩
    ·rfl
    ·show Nat.ble es.length (Nat.sub es.length 0)=true;rw[bQ];exact af (ak _)
   rw[this];rfl
  exact⟨v,M,c,e2,b,by rw[dw];exact h,hg,ak _,fun _ _ _=>rfl,.inl rfl⟩
 ·have hn0:ns.length≠0:=fun e=>hz (List.length_eq_zero_iff.1 e);rcases h with⟨h0,⟨rfl,rfl⟩|⟨ha,hb,rfl,hM⟩⟩
  ·rw[eP,Nat.zero_add]at hr;refine⟨_,_,_,(Gg hn0).trans (qZ M c ty bytes ns.length ns.flatten hr),c,⟨hall,.inr ⟨hg.le,by omega,rfl,?_⟩⟩,hg.set c _ hg.le (by omega) (by omega),by omega,fun x hx _=>am _ _ (by omega),.inr (ak _)⟩;rw[Tr.get_set,ac rfl];rfl
  ·have hel:=fR h0;obtain⟨r,hrd⟩:=nS hsz h0 (Jg (F:=F) hM).cells;have hmw:gK M b ty (Nat.add 0 (Nat.mul es.length sz)) (Nat.add 0 (Nat.mul (Nat.sub es.length 0) sz))=some (0,false):=by
    unfold gK;rw[hM];show(bif Nat.beq ty ty&&Nat.beq es.flatten.length (0+(es.length-0)*sz)&&Nat.ble 0 (0+es.length*sz)&&Nat.ble (0+es.length*sz) (0+(es.length-0)*sz)then some (0,false)else none)=_;rw[bF,bF,bQ,bQ,af (show ty=ty from rfl),af (show es.flatten.length=0+(es.length-0)*sz by rw[hel];simp),af (aP _),af (show 0+es.length*sz≤0+(es.length-0)*sz by simp)];rfl
   have e3:pj F M c ty sz bytes b 0 es.length 0 es.length ns.length ns.flatten=jc (M.del b) c ty bytes (es.length+ns.length) 0 false (es.flatten++ns.flatten):=by
    unfold pj;rw[bQ,ag (show¬Nat.add (Nat.add 0 es.length) ns.length≤es.length by show¬0+es.length+ns.length≤es.length;omega),cond_false,hmw];show sI (M.del b) c ty bytes (es.length+ns.length) 0 false ns.flatten (readB F M sz es.length b 0)=_;rw[hrd];rfl
   refine⟨_,_,_,((DI hn0).trans e3).trans (qZ _ c ty bytes _ _ hr),c,⟨hall,.inr ⟨by omega,by omega,by rw[aV],?_⟩⟩,(hg.del b ha).set c _ (by omega) (by omega) (by omega),by omega,fun x hx hxb=>?_,.inr (ak _)⟩
   ·rw[Tr.get_set,ac rfl,List.flatten_append]
   ·rw[am _ _ (by omega),Tr.get_del,ab hxb]
def Fo(sz:Nat)(x:V)(lo hi mx:Option V):Option V:=(cZ (.slL sz (.c x) (lo.map .c) (hi.map .c) (mx.map .c)) [] .e .e).val
theorem sS(tm:T)(o:Option X):optNN .e ((o.map fun x=>x.ev tm).map .c)=optNN tm o:=by cases o<;>rfl
theorem bl6(sz:Nat)(x:X)(lo hi mx:Option X)(M:Mem)(t:T):(cZ (.slL sz x lo hi mx) F M t).val=Fo sz (x.ev t) (lo.map fun x=>x.ev t) (hi.map fun x=>x.ev t) (mx.map fun x=>x.ev t):=by
 show(sX sz (x.ev t) (optNN t lo) (optNN t hi) (optNN t mx)).val=(sX sz (x.ev t) (optNN .e _) (optNN .e _) (optNN .e _)).val
 rw[sS,sS,sS]
theorem ER(b o n c:Nat):mkL b o n c= .v (.l b o n c):=by unfold mkL;rw[aQ,aQ,aQ]
theorem Ac(b o n el kn:Nat):mkU b o n el kn= .v (.u b o n el kn):=by unfold mkU;rw[aQ,aQ,aQ]
theorem WZ{es:List (List V)}{sz lo hi:Nat}(h0:∀e∈es,e.length=sz)(h1:lo≤hi)(h2:hi≤es.length):((es.take hi).drop lo).flatten=(es.flatten.drop (lo*sz)).take ((hi-lo)*sz):=by
 have key:∀(es:List (List V)) (k:Nat),(∀e∈es,e.length=sz)→(es.take k).flatten=es.flatten.take (k*sz)∧(es.drop k).flatten=es.flatten.drop (k*sz):=by
  intro es
  induction es with
  |nil=>intro k _;simp
  |cons e es ih=>
   intro k h;cases k with
   |zero=>simp
   |succ k=>
    obtain⟨a,b⟩:=ih k fun x hx=>h x (bK _ hx);have he:=h e (cd ..);constructor
    ·rw[List.take_succ_cons,List.flatten_cons,List.flatten_cons,a,show(k+1)*sz=e.length+k*sz by rw[Nat.add_mul,he];omega,List.take_length_add_append]
    ·rw[List.drop_succ_cons,List.flatten_cons,b,show(k+1)*sz=e.length+k*sz by rw[Nat.add_mul,he];omega,List.drop_length_add_append]
 have ht:∀e∈es.take hi,e.length=sz:=fun e he=>h0 e (List.mem_of_mem_take he)
 rw[(key (es.take hi) lo ht).2,(key es hi h0).1,List.drop_take,Nat.sub_mul]
theorem AA{M:Mem}{c sz:Nat}{v:V}{es:List (List V)}{lo hi:Nat}(h:dp F M c sz v es)(h1:lo≤hi)(h2:hi≤es.length):
 ∃v',(Cs sz v (some lo) (some hi) none= .v v'∧(lo=0→Cs sz v none (some hi) none= .v v')∧(hi=es.length→Cs sz v (some lo) none none= .v v')∧(lo=0→hi=es.length→Cs sz v none none none= .v v'))∧dp F M c sz v' ((es.take hi).drop lo):=by
 have hs:∀e∈(es.take hi).drop lo,e.length=sz:=fun e he=>h.1 e (List.mem_of_mem_take (List.mem_of_mem_drop he))
 have hl:((es.take hi).drop lo).length=hi-lo:=by simp;omega
 rcases h with⟨h0,⟨rfl,rfl|⟨b,o0,o,rfl⟩⟩|⟨b,o,hv,hb,hc⟩⟩
 ·obtain rfl:hi=0:=by simpa using h2
  obtain rfl:lo=0:=by omega
  exact⟨.l0,⟨rfl,fun _=>rfl,fun _=>rfl,fun _ _=>rfl⟩,hs,.inl ⟨rfl,.inl rfl⟩⟩
 ·obtain rfl:hi=0:=by simpa using h2
  obtain rfl:lo=0:=by omega
  exact⟨.ue b o0 o,⟨rfl,fun _=>rfl,fun _=>rfl,fun _ _=>rfl⟩,hs,.inl ⟨rfl,.inr ⟨b,o0,o,rfl⟩⟩⟩
 ·have hfl:=fR h0;have hcs:cQ F M b (o+lo*sz) ((es.take hi).drop lo).flatten:=by
   rw[WZ h0 h1 h2];refine hc.sub _ _ ?_;rw[hfl,←Nat.add_mul];exact Nat.mul_le_mul_right _ (by omega)
  rcases hv with⟨cap,hcap,rfl⟩|⟨el,kn,hkn,rfl⟩
  ·have e:tN sz b o cap lo hi cap= .v (.l b (if cap=lo then o else o+lo*sz) (hi-lo) (cap-lo)):=by
    unfold tN;rw[bQ,bQ,bQ,bF,af (ak cap),af (show hi≤cap by omega),af h1];show mkL b (bif decide (cap=lo)then o else o+lo*sz) (hi-lo) (cap-lo)=_;rw[ER];by_cases hh:cap=lo
    ·rw[af hh,ac hh];rfl
    ·rw[ag hh,ab hh];rfl
   refine⟨_,⟨e,fun hh=>?_,fun hh=>?_,fun hh hh2=>?_⟩,hs,.inr ⟨b,if cap=lo then o else o+lo*sz,.inl ⟨cap-lo,by rw[hl];omega,by rw[hl]⟩,hb,?_⟩⟩
   ·subst hh;exact e
   ·subst hh;exact e
   ·subst hh hh2;exact e
   ·by_cases hh:cap=lo
    ·rw[ac hh];have:(es.take hi).drop lo=[]:=List.eq_nil_of_length_eq_zero (by omega);rw[this];intro k hk;simp at hk
    ·rw[ab hh];exact hcs
  ·by_cases hz:lo=0
   ·subst hz;have e:pD sz b o el kn 0 hi= .v (.u b o hi el kn):=by
     unfold pD;rw[bQ,bQ,af (show Nat.add el hi≤kn by show el+hi≤kn;omega),af (aP hi)];exact Ac _ _ _ _ _
    refine⟨_,⟨e,fun _=>e,fun hh=>?_,fun _ hh=>?_⟩,hs,.inr ⟨b,o,.inr ⟨el,kn,by rw[hl];omega,by rw[hl];rfl⟩,hb,by simpa using hcs⟩⟩
    ·subst hh;exact e
    ·subst hh;exact e
   ·by_cases hh:el+lo<kn
    ·have e:pD sz b o el kn lo hi= .v (.u b (o+lo*sz) (hi-lo) (el+lo) kn):=by
      unfold pD;rw[bQ,bQ,bF,eF,af (show Nat.add el hi≤kn by show el+hi≤kn;omega),af h1,ag hz,af (show Nat.add el lo<kn from hh)];exact Ac _ _ _ _ _
     refine⟨_,⟨e,fun h=>absurd h hz,fun hh=>?_,fun h _=>absurd h hz⟩,hs,.inr ⟨b,o+lo*sz,.inr ⟨el+lo,kn,by rw[hl];omega,by rw[hl]⟩,hb,hcs⟩⟩;subst hh;exact e
    ·have e:pD sz b o el kn lo hi= .v (.ue b o (o+lo*sz)):=by
      unfold pD;rw[bQ,bQ,bF,eF,af (show Nat.add el hi≤kn by show el+hi≤kn;omega),af h1,ag hz,ag (show¬Nat.add el lo<kn from hh)];show fN (o+lo*sz) (fun o'=>QR.v (.ue b o o'))=_;rw[aQ]
     have hnil:(es.take hi).drop lo=[]:=List.eq_nil_of_length_eq_zero (by omega);refine⟨_,⟨e,fun h=>absurd h hz,fun hh=>?_,fun h _=>absurd h hz⟩,hs,.inl ⟨hnil,.inr ⟨b,o,_,rfl⟩⟩⟩;subst hh;exact e
def tZ(F:RO)(M:Mem)(c ty sz bytes:Nat)(x y:V):RC:=mc F M c ty sz bytes x (fW F M sz y)
theorem Zv(ty sz bytes:Nat)(x y:X)(M:Mem)(c:Nat)(t:T):hU (.app ty sz bytes x y) (K Φ rd fn F) M c t=tZ F M c ty sz bytes (x.ev t) (y.ev t):=rfl
theorem zG{M0 M:Mem}{c0 c b ty sz bytes:Nat}{v y:V}{es ns:List (List V)}(h:d6 M c0 c b ty sz v es)(hg:Gr c0 M0 c M)(hsz:0<sz)(hy:dp F M c sz y ns)(h1:bh ns.flatten=true)(hr:pa (es.length+ns.length) bytes=true):
 xe (tZ F M c ty sz bytes v y) fun v' M' c'=>∃b',d6 M' c0 c' b' ty sz v' (es++ns)∧Gr c0 M0 c' M'∧c≤c'∧(∀x,x<c→x≠b→M'.get x=M.get x)∧(b'=b∨c≤b'):=by
 unfold tZ
 rw[wI hsz hy]
 exact bt1 h hg hsz hy.1 h1 hr
theorem gf(l:List UInt8):(l.map fun x=>[bV x]).flatten=l.map bV:=by
 induction l with
 |nil=>rfl
 |cons a l ih=>rw[List.map_cons,List.flatten_cons,ih];rfl
theorem oE(l:List UInt8):bh (l.map fun x=>[bV x]).flatten=true:=by rw[gf];exact gG l
def bsV(F:RO)(M:Mem)(x:V):Option V:=(cZ (.bs (.c x)) F M .e).val
theorem dc6(x:X)(M:Mem)(t:T):(cZ (.bs x) F M t).val=bsV F M (x.ev t):=Eq.trans rfl (Eq.refl _)
theorem qL{M:Mem}{c:Nat}{v:V}{l:List UInt8}(h:nk F M c v l):bsV F M v=some (sV l):=by
 have hl:=Iz h
 obtain⟨r,hr⟩:=Cj Nat.one_pos h
 rw[List.length_map]at hl hr
 rw[gf]at hr
 have e:cZ (.bs (.c v)) F M .e=IV F M v (r9 v):=by
  show(match v with| .s _ _=>QR.f|v=>IV F M v (r9 v))=_;rcases h with⟨_,⟨_,rfl|⟨b,o0,o,rfl⟩⟩|⟨b,o,⟨cap,_,rfl⟩|⟨el,kn,_,rfl⟩,_⟩⟩<;>rfl
 unfold bsV
 rw[e,hl]
 show(match readL F M 1 l.length v with|some (vs,b)=>IW b (gc vs)|none=>QR.f).val=_
 rw[hr]
 show(IW r (gc (l.map bV))).val=_
 rw[qM]
 show(fN l.length fun n=>fN (bP l) fun s=>match r with|some b=>QR.r (.s n s) b|none=> .v (.s n s)).val=_
 rw[aQ,aQ]
 cases r<;>rfl
def fV(d:List V)(ty:Nat)(row:List V):bw:= .cells ty row.length true 0 false d (j5 row)
theorem Ke(d l:List V)(i:Nat)(h:i<l.length):cell l.length d (j5 l) i=l[i]?:=by
 rw[cN,ac h]
 unfold j5
 rw[dq,ac (by omega)]
 simp only[Nat.sub_zero]
 rw[List.getElem?_eq_getElem h]
theorem Ay{M:Mem}{b ty:Nat}{d row:List V}(h:M.get b=some (fV d ty row)):j9 F M b row:=
 ⟨ty,true,0,false,d,j5 row,au h,fun i hi=>Ke d row i hi⟩
theorem Ys{M:Mem}{b c ty sz n:Nat}{d:List V}{es:List (List V)}(h:M.get b=some (fV d ty es.flatten))(hb:b<c)(h0:∀e∈es,e.length=sz)(hn:es.length=n):dp F M c sz (.l b 0 n n) es:=by
 subst hn
 exact⟨h0,.inr ⟨b,0,.inl ⟨_,ak _,rfl⟩,hb,(Ay h).cells⟩⟩
def zU(t:T):List (Nat×X)→List (Nat×List V)
 |[]=>[]
 |(o,x)::r=>(o,flatten (x.ev t))::zU t r
theorem WT(t:T):zU t []=[]:=rfl
theorem sF(t:T)(o:Nat)(x:X)(r:List (Nat×X)):zU t ((o,x)::r)=(o,flatten (x.ev t))::zU t r:=rfl
def ml(sz:Nat):Nat→List (Nat×List V)→Option (List V)
 |_,[]=>some []
 |o,(k,vs)::r=>if k=o∧vs.length=sz∧bh vs=true then(ml sz (o+sz) r).map (vs++ ·)else none
theorem EW(sz o:Nat):ml sz o []=some []:=rfl
theorem nO(sz o k:Nat)(vs:List V)(r:List (Nat×List V)):ml sz o ((k,vs)::r)=if k=o∧vs.length=sz∧bh vs=true then(ml sz (o+sz) r).map (vs++ ·)else none:=rfl
theorem nJ:∀(a b:List V) (k:Nat) (t:T),bu b (k+a.length) (bu a k t)=bu (a++b) k t
 |[],b,k,t=>rfl
 |x::a,b,k,t=>by
  rw[List.cons_append,dj,dj,bq,show k+(a.length+1)=(k+1)+a.length by omega,nJ a b]
theorem BE{sz m:Nat}{t:T}:∀{parts:List (Nat×X)} {pre row:List V},ml sz pre.length (zU t parts)=some row→pre.length+row.length≤m→fillP sz m t parts (bu pre 0 .e)=some (bu (pre++row) 0 .e)
 |[],pre,row,h,hm=>by
  obtain rfl:[]=row:=ae h;rw[dw];rfl
 |(o,x)::r,pre,row,h,hm=>by
  rw[sF,nO]at h;split at h
  ·rename_i hc;obtain⟨rfl,h1,h2⟩:=hc;rw[bg]at h;obtain⟨row',h3,rfl⟩:=h;rw[aV]at hm;show(bif Nat.beq (flatten (x.ev t)).length sz&&Nat.ble (Nat.add pre.length sz) m&&bh (flatten (x.ev t))then(bu (flatten (x.ev t)) pre.length (bu pre 0 .e)).force fun t'=>fillP sz m t r t' else none)=_;rw[bF,bQ,h2,af h1,af (show Nat.add pre.length sz≤m by show pre.length+sz≤m;omega)];show(bu (flatten (x.ev t)) pre.length (bu pre 0 .e)).force (fun t'=>fillP sz m t r t')=_;rw[Tr.force_eq];have hs:=nJ pre (flatten (x.ev t)) 0 .e;rw[Nat.zero_add]at hs;rw[hs];have:=BE (m:=m) (parts:=r) (pre:=pre++flatten (x.ev t)) (row:=row') (by rw[aV,h1];exact h3) (by rw[aV];omega);rw[this,oD]
  ·cases h
theorem wg{sz:Nat}:∀{ps:List (Nat×List V)} {o:Nat} {row:List V},ml sz o ps=some row→row.length=ps.length*sz∧bh row=true
 |[],o,row,h=>by
  obtain rfl:[]=row:=ae h;simp;rfl
 |(k,vs)::r,o,row,h=>by
  rw[nO]at h;split at h
  ·rename_i hc;rw[bg]at h;obtain⟨row',h3,rfl⟩:=h;obtain⟨h4,h5⟩:=wg h3;refine⟨by rw[aV,h4,hc.2.1,bq,Nat.add_mul];omega,?_⟩;have key:∀(a b:List V),bh a=true→bh b=true→bh (a++b)=true:=by
    intro a
    induction a with
    |nil=>intro b _ h;exact h
    |cons x a ih=>
     intro b ha hb;rw[iM,aJ]at ha;rw[List.cons_append,iM,ha.1,ih b ha.2 hb];rfl
   exact key _ _ hc.2.2 h5
  ·cases h
def ch0(ty n:Nat)(zero:List V)(b:Nat):Option (List V)→Option (V×bw)
 |some row=>some (.l b 0 n n,fV zero ty row)
 |none=>none
def cU5(ty n sz:Nat)(zero:List V)(parts:List (Nat×X))(b:Nat)(t:T):Option (V×bw):=jX (.bsl ty n sz zero parts) b t
theorem BC(t:T):∀ps:List (Nat×X),(zU t ps).length=ps.length
 |[]=>rfl
 |(o,x)::r=>by rw[sF,bq,bq,BC t r]
theorem Mx(ty n sz:Nat)(zero:List V)(parts:List (Nat×X))(b:Nat)(t:T)(hn:parts.length=n){row:List V}(h:ml sz 0 (zU t parts)=some row):
 jX (.bsl ty n sz zero parts) b t=some (.l b 0 n n,fV zero ty row):=by
 subst hn
 have hl:=(wg h).1
 rw[BC]at hl
 have:=BE (m:=parts.length*sz) (pre:=[]) h (by simp[hl])
 rw[List.nil_append]at this
 show(match fillP sz (parts.length*sz) t parts .e with|some c=>fN (parts.length*sz) fun m=>some (V.l b 0 parts.length parts.length,bw.cells ty m true 0 false zero c)|none=>none)=_
 rw[show fillP sz (parts.length*sz) t parts .e=some (bu row 0 .e)from this]
 show fN (parts.length*sz) (fun m=>some (V.l b 0 parts.length parts.length,bw.cells ty m true 0 false zero (bu row 0 .e)))=_
 rw[aQ,←hl];rfl
theorem aa1(ty n sz:Nat)(zero:List V)(parts:List (Nat×X))(b:Nat)(t:T):jX (.bsl ty n sz zero parts) b t=if parts.length=n∧(ml sz 0 (zU t parts)).isSome=true then ch0 ty n zero b (ml sz 0 (zU t parts))else cU5 ty n sz zero parts b t:=by
 split
 ·rename_i h;obtain⟨row,hr⟩:=bC.1 h.2;rw[hr];exact Mx ty n sz zero parts b t h.1 hr
 ·rfl
theorem K7(ty n:Nat)(zero:List V)(b:Nat)(row:List V):ch0 ty n zero b (some row)=some (.l b 0 n n,fV zero ty row):=rfl
end
def xM(C:Nat):Value→Option V
 | .bool x=>some (.b x)
 | .int k n=>some (.i k n)
 | .string s=>some (sV s.data.toList)
 | .pointer none=>some .p0
 | .slice none 0 0=>some .l0
 | .slice (some a) n c=>if a.spot=none∧a.block<C then some (.l a.block a.off n c)else if n=0∧c=0∧Bd a<C then some (.ue (Bd a) 1 0)else none
 | .iface t (.pointer (some ⟨r,o,none⟩))=>if r<C then some (.a t (.p r o))else none
 |_=>none
theorem ae2(E:d7)(s:ByteArray):conc E (sV s.data.toList)= .string s:=by
 show Value.string (ba s.data.toList.length (bP s.data.toList))=_
 unfold ba
 rw[my]
theorem wQ{C:Nat}{x:Value}{v:V}(h:xM C x=some v):conc E0 v=x∧bd (· <C) v:=by
 unfold xM at h
 split at h
 ·obtain rfl:=ae h;exact⟨rfl,trivial⟩
 ·obtain rfl:=ae h;exact⟨rfl,trivial⟩
 ·obtain rfl:=ae h;exact⟨ae2 _ _,trivial⟩
 ·obtain rfl:=ae h;exact⟨rfl,trivial⟩
 ·obtain rfl:=ae h;exact⟨rfl,trivial⟩
 ·rename_i a n c;split at h
  ·rename_i hr;obtain⟨b,o,sp⟩:=a;obtain⟨h1,hr⟩:=hr;have h1:sp=none:=h1;subst h1;obtain rfl:=ae h;refine⟨?_,hr⟩;show Value.slice (some ⟨b,0+o,none⟩) n c=_;rw[Nat.zero_add]
  ·split at h
   ·rename_i hr;obtain⟨rfl,rfl,hr⟩:=hr;obtain rfl:=ae h;refine⟨?_,hr⟩;show Value.slice (some (if(0:Nat)=0 then(if(0:Nat)<1 then adD (Bd a)else _)else _)) 0 0=_;rw[ac rfl,ac (by decide),cb7]
   ·cases h
 ·rename_i t r o;split at h
  ·rename_i hr;obtain rfl:=ae h;refine⟨?_,hr⟩;show Value.iface t (.pointer (some ⟨r,0+o,none⟩))=_;rw[Nat.zero_add]
  ·cases h
 ·cases h
def mP:List (Option V)→Nat→T→T
 |[],_,t=>t
 |none::r,k,t=>mP r (k+1) t
 |some v::r,k,t=>mP r (k+1) (t.set k v)
theorem sT:∀(l:List (Option V)) (k:Nat) (t:T) (j:Nat),(mP l k t).get j=if k≤j∧j<k+l.length then(match l[j-k]? with|some (some v)=>some v|_=>t.get j)else t.get j
 |[],k,t,j=>by
  rw[ab (by simp;try omega)];rfl
 |none::r,k,t,j=>by
  show(mP r (k+1) t).get j=_;rw[sT r (k+1) t j];simp only[bq];by_cases h0:j=k
  ·subst h0;rw[ab (by omega),ac (by omega)];simp
  ·by_cases h1:k≤j∧j<k+(r.length+1)
   ·rw[ac (by omega),ac h1,show j-k=(j-(k+1))+1 by omega,List.getElem?_cons_succ]
   ·rw[ab (by omega),ab h1]
 |some v::r,k,t,j=>by
  show(mP r (k+1) (t.set k v)).get j=_;rw[sT r (k+1) (t.set k v) j,Tr.get_set];simp only[bq];by_cases h0:j=k
  ·subst h0;rw[ab (by omega),ac rfl,ac (by omega)];simp
  ·rw[ab h0];by_cases h1:k≤j∧j<k+(r.length+1)
   ·rw[ac (by omega),ac h1,show j-k=(j-(k+1))+1 by omega,List.getElem?_cons_succ]
   ·rw[ab (by omega),ab h1]
def tv(C:Nat):Obj→Option bw
 | .cells arr ty _=>some (.cells ty arr.size false arr.size true [] (mP (arr.toList.map (xM C)) 0 .e))
 |_=>none
def pq(C:Nat):List Obj→Nat→RO
 |[],_=>[]
 |o::r,k=>match tv C o with
  |some x=>(k,x)::pq C r (k+1)
  |none=>pq C r (k+1)
theorem yp(C:Nat):∀(l:List Obj) (k j:Nat),be (pq C l k) j=if k≤j then(l[j-k]?).bind (tv C)else none
 |[],k,j=>by
  show none=_;split<;>simp
 |o::r,k,j=>by
  have ih:=yp C r (k+1) j;unfold pq;by_cases h0:j=k
  ·subst h0;rw[ab (by omega)]at ih;rw[ac (ak _),Nat.sub_self,List.getElem?_cons_zero];show _=tv C o;cases hb:tv C o with
   |none=>exact ih
   |some x=>
    show be ((j,x)::pq C r (j+1)) j=some x;rw[dD,ac rfl]
  ·have e:be (match tv C o with|some x=>(k,x)::pq C r (k+1)|none=>pq C r (k+1)) j=be (pq C r (k+1)) j:=by
    cases tv C o with
    |none=>rfl
    |some x=>
     show be ((k,x)::pq C r (k+1)) j=_;rw[dD,ab (fun e=>h0 e.symm)]
   rw[e,ih];by_cases h1:k≤j
   ·rw[ac (by omega),ac h1,show j-k=(j-(k+1))+1 by omega,List.getElem?_cons_succ]
   ·rw[ab (by omega),ab h1]
def dR(W:World)(C:Nat):RO:=pq C W.heap.toList 0
theorem lh(W:World)(C j:Nat):be (dR W C) j=(W.heap[j]?).bind (tv C):=by
 unfold dR
 rw[yp,ac (aP _),Nat.sub_zero,Array.getElem?_toList]
theorem lj{C ty:Nat}{arr:Array Value}{k:Nat}{v:V}:cell arr.size [] (mP (arr.toList.map (xM C)) 0 .e) k=some v↔ ∃x,arr[k]?=some x∧xM C x=some v:=by
 rw[cN]
 by_cases h:k<arr.size
 ·rw[ac h,sT,ac (by simpa using h)];simp only[Nat.sub_zero,List.getElem?_map,Array.getElem?_toList,Array.getElem?_eq_getElem h,Option.map_some];show(match (match some (xM C arr[k])with|some (some v)=>some v|_=>(Tr.e:T).get k)with|some v=>some v|none=>([]:List V)[k%([]:List V).length]?)=some v↔_;constructor
  ·intro hv;refine⟨arr[k],rfl,?_⟩;cases hx:xM C arr[k]with
   |none=>rw[hx]at hv;simp[Tr.get_e]at hv
   |some y=>rw[hx]at hv;simpa using hv
  ·rintro⟨x,hx,hv⟩;obtain rfl:=ae hx;rw[hv]
 ·rw[ab h];constructor
  ·intro hh;cases hh
  ·rintro⟨x,hx,_⟩;rw[Array.getElem?_eq_none (by omega)]at hx;cases hx
theorem Xf{P:Program}{W:World}{C:Nat}(hC:W.heap.size≤C):kD P E0 (dR W C) .e (· <C) W:=by
 refine⟨?_,fun b b' _ _ e=>e,fun b _=>rfl⟩
 intro b blk hb
 rw[aM (show(Tr.e:Mem).get b=none from rfl),lh]at hb
 cases ho:W.heap[b]? with
 |none=>rw[ho]at hb;cases hb
 |some o=>
  rw[ho]at hb;have hb':tv C o=some blk:=hb;have hlt:b<C:=Nat.lt_of_lt_of_le (Array.getElem?_eq_some_iff.1 ho).1 hC;cases o with
  |cells arr ty fr=>
   obtain rfl:=ae hb';refine⟨hlt,?_,_,ho,arr,fr,rfl,?_,?_,?_,?_⟩
   ·intro k v hk;obtain⟨x,_,hv⟩:=(lj (ty:=ty)).1 hk;exact(wQ hv).2
   ·intro k v hk;obtain⟨x,hx,hv⟩:=(lj (ty:=ty)).1 hk;show arr[0+k]?=_;rw[Nat.zero_add,hx,(wQ hv).1]
   ·show arr.size=0+arr.size+0*_;simp
   ·intro o h1 h2;have h1':0+arr.size≤o:=h1;omega
   ·intro h;cases h
  |_=>cases hb'
theorem KG{W:World}{C r o:Nat}{x:Value}{v:V}(h:W.cell? ⟨r,o,none⟩=some x)(hv:xM C x=some v):load1 (dR W C) .e r o=some v:=by
 unfold World.cell? at h
 split at h
 ·rename_i cs ty fr hh;have h':cs[o]?=some x:=h;unfold Ev.load1;rw[aM (show(Tr.e:Mem).get r=none from rfl),lh];have hh':W.heap[r]?=some (.cells cs ty fr):=hh;rw[hh'];exact(lj (ty:=ty)).2 ⟨x,h',hv⟩
 ·cases h
theorem yq{W:World}{C:Nat}:∀{L:List gk},(∀t∈L,t.1<1000∧xW W t)→bE (dR W C) L=true
 |[],_=>rfl
 |t::r,h=>by
  show(Nat.blt t.1 1000&&(rL (dR W C) t&&bE (dR W C) r))=true;rw[yq fun t ht=>h t (bK _ ht),eF,af (h t (cd ..)).1];obtain⟨_,ty,fr,hh⟩:=h t (cd ..);have hi:rL (dR W C) t=true:=by
   unfold rL;rw[lh,hh];show(Nat.beq (t.2.2.map fun z=>Value.int t.2.1 z).toArray.size (t.2.2.map fun z=>Value.int t.2.1 z).toArray.size&&jQ _ [] _ t.2.1 t.2.2 0)=true;rw[Nat.beq_refl,Bool.true_and]
   have key:∀(zs:List Int) (i:Nat),i+zs.length=t.2.2.length→(∀j,zs[j]?=t.2.2[i+j]?)→
    jQ (t.2.2.map fun z=>Value.int t.2.1 z).toArray.size [] (mP ((t.2.2.map fun z=>Value.int t.2.1 z).toArray.toList.map (xM C)) 0 .e) t.2.1 zs i=true:=by
    intro zs
    induction zs with
    |nil=>
     intro i hi _;show Nat.beq i _=true;simp only[eP]at hi;rw[bF];simp;omega
    |cons z zs ih=>
     intro i hi hz;have h0:=hz 0;simp only[List.getElem?_cons_zero,cX]at h0
     have hc:cell (t.2.2.map fun z=>Value.int t.2.1 z).toArray.size [] (mP ((t.2.2.map fun z=>Value.int t.2.1 z).toArray.toList.map (xM C)) 0 .e) i=some (.i t.2.1 z):=
      (lj (ty:=ty)).2 ⟨.int t.2.1 z,by simp[←h0],rfl⟩
     unfold jQ;rw[hc];show(Fr t.2.1 z (.i t.2.1 z)&&_)=true;rw[ih (i+1) (by simp at hi;omega) fun j=>by have:=hz (j+1);rw[List.getElem?_cons_succ]at this;rw[this];congr 1;omega];show(iq t.2.1 t.2.1&&Km z z&&true)=true;rw[eW,cR];simp
   exact key t.2.2 0 (by omega) (fun j=>by rw[Nat.zero_add])
  rw[hi];rfl
theorem bC0{P:Program}(hm:P.follows .mixedOrders=true){Φ:Nat→Option CF}(hΦ:eO P Φ){f:Nat}{W:World}{C:Nat}{args:List V}(hC:W.heap.size≤C)(hk:1000≤C)(ha:fK (· <C) args)
 (h:Ev.Calls Φ (dR W C) f args .e C fun v _ _=>v= .b true):Go.Calls P f (az E0 args).toArray W fun e W'=>e= .returned (.bool true)∧(∀may,W.keptBut W' may)∧ ∀i,i<W.heap.size→W'.heap[i]?=W.heap[i]?:=by
 obtain⟨v,M',c',hc,rfl⟩:=h
 obtain⟨fn,h1,h2,h3,hC⟩:=ix (rd:=none) (fn:=0) (F₀:=[]) hΦ (Eb hm hΦ) (dR W C) f args .e C (.b true) M' c' hc E0 (· <C) W (Xf hC) (fun g _=>⟨rfl,rfl⟩) (fun g hg=>Nat.lt_of_lt_of_le hg hk) (fun b hb hc=>Nat.lt_irrefl _ (Nat.lt_of_lt_of_le hc hb)) ha
 refine hC.mono ?_
 rintro e W' ⟨E',c',rfl,hS,_,_⟩
 exact⟨rfl,fun may=>ai4 hS may,fun i hi=>hS.frame i hi (fun b hb=>by cases hb)⟩
inductive Ty where
 |bool|int (k:IntKind)|str|sl (e:Ty)|nil|cons (a b:Ty)
def Ty.D:Ty→Type
 | .bool=>Bool
 | .int _=>Int
 | .str=>List UInt8
 | .sl e=>List e.D
 | .nil=>Unit
 | .cons a b=>a.D×b.D
def Ty.size:Ty→Nat
 | .nil=>0
 | .cons a b=>a.size+b.size
 |_=>1
def Ty.hasSl:Ty→Bool
 | .sl _=>true
 | .cons a b=>a.hasSl||b.hasSl
 |_=>false
def Ty.deep:Ty→Bool
 | .sl e=>e.hasSl
 | .cons a b=>a.deep||b.deep
 |_=>false
def Rp(F:RO)(M:Mem)(c:Nat):(t:Ty)→List V→t.D→Prop
 | .bool,vs,x=>vs=[.b x]
 | .int k,vs,n=>(fun z:Int=>vs=[.i k z]∧k.min≤z∧z≤k.max) n
 | .str,vs,x=>(fun l:List UInt8=>vs=[sV l]∧l.length≤Go.maxLen) x
 | .sl e,vs,x=>(fun l:List e.D=>∃v es,vs=[v]∧dp F M c e.size v es∧l.length≤Go.maxLen∧es.length=l.length∧ ∀i (h:i<es.length) (h':i<l.length),Rp F M c e es[i] l[i]) x
 | .nil,vs,_=>vs=[]
 | .cons a b,vs,x=>∃v1 v2,vs=v1++v2∧Rp F M c a v1 x.1∧Rp F M c b v2 x.2
theorem Rp.len{F:RO}{M:Mem}{c:Nat}:∀{t:Ty} {vs:List V} {x:t.D},Rp F M c t vs x→vs.length=t.size
 | .bool,vs,x,h=>by obtain rfl:vs=[.b x]:=h;rfl
 | .int k,vs,x,h=>by obtain⟨rfl,_⟩:=h;rfl
 | .str,vs,x,h=>by obtain⟨rfl,_⟩:=h;rfl
 | .sl e,vs,x,h=>by obtain⟨v,es,rfl,_⟩:=h;rfl
 | .nil,vs,x,h=>by obtain rfl:vs=[]:=h;rfl
 | .cons a b,vs,x,h=>by
   obtain⟨v1,v2,rfl,h1,h2⟩:=h;rw[aV,h1.len,h2.len];rfl
def Sz(B:Nat):(t:Ty)→t.D→Prop
 | .str,x=>(fun l:List UInt8=>l.length≤B) x
 | .sl e,x=>(fun l:List e.D=>l.length≤B∧ ∀y∈l,Sz B e y) x
 | .cons a b,x=>Sz B a x.1∧Sz B b x.2
 |_,_=>True
mutual
def ul(P:Program):Ty→TypeId→Bool
 | .bool,t=>match P.underlying t with|some .bool=>true|_=>false
 | .int k,t=>match P.underlying t with|some (.int k')=>decide (k'=k)|_=>false
 | .str,t=>match P.underlying t with|some .string=>true|_=>false
 | .sl e,t=>match P.underlying t with|some (.slice te)=>decide (P.cellsOf te=e.size∧0<P.bytesOf te)&&ul P e te|_=>false
 | .nil,_=>false
 | .cons a b,t=>match P.underlying t with
   |some (.struct fs)=>decide (P.cellsOf t=a.size+b.size)&&match fs.toList with
    |f::r=>decide (f.offset=0)&&(decide (P.cellsOf f.type=a.size)&&(ul P a f.type&&KB P b r a.size))
    |[]=>false
   |_=>false
def KB(P:Program):Ty→List Field→Nat→Bool
 | .nil,[],_=>true
 | .cons a b,f::r,o=>decide (f.offset=o)&&(decide (P.cellsOf f.type=a.size)&&(ul P a f.type&&KB P b r (o+a.size)))
 |_,_,_=>false
end
theorem fx{α β:Type}{f:α→Option β}:∀{l:List α} {r:List β},l.mapM f=some r→r.length=l.length∧ ∀i (h:i<l.length) (h':i<r.length),f l[i]=some r[i]
 |[],r,h=>by
  rw[List.mapM_nil]at h;obtain rfl:[]=r:=ae h;exact⟨rfl,fun i h=>by cases h⟩
 |a::l,r,h=>by
  rw[List.mapM_cons]at h;cases h1:f a with
  |none=>rw[h1]at h;cases h
  |some b=>
   rw[h1]at h;have h':(l.mapM f).bind (fun bs=>some (b::bs))=some r:=h;cases h2:l.mapM f with
   |none=>rw[h2]at h';cases h'
   |some bs=>
    rw[h2]at h';obtain rfl:b::bs=r:=ae h';obtain⟨h3,h4⟩:=fx h2;refine⟨by simp[h3],fun i hi hi'=>?_⟩;cases i with
    |zero=>exact h1
    |succ i=>exact h4 i (by simpa using hi) (by simpa using hi')
def KY(C:Nat):Value→Prop
 | .slice (some a) 0 0=>(a.spot=none∧a.block<C)∨Bd a<C
 |_=>True
def B0(C:Nat)(cs:List Value)(vs:List V):Prop:=cs.map (xM C)=vs.map some
theorem B0.conc{C:Nat}:∀{cs:List Value} {vs:List V},B0 C cs vs→az E0 vs=cs∧fK (· <C) vs
 |[],[],_=>⟨rfl,trivial⟩
 |[],_::_,h=>by cases h
 |_::_,[],h=>by cases h
 |c::cs,v::vs,h=>by
  have h':xM C c::cs.map (xM C)=some v::vs.map some:=h;injection h' with h1 h2
  obtain⟨a1,a2⟩:=B0.conc (cs:=cs) (vs:=vs) h2;obtain⟨b1,b2⟩:=wQ h1;exact⟨by rw[az,a1,b1],b2,a2⟩
theorem B0.append{C:Nat}{cs cs':List Value}{vs vs':List V}(h:B0 C cs vs)(h':B0 C cs' vs'):B0 C (cs++cs') (vs++vs'):=by
 unfold B0 at *
 rw[List.map_append,List.map_append,h,h']
theorem B0.len{C:Nat}{cs:List Value}{vs:List V}(h:B0 C cs vs):cs.length=vs.length:=by
 have:=congrArg List.length h
 simpa using this
theorem B0.get{C:Nat}{cs:List Value}{vs:List V}(h:B0 C cs vs)(i:Nat)(hi:i<cs.length):xM C cs[i]=vs[i]?:=by
 have:=congrArg (fun l:List (Option V)=>l[i]?) h
 simp only[List.getElem?_map]at this
 rw[List.getElem?_eq_getElem hi,List.getElem?_eq_getElem (by rw[←h.len];exact hi)]at this
 rw[List.getElem?_eq_getElem (by rw[←h.len];exact hi)]
 simpa using this
section
variable{H:Type}{enc:TypeId×Value→H}{P:Program}{W:World}{C:Nat}{sp:Nat→Bool}{held:Bool}
theorem Yc{r o:Nat}{cs:List Value}{vs:List V}(h:B0 C cs vs)(hc:∀i (hi:i<cs.length),W.cell? ⟨r,o+i,none⟩=some cs[i]):cQ (dR W C) .e r o vs:=by
 intro k hk
 have hk':k<cs.length:=by rw[h.len];exact hk
 have:=h.get k hk'
 rw[List.getElem?_eq_getElem hk]at this⊢
 exact KG (hc k hk') this
theorem yS{t:TypeId}{cs:List Value}{fuel:Nat}{r:DataW H×List MemPlace}(hu:P.underlying t=some .bool)(h:DataW.trod enc P W 0 sp held fuel t cs=some r):∃b,cs=[.bool b]:=by
 cases fuel with
 |zero=>cases h
 |succ fuel=>
  unfold DataW.trod at h;rw[hu]at h;split at h<;>first|(rename_i e;cases e;done)|cases h|skip
  all_goals simp_all
theorem CB{t:TypeId}{k:IntKind}{cs:List Value}{fuel:Nat}{r:DataW H×List MemPlace}(hu:P.underlying t=some (.int k))(h:DataW.trod enc P W 0 sp held fuel t cs=some r):∃n,cs=[.int k n]∧k.min≤n∧n≤k.max:=by
 cases fuel with
 |zero=>cases h
 |succ fuel=>
  unfold DataW.trod at h;rw[hu]at h;split at h<;>first|(rename_i e;cases e;done)|cases h|skip
  rename_i k0 k' n e;simp only[Option.some.injEq,TypeDesc.int.injEq]at e;subst e;split at h
  ·rename_i hk;obtain⟨rfl,hw⟩:=hk;have hw':(decide (k'.min≤n)&&decide (n≤k'.max))=true:=hw;simp only[aJ,decide_eq_true_eq]at hw';exact⟨n,rfl,hw'⟩
  ·cases h
theorem CD{t:TypeId}{cs:List Value}{fuel:Nat}{r:DataW H×List MemPlace}(hu:P.underlying t=some .string)(h:DataW.trod enc P W 0 sp held fuel t cs=some r):∃s:ByteArray,cs=[.string s]∧s.data.toList.length≤Go.maxLen∧r.1= .lit (.string s.data.toList):=by
 cases fuel with
 |zero=>cases h
 |succ fuel=>
  unfold DataW.trod at h;rw[hu]at h;split at h<;>first|(rename_i e;cases e;done)|cases h|skip
  rename_i s e;split at h
  ·rename_i hk;injection h with h
   exact⟨s,rfl,by simpa using hk,by rw[←h]⟩
  ·cases h
def G9(P:Program)(B:Nat)(t:TypeId)(d:DataW H):Prop:=∀n∈d.weights P t,n≤B
theorem IH{P:Program}{e:TypeId}{n:Nat}:∀{l:List (DataW H)} {d:DataW H},d∈l→n∈d.weights P e→n∈DataW.weightsAll P e l
 |[],_,h,_=>by cases h
 |x::l,d,h,hn=>by
  rw[DataW.weightsAll,List.mem_append];rcases bj.1 h with rfl|h
  ·exact .inl hn
  ·exact .inr (IH h hn)
theorem C2{P:Program}{n:Nat}:∀{ts:List TypeId} {l:List (DataW H)} {i:Nat} {t:TypeId} {d:DataW H},ts[i]?=some t→l[i]?=some d→n∈d.weights P t→n∈DataW.weightsEach P ts l
 |[],_,i,_,_,h,_,_=>by cases i<;>cases h
 |_::_,[],i,_,_,_,h,_=>by cases i<;>cases h
 |t::ts,d::l,0,_,_,h1,h2,hn=>by
  cases h1;cases h2;rw[DataW.weightsEach,List.mem_append];exact .inl hn
 |t::ts,d::l,i+1,_,_,h1,h2,hn=>by
  rw[DataW.weightsEach,List.mem_append];exact .inr (C2 (i:=i) h1 h2 hn)
theorem Jr{B:Nat}{t te:TypeId}{cs:List Value}{fuel:Nat}{r:DataW H×List MemPlace}(hu:P.underlying t=some (.slice te))(h:DataW.trod enc P W 0 sp held fuel t cs=some r):
 cs=[.slice none 0 0]∨ ∃a len cap fuel',cs=[.slice (some a) len cap]∧len≤cap∧cap≤Go.maxLen∧
  (∀i,i<len→ ∃es x,W.cells? 0 (a.add (i*P.cellsOf te)) (P.cellsOf te)=some es∧DataW.trod enc P W 0 sp held fuel' te es=some x∧(G9 P B t r.1→G9 P B te x.1))∧(G9 P B t r.1→len*P.bytesOf te≤B)∧
  (sp a.block=true→0<cap→ ∃es,W.cells? 0 a (P.cellsOf te)=some es):=by
 cases fuel with
 |zero=>cases h
 |succ fuel=>
  unfold DataW.trod at h;rw[hu]at h;split at h<;>first|(rename_i e;cases e;done)|cases h|skip
  ·exact .inl rfl
  ·rename_i e0 a len cap e;simp only[Option.some.injEq,TypeDesc.slice.injEq]at e;subst e;simp only at h;split at h
   ·rename_i hk;obtain⟨_,h1,h2⟩:=hk;cases hm:(List.range len).mapM fun i=>(W.cells? 0 (a.add (i*P.cellsOf te)) (P.cellsOf te)).bind (DataW.trod enc P W 0 sp held fuel te)with
    |none=>rw[hm]at h;cases h
    |some elems=>
     obtain⟨hl,hget⟩:=fx hm;obtain⟨rest,hr⟩:∃rest,r.1= .slice (elems.map (·.1)) rest:=by
      rw[hm]at h;simp only[Option.bind_some]at h;rw[bg]at h;obtain⟨rs,_,h⟩:=h;exact⟨_,by rw[←h]⟩
     have hw:r.1.weights P t=((elems.map (·.1)).length+rest.length)*P.bytesOf te::(DataW.weightsAll P te (elems.map (·.1))++DataW.weightsAll P te rest):=by
      rw[hr,DataW.weights,hu]
     rw[List.length_range]at hl
     have hlen':G9 P B t r.1→len*P.bytesOf te≤B:=fun hW=>by
      have:=hW _ (by rw[hw];exact cd ..);rw[List.length_map,hl]at this;exact bp (Nat.mul_le_mul (Nat.le_add_right _ _) (ak _)) this
     have hel:∀i,i<len→ ∃es x,W.cells? 0 (a.add (i*P.cellsOf te)) (P.cellsOf te)=some es∧DataW.trod enc P W 0 sp held fuel te es=some x∧(G9 P B t r.1→G9 P B te x.1):=fun i hi=>by
      have:=hget i (by simpa using hi) (by rw[hl];exact hi);simp only[List.getElem_range]at this;cases hc:W.cells? 0 (a.add (i*P.cellsOf te)) (P.cellsOf te)with
      |none=>rw[hc]at this;cases this
      |some es=>
       rw[hc]at this;refine⟨es,_,rfl,this,fun hW n hn=>hW n ?_⟩;rw[hw];exact bK _ (List.mem_append_left _ (IH (List.mem_map.2 ⟨_,List.getElem_mem _,rfl⟩) hn))
     refine .inr ⟨a,len,cap,fuel,rfl,h1,h2,hel,hlen',fun hsp h0=>?_⟩;by_cases hlen:0<len
     ·obtain⟨es,_,he,_⟩:=hel 0 hlen;rw[Nat.zero_mul]at he;exact⟨es,by simpa [Addr.add]using he⟩
     ·rw[hm]at h;simp only[Option.bind_some,ac hsp]at h;cases hm2:(List.range (cap-len)).mapM fun j=>(W.cells? 0 (a.add ((len+j)*P.cellsOf te)) (P.cellsOf te)).bind (DataW.trod enc P W 0 sp held fuel te)with
      |none=>rw[hm2]at h;cases h
      |some rest=>
       obtain⟨g1,g2⟩:=fx hm2;rw[List.length_range]at g1;have:=g2 0 (by rw[List.length_range];omega) (by omega);simp only[List.getElem_range]at this;rw[show(len+0)*P.cellsOf te=0 by rw[show len=0 by omega];simp]at this;cases hc:W.cells? 0 (a.add 0) (P.cellsOf te)with
       |none=>rw[hc]at this;cases this
       |some es=>exact⟨es,by simpa [Addr.add]using hc⟩
   ·cases h
theorem Js{B:Nat}{t:TypeId}{fs:Array Field}{cs:List Value}{fuel:Nat}{r:DataW H×List MemPlace}(hu:P.underlying t=some (.struct fs))(h:DataW.trod enc P W 0 sp held fuel t cs=some r):
 cs.length=P.cellsOf t∧ ∃fuel',∀f∈fs.toList,∃x,DataW.trod enc P W 0 sp held fuel' f.type ((cs.drop f.offset).take (P.cellsOf f.type))=some x∧(G9 P B t r.1→G9 P B f.type x.1):=by
 cases fuel with
 |zero=>cases h
 |succ fuel=>
  have key:(if cs.length=P.cellsOf t then(fs.toList.mapM fun f=>DataW.trod enc P W 0 sp held fuel f.type ((cs.drop f.offset).take (P.cellsOf f.type))).map fun xs=>(DataW.agg (xs.map (·.1)),xs.flatMap (·.2))else none)=some r:=by
   unfold DataW.trod at h;rw[hu]at h;split at h<;>first|(rename_i e;cases e;done)|cases h|skip
   ·rename_i e;simp only[Option.some.injEq,TypeDesc.struct.injEq]at e;subst e;exact h
   ·exact(‹∀fs_1:Array Field,some (TypeDesc.struct fs)=some (TypeDesc.struct fs_1)→False› fs rfl).elim
  split at key
  ·rename_i hk;refine⟨hk,fuel,fun f hf=>?_⟩;rw[bg]at key;obtain⟨xs,hm,hr⟩:=key;obtain⟨hl,hget⟩:=fx hm;obtain⟨i,hi,rfl⟩:=List.getElem_of_mem hf;refine⟨_,hget i hi (by rw[hl];exact hi),fun hW n hn=>hW n ?_⟩;rw[←hr,DataW.weights,hu];refine C2 (i:=i) (t:=fs.toList[i].type) (d:=(xs[i]'(by rw[hl];exact hi)).1) ?_ ?_ hn
   ·rw[List.getElem?_map,List.getElem?_eq_getElem hi];rfl
   ·rw[List.getElem?_map,List.getElem?_eq_getElem (by rw[hl];exact hi)];rfl
  ·cases key
theorem LL{a:Addr}{n c:Nat}(h1:a.spot=none)(h2:a.block<C):xM C (.slice (some a) n c)=some (.l a.block a.off n c):=by
 show(if a.spot=none∧a.block<C then some (V.l a.block a.off n c)else _)=_
 rw[ac ⟨h1,h2⟩]
theorem Bn{a:Addr}{n:Nat}{cs:List Value}(hc:W.cells? 0 a n=some cs)(hn:0<n):a.spot=none∧a.block<W.heap.size:=by
 unfold World.cells? at hc
 rw[ac (aP _)]at hc
 obtain⟨h1,h2⟩:=fx hc
 rw[List.length_range]at h1
 have:=h2 0 (by rw[List.length_range];exact hn) (by omega)
 rw[List.getElem_range,show a.add 0=a from rfl]at this
 unfold World.cell? at this
 split at this
 ·rename_i hh;split at this
  ·cases this
  ·rename_i hs;refine⟨?_,(Array.getElem?_eq_some_iff.1 hh).1⟩;cases hsp:a.spot with
   |none=>rfl
   |some k=>rw[hsp]at hs;simp at hs
 ·cases this
theorem Yt{sz:Nat}{a:Addr}{len cap:Nat}{Q:List Value→List V→Prop}(hs:a.spot=none)(hb:a.block<C)(hlc:len≤cap)
 (h:∀i,i<len→ ∃cs vs,W.cells? 0 (a.add (i*sz)) sz=some cs∧B0 C cs vs∧Q cs vs):
 ∃es:List (List V),es.length=len∧dp (dR W C) .e C sz (.l a.block a.off len cap) es∧ ∀i (hi:i<es.length),∃cs,Q cs es[i]:=by
 obtain⟨b,o,sp⟩:=a
 obtain rfl:sp=none:=hs
 have hget:∀i,i<len→ ∃cs vs,B0 C cs vs∧Q cs vs∧cs.length=sz∧ ∀k (hk:k<cs.length),W.cell? ⟨b,o+i*sz+k,none⟩=some cs[k]:=by
  intro i hi;obtain⟨cs,vs,h1,h2,h3⟩:=h i hi;rw[Addr.add_eq]at h1;unfold World.cells? at h1;rw[ac (aP _)]at h1;obtain⟨h4,h5⟩:=fx h1;rw[List.length_range]at h4;refine⟨cs,vs,h2,h3,h4,fun k hk=>?_⟩;have:=h5 k (by rw[List.length_range];omega) hk;rw[List.getElem_range,Addr.add_eq]at this;exact this
 have key:∀n,n≤len→ ∃es:List (List V),es.length=n∧(∀e∈es,e.length=sz)∧cQ (dR W C) .e b o es.flatten∧ ∀i (hi:i<es.length),∃cs,Q cs es[i]:=by
  intro n
  induction n with
  |zero=>intro _;exact⟨[],rfl,fun e he=>(by cases he),fun k hk=>(by simp at hk),fun i hi=>(by simp at hi)⟩
  |succ n ih=>
   intro hn;obtain⟨es,h1,h2,h3,h4⟩:=ih (by omega);obtain⟨cs,vs,g1,g2,g3,g4⟩:=hget n (by omega);have hvl:vs.length=sz:=by rw[←g1.len];exact g3
   have h2':∀e∈es++[vs],e.length=sz:=by
    intro e he;rw[List.mem_append,List.mem_singleton]at he;rcases he with he|rfl
    ·exact h2 e he
    ·exact hvl
   have hfl:es.flatten.length=n*sz:=by rw[fR h2,h1]
   refine⟨es++[vs],by simp[h1],h2',?_,fun i hi=>?_⟩
   ·intro k hk;rw[List.flatten_append]at hk⊢;simp only[List.flatten_cons,List.flatten_nil,dw,aV]at hk⊢;by_cases hk1:k<es.flatten.length
    ·rw[List.getElem?_append_left hk1];exact h3 k hk1
    ·rw[List.getElem?_append_right (by omega),hfl];have hr:=Yc (o:=o+n*sz) g1 g4 (k-n*sz) (by omega);rw[←hr];congr 1;omega
   ·by_cases hi1:i<es.length
    ·rw[np hi1];exact h4 i hi1
    ·rw[l7 (by omega)];have:i-es.length=0:=by simp at hi;omega
     simp only[this,List.getElem_cons_zero];exact⟨cs,g2⟩
 obtain⟨es,h1,h2,h3,h4⟩:=key len (ak _)
 refine⟨es,h1,⟨h2,.inr ⟨b,o,.inl ⟨cap,by omega,by rw[h1]⟩,hb,h3⟩⟩,h4⟩
theorem ak9{α:Type}{n:Nat}{Q:Nat→α→Prop}(h:∀i,i<n→ ∃x,Q i x):∃l:List α,l.length=n∧ ∀i (hi:i<l.length),Q i l[i]:=by
 induction n with
 |zero=>exact⟨[],rfl,fun i hi=>(by simp at hi)⟩
 |succ n ih=>
  obtain⟨l,h1,h2⟩:=ih fun i hi=>h i (by omega);obtain⟨x,hx⟩:=h n (by omega);refine⟨l++[x],by simp[h1],fun i hi=>?_⟩;by_cases hi1:i<l.length
  ·rw[np hi1];exact h2 i hi1
  ·rw[l7 (by omega)];have e:i=n:=by simp at hi;omega
   subst e;simp only[h1,Nat.sub_self,List.getElem_cons_zero];exact hx
theorem Ty.size_pos{P:Program}{ty:Ty}{t:TypeId}(h:ul P ty t=true):0<ty.size:=by
 induction ty generalizing t with
 |cons a b iha _=>
  rw[ul]at h;split at h
  ·simp only[aJ]at h;obtain⟨_,h⟩:=h;split at h
   ·simp only[aJ]at h;have:=iha h.2.2.1;show 0<a.size+b.size;omega
   ·cases h
  ·cases h
 |nil=>cases h
 |_=>exact Nat.one_pos
mutual
theorem uF{B:Nat}(hsp:∀b,sp b=true)(hC:W.heap.size≤C):∀(ty:Ty) (t:TypeId) (cs:List Value) (fuel:Nat) (r:DataW H×List MemPlace),ul P ty t=true→DataW.trod enc P W 0 sp held fuel t cs=some r→
 (ty.hasSl=true→ ∀v∈cs,KY C v)→(ty.deep=true→ ∀a x,W.cell? a=some x→KY C x)→ ∃vs x,B0 C cs vs∧Rp (dR W C) .e C ty vs x∧(G9 P B t r.1→Sz B ty x)
 | .bool,t,cs,fuel,r,hb,h,h1,h2=>by
   rw[ul]at hb;split at hb
   ·rename_i hu;obtain⟨b,rfl⟩:=yS hu h;exact⟨[.b b],b,rfl,rfl,fun _=>trivial⟩
   ·cases hb
 | .int k,t,cs,fuel,r,hb,h,h1,h2=>by
   rw[ul]at hb;split at hb
   ·rename_i k' hu;obtain rfl:=b9 hb;obtain⟨n,rfl,hn⟩:=CB hu h;exact⟨[.i k' n],n,rfl,⟨rfl,hn⟩,fun _=>trivial⟩
   ·cases hb
 | .str,t,cs,fuel,r,hb,h,h1,h2=>by
   rw[ul]at hb;split at hb
   ·rename_i hu;obtain⟨s,rfl,hs,hr⟩:=CD hu h;refine⟨[sV s.data.toList],s.data.toList,rfl,⟨rfl,hs⟩,fun hW=>hW _ ?_⟩;rw[hr,DataW.weights];exact List.mem_singleton.2 rfl
   ·cases hb
 | .sl e,t,cs,fuel,r,hb,h,h1,h2=>by
   rw[ul]at hb;split at hb
   ·rename_i te hu;simp only[aJ,decide_eq_true_eq]at hb;obtain⟨⟨hsz,hbp⟩,hb⟩:=hb;have hpos:=Ty.size_pos hb;rcases Jr (B:=B) hu h with rfl|⟨a,len,cap,fuel',rfl,hlc,hcap,hel,hlW,hfirst⟩
    ·exact⟨[.l0],[],rfl,⟨.l0,[],rfl,⟨fun e he=>(by cases he),.inl ⟨rfl,.inl rfl⟩⟩,aP _,rfl,fun i hi=>(by cases hi)⟩,fun _=>⟨aP _,fun y hy=>(by cases hy)⟩⟩
    ·have hz:=h1 rfl _ (List.mem_singleton.2 rfl);rw[hsz]at hel hfirst;have hok:(a.spot=none∧a.block<C)∨(len=0∧cap=0∧Bd a<C∧ ¬(a.spot=none∧a.block<C)):=by
      by_cases h0:0<cap
      ·obtain⟨es,he⟩:=hfirst (hsp _) h0;obtain⟨g1,g2⟩:=Bn he hpos;exact .inl ⟨g1,Nat.lt_of_lt_of_le g2 hC⟩
      ·obtain rfl:cap=0:=by omega
       obtain rfl:len=0:=by omega
       by_cases hq:a.spot=none∧a.block<C
       ·exact .inl hq
       ·exact .inr ⟨rfl,rfl,hz.resolve_left hq,hq⟩
     rcases hok with hok|⟨rfl,rfl,he,hq⟩
     rotate_left
     ·refine⟨[.ue (Bd a) 1 0],[],?_,⟨.ue (Bd a) 1 0,[],rfl,⟨fun e he=>(by cases he),.inl ⟨rfl,.inr ⟨_,_,_,rfl⟩⟩⟩,aP _,rfl,fun i hi=>(by cases hi)⟩,fun _=>⟨aP _,fun y hy=>(by cases hy)⟩⟩;show[xM C _]=[some _]
      congr 1
      show(if a.spot=none∧a.block<C then _ else if 0=0∧0=0∧Bd a<C then some (V.ue (Bd a) 1 0)else none)=_;rw[ab hq,ac ⟨rfl,rfl,he⟩]
     obtain⟨es,hl,hS,hQ⟩:=Yt (cap:=cap) (C:=C) (Q:=fun _ vs=>∃x,Rp (dR W C) .e C e vs x∧(G9 P B t r.1→Sz B e x)) hok.1 hok.2 hlc (fun i hi=>by
      obtain⟨cs',x,hc,ht,hxW⟩:=hel i hi
      obtain⟨vs,y,hv,hR,hZ⟩:=uF (B:=B) hsp hC e te cs' fuel' x hb ht
       (fun he v hv=>by
        obtain⟨j,hj,rfl⟩:=List.getElem_of_mem hv;unfold World.cells? at hc;rw[ac (aP _)]at hc;obtain⟨h4,h5⟩:=fx hc;exact h2 he _ _ (h5 j (by rw[List.length_range]at h4⊢;omega) hj))
       (fun he=>h2 (by
        have key:∀t:Ty,t.deep=true→t.hasSl=true:=by
         intro t
         induction t with
         |cons a b iha ihb=>
          intro hd;have hd':(a.deep||b.deep)=true:=hd;show(a.hasSl||b.hasSl)=true;rw[Bool.or_eq_true]at hd'⊢;exact hd'.imp iha ihb
         |sl e _=>intro _;rfl
         |_=>intro hd;cases hd
        exact key e he))
      exact⟨cs',vs,hc,hv,y,hR,fun hW=>hZ (hxW hW)⟩)
     obtain⟨xs,hxl,hx⟩:=ak9 (n:=es.length) (Q:=fun i x=>(∀h:i<es.length,Rp (dR W C) .e C e es[i] x)∧(G9 P B t r.1→Sz B e x)) (fun i hi=>by
      obtain⟨_,x,hR,hZ⟩:=hQ i hi;exact⟨x,fun _=>hR,hZ⟩)
     refine⟨[.l a.block a.off len cap],xs,?_,⟨.l a.block a.off len cap,es,rfl,hS,?_,hxl.symm,fun i hi hi'=>(hx i hi').1 hi⟩,fun hW=>⟨?_,fun y hy=>?_⟩⟩
     ·show[xM C _]=[some _]
      rw[LL hok.1 hok.2]
     ·show List.length xs≤_;omega
     ·show List.length xs≤_;rw[hxl,hl];exact bp (Nat.le_mul_of_pos_right _ hbp) (hlW hW)
     ·obtain⟨i,hi,rfl⟩:=List.getElem_of_mem hy;exact(hx i hi).2 hW
   ·cases hb
 | .nil,t,cs,fuel,r,hb,h,h1,h2=>by cases hb
 | .cons a b,t,cs,fuel,r,hb,h,h1,h2=>by
   rw[ul]at hb;split at hb
   ·rename_i fs hu;simp only[aJ,decide_eq_true_eq]at hb;obtain⟨hsz,hb⟩:=hb;obtain⟨hlen,fuel',hf⟩:=Js (B:=B) hu h;split at hb
    ·rename_i f rest hfs;simp only[aJ,decide_eq_true_eq]at hb;obtain⟨ho,hfa,hta,hrest⟩:=hb;rw[hfs]at hf;obtain⟨x,hx,hxW⟩:=hf f (cd ..);rw[ho,hfa]at hx;have hs:(a.hasSl=true→ ∀v∈(cs.drop 0).take a.size,KY C v):=fun ha v hv=>h1 (by show(a.hasSl||b.hasSl)=true;rw[ha];rfl) v (List.mem_of_mem_drop (List.mem_of_mem_take hv));obtain⟨v1,x1,hv1,hR1,hZ1⟩:=uF (B:=B) hsp hC a f.type _ fuel' x hta hx hs (fun ha=>h2 (by show(a.deep||b.deep)=true;rw[ha];rfl))
     obtain⟨v2,x2,hv2,hR2,hZ2⟩:=Jh (B:=B) (hyp:=G9 P B t r.1) hsp hC b rest cs fuel' a.size hrest (by rw[hlen,hsz]) (fun f' hf'=>hf f' (bK _ hf'))
      (fun hb' v hv=>h1 (by show(a.hasSl||b.hasSl)=true;rw[hb'];simp) v (List.mem_of_mem_drop hv)) (fun hb'=>h2 (by show(a.deep||b.deep)=true;rw[hb'];simp))
     refine⟨v1++v2,(x1,x2),?_,⟨v1,v2,rfl,hR1,hR2⟩,fun hW=>⟨hZ1 (hxW hW),hZ2 hW⟩⟩;have:=hv1.append hv2
     rwa [List.drop_zero,List.take_append_drop]at this
    ·cases hb
   ·cases hb
theorem Jh{B:Nat}{hyp:Prop}(hsp:∀b,sp b=true)(hC:W.heap.size≤C):∀(ty:Ty) (fs:List Field) (cs:List Value) (fuel o:Nat),KB P ty fs o=true→cs.length=o+ty.size→
 (∀f∈fs,∃x,DataW.trod enc P W 0 sp held fuel f.type ((cs.drop f.offset).take (P.cellsOf f.type))=some x∧(hyp→G9 P B f.type x.1))→
 (ty.hasSl=true→ ∀v∈cs.drop o,KY C v)→(ty.deep=true→ ∀a x,W.cell? a=some x→KY C x)→ ∃vs x,B0 C (cs.drop o) vs∧Rp (dR W C) .e C ty vs x∧(hyp→Sz B ty x)
 | .nil,[],cs,fuel,o,hb,hl,hf,h1,h2=>by
   refine⟨[],(),?_,rfl,fun _=>trivial⟩;rw[List.drop_eq_nil_of_le (by have:(Ty.nil).size=0:=rfl;omega)];rfl
 | .nil,_::_,cs,fuel,o,hb,hl,hf,h1,h2=>by cases hb
 | .bool,fs,cs,fuel,o,hb,hl,hf,h1,h2=>by cases fs<;>cases hb
 | .int k,fs,cs,fuel,o,hb,hl,hf,h1,h2=>by cases fs<;>cases hb
 | .str,fs,cs,fuel,o,hb,hl,hf,h1,h2=>by cases fs<;>cases hb
 | .sl e,fs,cs,fuel,o,hb,hl,hf,h1,h2=>by cases fs<;>cases hb
 | .cons a b,[],cs,fuel,o,hb,hl,hf,h1,h2=>by cases hb
 | .cons a b,f::rest,cs,fuel,o,hb,hl,hf,h1,h2=>by
   rw[KB]at hb;simp only[aJ,decide_eq_true_eq]at hb;obtain⟨ho,hfa,hta,hrest⟩:=hb;have hl':cs.length=o+(a.size+b.size):=hl;obtain⟨x,hx,hxW⟩:=hf f (cd ..);rw[ho,hfa]at hx;obtain⟨v1,x1,hv1,hR1,hZ1⟩:=uF (B:=B) hsp hC a f.type _ fuel x hta hx (fun ha v hv=>h1 (by show(a.hasSl||b.hasSl)=true;rw[ha];rfl) v (List.mem_of_mem_take hv)) (fun ha=>h2 (by show(a.deep||b.deep)=true;rw[ha];rfl))
   obtain⟨v2,x2,hv2,hR2,hZ2⟩:=Jh (B:=B) (hyp:=hyp) hsp hC b rest cs fuel (o+a.size) hrest (by omega) (fun f' hf'=>hf f' (bK _ hf'))
    (fun hb' v hv=>h1 (by show(a.hasSl||b.hasSl)=true;rw[hb'];simp) v (by rw[←List.drop_drop]at hv;exact List.mem_of_mem_drop hv)) (fun hb'=>h2 (by show(a.deep||b.deep)=true;rw[hb'];simp))
   refine⟨v1++v2,(x1,x2),?_,⟨v1,v2,rfl,hR1,hR2⟩,fun hW=>⟨hZ1 (hxW hW),hZ2 hW⟩⟩;have:=hv1.append hv2
   rwa [←List.drop_drop,List.take_append_drop]at this
end
theorem E5{W W':World}(h:∀i,i<W.heap.size→W'.heap[i]?=W.heap[i]?){a:Addr}{n:Nat}{cs:List Value}(hc:W.cells? 0 a n=some cs):W'.cells? 0 a n=some cs:=by
 unfold World.cells? at hc⊢
 rw[ac (aP _)]at hc⊢
 have key:∀(l:List Nat) (r:List Value),(l.mapM fun i=>W.cell? (a.add i))=some r→(l.mapM fun i=>W'.cell? (a.add i))=some r:=by
  intro l
  induction l with
  |nil=>intro r hr;exact hr
  |cons x l ih=>
   intro r hr;rw[List.mapM_cons]at hr⊢;cases h1:W.cell? (a.add x)with
   |none=>rw[h1]at hr;cases hr
   |some v=>
    have e:W'.cell? (a.add x)=some v:=by
     unfold World.cell? at h1⊢;split at h1
     ·rename_i hh;rw[h _ (Array.getElem?_eq_some_iff.1 hh).1,hh];exact h1
     ·cases h1
    rw[h1]at hr;rw[e];cases h2:l.mapM fun i=>W.cell? (a.add i)with
    |none=>rw[h2]at hr;cases hr
    |some vs=>
     rw[h2]at hr;rw[ih vs h2];exact hr
 exact key _ _ hc
theorem Wt{W:World}{a:Addr}{n:Nat}{cs:List Value}(hc:W.cells? 0 a n=some cs)(hn:0<n):a.block<W.heap.size:=by
 unfold World.cells? at hc
 rw[ac (aP _)]at hc
 obtain⟨h1,h2⟩:=fx hc
 rw[List.length_range]at h1
 have:=h2 0 (by rw[List.length_range];exact hn) (by omega)
 rw[List.getElem_range]at this
 unfold World.cell? at this
 split at this
 ·rename_i hh;have:=(Array.getElem?_eq_some_iff.1 hh).1;unfold Addr.add at this
  simpa using this
 ·cases this
theorem rg{α β:Type}{f g:α→Option β}:∀{l:List α} {r:List β},l.mapM f=some r→(∀x∈l,∀y,f x=some y→g x=some y)→l.mapM g=some r
 |[],r,h,_=>h
 |a::l,r,h,hfg=>by
  rw[List.mapM_cons]at h⊢;cases h1:f a with
  |none=>rw[h1]at h;cases h
  |some b=>
   rw[h1]at h;rw[hfg a (cd ..) b h1];cases h2:l.mapM f with
   |none=>rw[h2]at h;cases h
   |some bs=>
    rw[h2]at h;rw[rg h2 fun x hx=>hfg x (bK _ hx)];exact h
theorem Fu{t:TypeId}{fs:Array Field}{cs:List Value}{fuel:Nat}(hu:P.underlying t=some (.struct fs))(hlen:cs.length=P.cellsOf t):DataW.trod enc P W 0 sp held (fuel+1) t cs=
 (fs.toList.mapM fun f=>DataW.trod enc P W 0 sp held fuel f.type ((cs.drop f.offset).take (P.cellsOf f.type))).map fun xs=>(DataW.agg (xs.map (·.1)),xs.flatMap (·.2)):=by
 rw[DataW.trod_step]
 unfold DataW.trodStep
 rw[hu]
 clear hu
 split
 all_goals first
  |(rename_i e;simp only[Option.some.injEq,TypeDesc.struct.injEq]at e;subst e;rw[ac hlen];done)
  |(rename_i e;cases e;done)
  |exact(‹∀fs_1:Array Field,some (TypeDesc.struct fs)=some (TypeDesc.struct fs_1)→False› fs rfl).elim
  |skip
mutual
theorem oP{W W':World}(hW:∀i,i<W.heap.size→W'.heap[i]?=W.heap[i]?):∀(ty:Ty) (t:TypeId) (cs:List Value) (fuel:Nat) (r:DataW H×List MemPlace),ul P ty t=true→
 DataW.trod enc P W 0 (fun _=>true) held fuel t cs=some r→DataW.trod enc P W' 0 (fun b=>decide (b<W.heap.size)) held fuel t cs=some r
 |ty,t,cs,0,r,hb,h=>by cases h
 | .bool,t,cs,fuel+1,r,hb,h=>by
   rw[ul]at hb;split at hb
   ·rename_i hu;obtain⟨b,rfl⟩:=yS hu h;simp only[DataW.trod,hu]at h⊢;exact h
   ·cases hb
 | .int k,t,cs,fuel+1,r,hb,h=>by
   rw[ul]at hb;split at hb
   ·rename_i k' hu;obtain rfl:=b9 hb;obtain⟨n,rfl,hn⟩:=CB hu h;simp only[DataW.trod,hu]at h⊢;exact h
   ·cases hb
 | .str,t,cs,fuel+1,r,hb,h=>by
   rw[ul]at hb;split at hb
   ·rename_i hu;obtain⟨s,rfl,hs⟩:=CD hu h;simp only[DataW.trod,hu]at h⊢;exact h
   ·cases hb
 | .sl e,t,cs,fuel+1,r,hb,h=>by
   rw[ul]at hb;split at hb
   ·rename_i te hu;simp only[aJ,decide_eq_true_eq]at hb;obtain⟨⟨hsz,_⟩,hb⟩:=hb;have hpos:=Ty.size_pos hb;rcases Jr (B:=0) hu h with rfl|⟨a,len,cap,fuel',rfl,hlc,hcap,hel⟩
    ·simp only[DataW.trod,hu]at h⊢;exact h
    ·simp only[DataW.trod,hu]at h⊢;rw[ac ⟨aP _,hlc,hcap⟩]at h⊢
     have elem:∀i y,(W.cells? 0 (a.add (i*P.cellsOf te)) (P.cellsOf te)).bind (DataW.trod enc P W 0 (fun _=>true) held fuel te)=some y→
      (W'.cells? 0 (a.add (i*P.cellsOf te)) (P.cellsOf te)).bind (DataW.trod enc P W' 0 (fun b=>decide (b<W.heap.size)) held fuel te)=some y:=by
      intro i y hy;cases hc:W.cells? 0 (a.add (i*P.cellsOf te)) (P.cellsOf te)with
      |none=>rw[hc]at hy;cases hy
      |some es=>
       rw[hc]at hy;rw[E5 hW hc];exact oP hW e te es fuel y hb hy
     cases hm:(List.range len).mapM fun i=>(W.cells? 0 (a.add (i*P.cellsOf te)) (P.cellsOf te)).bind (DataW.trod enc P W 0 (fun _=>true) held fuel te)with
     |none=>rw[hm]at h;cases h
     |some elems=>
      rw[hm]at h;rw[rg hm fun i _=>elem i];simp only[Option.bind_some,if_true]at h⊢;by_cases hblk:a.block<W.heap.size
      ·rw[af hblk];simp only[if_true];cases hm2:(List.range (cap-len)).mapM fun j=>(W.cells? 0 (a.add ((len+j)*P.cellsOf te)) (P.cellsOf te)).bind (DataW.trod enc P W 0 (fun _=>true) held fuel te)with
       |none=>rw[hm2]at h;cases h
       |some rest=>
        rw[hm2]at h;rw[rg hm2 fun i _=>elem (len+i)];exact h
      ·rw[ag hblk];have h0:cap-len=0:=by
        by_cases h0:cap-len=0
        ·exact h0
        ·exfalso;cases hm2:(List.range (cap-len)).mapM fun j=>(W.cells? 0 (a.add ((len+j)*P.cellsOf te)) (P.cellsOf te)).bind (DataW.trod enc P W 0 (fun _=>true) held fuel te)with
         |none=>rw[hm2]at h;cases h
         |some rest=>
          obtain⟨g1,g2⟩:=fx hm2;rw[List.length_range]at g1;have:=g2 0 (by rw[List.length_range];omega) (by omega);cases hc:W.cells? 0 (a.add ((len+(List.range (cap-len))[0]'(by rw[List.length_range];omega))*P.cellsOf te)) (P.cellsOf te)with
          |none=>rw[hc]at this;cases this
          |some es=>
           have:=Wt hc (by omega);unfold Addr.add at this;split at this<;>exact hblk this
       rw[h0]at h;simp only[List.range_zero,List.mapM_nil]at h;exact h
   ·cases hb
 | .nil,t,cs,fuel+1,r,hb,h=>by cases hb
 | .cons a b,t,cs,fuel+1,r,hb,h=>by
   rw[ul]at hb;split at hb
   ·rename_i fs hu;simp only[aJ,decide_eq_true_eq]at hb;obtain⟨hsz,hb⟩:=hb;obtain⟨hlen,_⟩:=Js (B:=0) hu h;rw[Fu hu hlen]at h⊢;split at hb
    ·rename_i f rest hfs;simp only[aJ,decide_eq_true_eq]at hb;obtain⟨ho,hfa,hta,hrest⟩:=hb;rw[bg]at h;obtain⟨xs,hm,rfl⟩:=h;rw[hfs]at hm⊢
     rw[rg hm fun g hg y hy=>by
      rcases bj.1 hg with rfl|hg
      ·exact oP hW a _ _ fuel y hta hy
      ·exact yn hW b rest fuel a.size hrest g hg _ y hy]
     rfl
    ·cases hb
   ·cases hb
theorem yn{W W':World}(hW:∀i,i<W.heap.size→W'.heap[i]?=W.heap[i]?):∀(ty:Ty) (fs:List Field) (fuel o:Nat),KB P ty fs o=true→ ∀f∈fs,∀(cs:List Value) (y:DataW H×List MemPlace),
 DataW.trod enc P W 0 (fun _=>true) held fuel f.type cs=some y→DataW.trod enc P W' 0 (fun b=>decide (b<W.heap.size)) held fuel f.type cs=some y
 | .nil,[],fuel,o,hb,f,hf,cs,y,h=>by cases hf
 | .nil,_::_,fuel,o,hb,f,hf,cs,y,h=>by cases hb
 | .bool,fs,fuel,o,hb,f,hf,cs,y,h=>by cases fs<;>cases hb
 | .int k,fs,fuel,o,hb,f,hf,cs,y,h=>by cases fs<;>cases hb
 | .str,fs,fuel,o,hb,f,hf,cs,y,h=>by cases fs<;>cases hb
 | .sl e,fs,fuel,o,hb,f,hf,cs,y,h=>by cases fs<;>cases hb
 | .cons a b,[],fuel,o,hb,f,hf,cs,y,h=>by cases hb
 | .cons a b,g::rest,fuel,o,hb,f,hf,cs,y,h=>by
   rw[KB]at hb;simp only[aJ,decide_eq_true_eq]at hb;obtain⟨ho,hfa,hta,hrest⟩:=hb;rcases bj.1 hf with rfl|hf
   ·exact oP hW a _ _ fuel y hta h
   ·exact yn hW b rest fuel _ hrest f hf cs y h
end
def Ty.arg:Ty→List V→V
 | .cons _ _,vs=> .g vs
 |_,v::_=>v
 |_,[]=>undef
def Mn(F:RO)(C:Nat):List Ty→List V→Prop
 |[],as=>as=[]
 |ty::r,as=>∃vs x a',as=ty.arg vs::a'∧Rp F .e C ty vs x∧Mn F C r a'
def LF(P:Program):List Ty→List TypeId→Bool
 |[],[]=>true
 |ty::r,t::ts=>ul P ty t&&LF P r ts
 |_,_=>false
theorem C6{base:Nat}{u:TypeId}{v:Value}(h:Cell.okWide P W .any base u v)(hC:W.heap.size≤C):KY C v:=by
 unfold KY
 split
 ·rename_i a;have key:W.has P .any base a 0 0∨ ∃e n,W.has P .any base a e n:=by
   unfold Cell.okWide at h;split at h<;>first|(rename_i e;cases e;done)|skip
   ·rename_i hne;unfold Cell.ok at h;split at h<;>first|(rename_i e;cases e;done)|skip
    all_goals first
     |exact h.elim
     |skip
    all_goals (rename_i e1 e2;first|cases e2|skip)
    exact .inr ⟨_,_,h.2.2⟩
  have:∃e n,W.has P .any base a e n:=by
   rcases key with h|h
   ·exact⟨0,0,h⟩
   ·exact h
  obtain⟨e,n,_,h1,row,cells,h2,_⟩:=this;refine .inl ⟨h1,?_⟩;unfold World.shape? at h2;split at h2
  ·rename_i hh;exact Nat.lt_of_lt_of_le (Array.getElem?_eq_some_iff.1 hh).1 hC
  ·cases h2
 ·trivial
theorem am5{base:Nat}{t:TypeId}{v:Value}(h:Value.okWide P W .any base t v)(hC:W.heap.size≤C):∀x∈v.cells.toList,KY C x:=by
 intro x hx
 unfold Value.okWide at h
 have agg:(∃cs,v= .agg cs∧cs.size=P.cellsOf t∧Row.okWide P W .any base t cs)→KY C x:=by
  rintro⟨cs,rfl,_,ts,_,_,hcell⟩;obtain⟨i,hi,rfl⟩:=List.getElem_of_mem hx
  obtain⟨u,_,hu⟩:=hcell i _ (by
   show cs[i]?=some _;rw[Array.getElem?_eq_getElem (by simpa [Value.cells]using hi)])
  exact C6 hu hC
 split at h
 ·exact agg h
 ·exact agg h
 ·have hv:v.cells=#[v]∨ ∃cs,v= .agg cs:=by
   cases v<;>first|exact .inl rfl|exact .inr ⟨_,rfl⟩
  rcases hv with hv|⟨cs,rfl⟩
  ·rw[hv]at hx;obtain rfl:x=v:=by simpa using hx
   exact C6 h hC
  ·exfalso;unfold Cell.okWide at h;split at h<;>first|(rename_i e1 e2;cases e2;done)|skip
   unfold Cell.ok at h;split at h<;>first|(rename_i e1 e2;cases e2;done)|exact h
theorem bs8{base:Nat}{t:TypeId}{v:Value}{fs:Array Field}(h:Value.okWide P W .any base t v)(hu:P.underlying t=some (.struct fs)):∃cs,v= .agg cs:=by
 unfold Value.okWide at h
 rw[hu]at h
 obtain⟨cs,e,_⟩:=h
 exact⟨cs,e⟩
theorem ad9{ty:Ty}{t:TypeId}{base:Nat}{v:Value}(h:Value.okWide P W .any base t v)(hb:ul P ty t=true)(hn:∀a b,ty≠ .cons a b):v.cells=#[v]:=by
 have hu:∀fs,P.underlying t≠some (.struct fs):=by
  intro fs hu;cases ty with
  |cons a b=>exact hn a b rfl
  |nil=>cases hb
  |_=>rw[ul,hu]at hb;cases hb
 have hu2:∀n e,P.underlying t≠some (.array n e):=by
  intro n e hu;cases ty with
  |cons a b=>exact hn a b rfl
  |nil=>cases hb
  |_=>rw[ul,hu]at hb;cases hb
 unfold Value.okWide at h
 split at h
 ·exact(hu _ (by assumption)).elim
 ·exact(hu2 _ _ (by assumption)).elim
 ·cases v<;>first|rfl|skip
  exfalso;unfold Cell.okWide at h;split at h<;>first|(rename_i e1 e2;cases e2;done)|skip
  unfold Cell.ok at h;split at h<;>first|(rename_i e1 e2;cases e2;done)|exact h
theorem bt2(hsp:∀b,sp b=true){ty:Ty}{t:TypeId}{base:Nat}{v:Value}{d:DataW H}{ps:List MemPlace}(hb:ul P ty t=true)(h:DataW.Trod enc P W 0 sp held t v d ps)(hv:Value.okWide P W .any base t v)(hC:W.heap.size≤C)
 (hd:ty.deep=true→ ∀a x,W.cell? a=some x→KY C x) (B:Nat):∃vs x,conc E0 (ty.arg vs)=v∧bd (· <C) (ty.arg vs)∧Rp (dR W C) .e C ty vs x∧(G9 P B t d→Sz B ty x):=by
 obtain⟨fuel,h⟩:=h
 obtain⟨vs,x,h1,h2⟩:=uF (B:=B) hsp hC ty t _ fuel _ hb h (fun _=>am5 hv hC) hd
 obtain⟨c1,c2⟩:=h1.conc
 refine⟨vs,x,?_,?_,h2⟩
 ·cases ty with
  |cons a b=>
   rw[ul]at hb;split at hb
   ·rename_i fs hu;obtain⟨cs,rfl⟩:=bs8 hv hu;show Value.agg (az E0 vs).toArray=_;rw[c1];simp[Value.cells]
   ·cases hb
  |nil=>cases hb
  |_=>
   have hc:=ad9 hv hb (by intro a b e;cases e);rw[hc]at c1 h1;have hl:=h1.len
   match vs,hl with
   |[w],_=>
    have:[conc E0 w]=[v]:=c1;injection this
 ·cases ty with
  |cons a b=>exact c2
  |nil=>cases hb
  |_=>
   cases vs with
   |nil=>trivial
   |cons w r=>exact c2.1
theorem Gh(hsp:∀b,sp b=true){base:Nat}(hC:W.heap.size≤C):∀{Dp:List Ty} {ts:List TypeId} {vs:List Value} {ds:List (DataW H)} {ps:List MemPlace},LF P Dp ts=true→DataW.TrodAll enc P W 0 sp held ts vs ds ps→
 (∀(j:Nat) t v,ts[j]?=some t→vs[j]?=some v→Value.okWide P W .any base t v)→(Dp.any Ty.deep=true→ ∀a x,W.cell? a=some x→KY C x)→ ∃as,az E0 as=vs∧fK (· <C) as∧Mn (dR W C) C Dp as
 |[],[],[],ds,ps,hb,h,hv,hd=>⟨[],rfl,trivial,rfl⟩
 |[],[],_::_,ds,ps,hb,h,hv,hd=>by cases ds<;>cases h
 |[],_::_,vs,ds,ps,hb,h,hv,hd=>by cases hb
 |_::_,[],vs,ds,ps,hb,h,hv,hd=>by cases hb
 |ty::Dp,t::ts,[],ds,ps,hb,h,hv,hd=>by cases ds<;>cases h
 |ty::Dp,t::ts,v::vs,[],ps,hb,h,hv,hd=>by cases h
 |ty::Dp,t::ts,v::vs,d::ds,ps,hb,h,hv,hd=>by
  have hb':(ul P ty t&&LF P Dp ts)=true:=hb;rw[aJ]at hb';obtain⟨p,q,h1,h2,_⟩:=h;obtain⟨ws,x,g1,g2,g3,_⟩:=bt2 hsp hb'.1 h1 (hv 0 t v rfl rfl) hC (fun hh=>hd (by rw[List.any_cons,hh];rfl)) 0;obtain⟨as,a1,a2,a3⟩:=Gh hsp hC hb'.2 h2 (fun j t v ht hv'=>hv (j+1) t v ht hv') (fun hh=>hd (by rw[List.any_cons,hh];simp));exact⟨ty.arg ws::as,by rw[az,g1,a1],⟨g2,a2⟩,ws,x,as,rfl,g3,a3⟩
theorem Bg{W':World}(hW:∀i,i<W.heap.size→W'.heap[i]?=W.heap[i]?):∀{Dp:List Ty} {ts:List TypeId} {vs:List Value} {ds:List (DataW H)} {ps:List MemPlace},LF P Dp ts=true→
 DataW.TrodAll enc P W 0 (fun _=>true) held ts vs ds ps→DataW.TrodAll enc P W' 0 (fun b=>decide (b<W.heap.size)) held ts vs ds ps
 |[],[],[],[],ps,hb,h=>h
 |[],[],[],_::_,ps,hb,h=>by cases h
 |[],[],_::_,ds,ps,hb,h=>by cases ds<;>cases h
 |[],_::_,vs,ds,ps,hb,h=>by cases hb
 |_::_,[],vs,ds,ps,hb,h=>by cases hb
 |ty::Dp,t::ts,[],ds,ps,hb,h=>by cases ds<;>cases h
 |ty::Dp,t::ts,v::vs,[],ps,hb,h=>by cases h
 |ty::Dp,t::ts,v::vs,d::ds,ps,hb,h=>by
  have hb':(ul P ty t&&LF P Dp ts)=true:=hb;rw[aJ]at hb';obtain⟨p,q,⟨fuel,h1⟩,h2,e⟩:=h;exact⟨p,q,⟨fuel,oP hW ty t _ fuel _ hb'.1 h1⟩,Bg hW hb'.2 h2,e⟩
theorem XN{W:World}{C:Nat}(hC:W.heap.size≤C)(hk:1000≤C):dH (dR W C) .e C:=by
 refine⟨fun _ _=>rfl,fun b hb=>?_,fun _ _=>rfl,hk⟩
 rw[lh,Array.getElem?_eq_none (by omega)];rfl
def ab2:Value→Nat
 | .slice (some a) 0 0=>Bd a+1
 |_=>0
theorem Bj:∀l:List Value,∃B,∀x∈l,ab2 x≤B
 |[]=>⟨0,fun x hx=>by cases hx⟩
 |v::l=>by
  obtain⟨B,hB⟩:=Bj l;refine⟨max (ab2 v) B,fun x hx=>?_⟩;rcases bj.1 hx with rfl|hx
  ·exact Nat.le_max_left _ _
  ·exact bp (hB x hx) (Nat.le_max_right _ _)
theorem Bi:∀l:List Obj,∃B,∀cs t f,Obj.cells cs t f∈l→ ∀x∈cs.toList,ab2 x≤B
 |[]=>⟨0,fun cs t f h=>by cases h⟩
 |o::l=>by
  obtain⟨B,hB⟩:=Bi l;obtain⟨B',hB'⟩:∃B',∀cs t f,o=Obj.cells cs t f→ ∀x∈cs.toList,ab2 x≤B':=by
   cases o with
   |cells cs t f=>
    obtain⟨B',h⟩:=Bj cs.toList;exact⟨B',fun cs' t' f' e=>by injection e with e1 e2 e3;subst e1;exact h⟩
   |_=>exact⟨0,fun cs t f e=>by cases e⟩
  refine⟨max B B',fun cs t f h x hx=>?_⟩;rcases bj.1 h with h|h
  ·exact bp (hB' cs t f h.symm x hx) (Nat.le_max_right _ _)
  ·exact bp (hB cs t f h x hx) (Nat.le_max_left _ _)
theorem bx3(W:World):∃C,1000≤C∧W.heap.size≤C∧ ∀a x,W.cell? a=some x→KY C x:=by
 obtain⟨B,hB⟩:=Bi W.heap.toList
 refine⟨max 1000 (max W.heap.size B),Nat.le_max_left _ _,bp (Nat.le_max_left _ _) (Nat.le_max_right _ _),fun a x hx=>?_⟩
 unfold World.cell? at hx
 split at hx
 ·rename_i cs t f hh;split at hx
  ·cases hx
  ·have hm:Obj.cells cs t f∈W.heap.toList:=by
    obtain⟨h1,h2⟩:=Array.getElem?_eq_some_iff.1 hh;rw[←h2];exact Array.getElem_mem_toList h1
   have hxm:x∈cs.toList:=by
    obtain⟨h1,h2⟩:=Array.getElem?_eq_some_iff.1 hx;rw[←h2];exact Array.getElem_mem_toList h1
   have hb:=hB cs t f hm x hxm;unfold KY;split
   ·rename_i a';have hb':Bd a'+1≤B:=hb;right;have:=Nat.le_max_right 1000 (max W.heap.size B);have:=Nat.le_max_right W.heap.size B;omega
   ·trivial
 ·cases hx
theorem We{F:RO}{M:Mem}{c:Nat}{vs:List V}{x:(Ty.sl (.int .u8)).D}(h:Rp F M c (.sl (.int .u8)) vs x):∃v,∃l:List UInt8,vs=[v]∧nk F M c v l∧l.length≤9223372036854775807:=by
 obtain⟨v,es,rfl,hs,hl,he,hr⟩:=h
 have key:∀(es:List (List V)) (xs:List Int),es.length=xs.length→(∀i (h:i<es.length) (h':i<xs.length),es[i]=[V.i .u8 xs[i]]∧IntKind.u8.min≤xs[i]∧xs[i]≤IntKind.u8.max)→ ∃l:List UInt8,es=l.map fun x=>[bV x]:=by
  intro es
  induction es with
  |nil=>intro xs _ _;exact⟨[],rfl⟩
  |cons e es ih=>
   intro xs hl h;cases xs with
   |nil=>cases hl
   |cons z xs=>
    obtain⟨l,rfl⟩:=ih xs (by simpa using hl) (fun i hi hi'=>h (i+1) (by simpa using hi) (by simpa using hi'));obtain⟨h1,h2,h3⟩:=h 0 (by simp) (by simp);simp only[List.getElem_cons_zero]at h1 h2 h3;have h2':0≤z:=h2;have h3':z≤255:=h3;refine⟨UInt8.ofNat z.toNat::l,?_⟩;rw[List.map_cons,h1]
    congr 1
    unfold bV;rw[UInt8.toNat_ofNat',Nat.mod_eq_of_lt (by omega)]
    congr 2
    omega
 obtain⟨l,rfl⟩:=key es x he hr
 refine⟨v,l,rfl,hs,?_⟩
 rw[List.length_map]at he
 have hl':List.length x≤2^63-1:=hl
 have:List.length x=l.length:=he.symm
 omega
end
section
variable{Φ:Nat→Option CF}{rd:Option Nat}{fn:Nat}{F:RO}
def Ah:nj→Ex
 | .none=> .nrm
 | .ret=> .ret
 | .ext id=> .ext id
def RfQ(t:T)(d:List Nat)(l:Nat)(Q:Ex→St→Prop)(M:Mem)(c:Nat):Prop:=
 ∃s pe fn tm ps a b dn,M.get l=some (.loop s pe fn tm ps a b dn)∧s≠ .busy∧Q (Ah pe) (.mk t d (M.set l (.loop .exhausted pe fn tm ps a b dn)) c)
theorem ap0{f:X}{ps:List aF}{asg body:CC}{t:T}{d:List Nat}{M:Mem}{l dn:Nat}{Q:Ex→St→Prop}
 (h:xe (ja (K Φ rd fn F) (f.ev t) [.y l] (M.set l (.loop .ready .none fn t ps asg body dn)) (l+1)) fun _ M' c'=>RfQ t d l Q M' c'):
 ∃e s',nU f ps asg body (K Φ rd fn F) t d M l dn= .k e s'∧Q e s':=by
 obtain⟨v,M',c',he,s,pe,fn',tm,ps',a,b,dn',hl,hs,hq⟩:=h
 refine⟨Ah pe,_,?_,hq⟩
 show(M.set l (.loop .ready .none fn t ps asg body dn)).force (fun M=>fN (Nat.succ l) fun c=>kN t d l (ja (K Φ rd fn F) (f.ev t) [.y l] M c))=_
 rw[Tr.force_eq,aQ]
 show kN t d l (ja (K Φ rd fn F) (f.ev t) [.y l] (M.set l (.loop .ready .none fn t ps asg body dn)) (l+1))=_
 rw[he]
 show Cn t d M' c' l (dz (M'.get l))=_
 rw[hl]
 show Cn t d M' c' l (.k s pe fn' tm ps' a b dn')=_
 cases s with
 |busy=>exact absurd rfl hs
 |_=>
  show(M'.set l (.loop .exhausted pe fn' tm ps' a b dn')).force (fun M=>wA (.mk t d M c') pe)=_;rw[Tr.force_eq];cases pe<;>rfl
theorem Zr{f:X}{ps:List aF}{asg body:CC}{t:T}{d:List Nat}{M:Mem}{c:Nat}{Q:Ex→St→Prop}
 (h:xe (ja (K Φ none fn F) (f.ev t) [.y (c+1)] ((M.set c (.defs false)).set (c+1) (.loop .ready .none fn t ps asg body c)) (c+2)) fun _ M' c'=>RfQ t (c::d) (c+1) Q M' c'):
 Wp (.rf f ps asg body) (K Φ none fn F) (.mk t d M c) Q:=by
 obtain⟨e,s',h1,h2⟩:=ap0 h
 refine⟨e,s',?_,h2⟩
 show(M.set c (.defs false)).force (fun M=>fN (Nat.succ c) fun c'=>nU f ps asg body (K Φ none fn F) t (c::d) M c' c)=_
 rw[Tr.force_eq,aQ]
 exact h1
theorem HZ(f:Nat)(first caps args:List V)(M:Mem)(c:Nat):ja (K Φ rd fn F) (.f f first caps) args M c=fc (mK Φ) F f (first++(args++caps)) M c (Φ f):=rfl
def YQ(l:Nat)(P:V→Mem→Nat→Prop)(e:Ex)(s:St):Prop:=
 ∃t' M' c' s0 pe fn tm ps a b dn,s= .mk t' [] M' c'∧M'.get l=some (.loop s0 pe fn tm ps a b dn)∧match e with
  | .nrm=>P (.b true) (M'.set l (.loop .ready .none fn tm ps a b dn)) c'
  | .ret=>P (.b false) (M'.set l (.loop .done .ret fn tm ps a b dn)) c'
  | .ext id=>P (.b false) (M'.set l (.loop .done (.ext id) fn tm ps a b dn)) c'
  | .gto _=>False
theorem Zy{l fn':Nat}{args:List V}{M:Mem}{c:Nat}{P:V→Mem→Nat→Prop}{pe:nj}{tm t:T}{ps:List aF}{asg body:CC}{dn:Nat}(hl:M.get l=some (.loop .ready pe fn' tm ps asg body dn))(hp:d5 ps args tm=some t)
 (h:Wp asg (K Φ (some l) fn' F) (.mk t [] M c) fun e s=>e= .nrm∧ ∃t1 M1 c1 pe1 fn1 tm1 ps1 a1 b1 dn1,s= .mk t1 [] M1 c1∧M1.get l=some (.loop .ready pe1 fn1 tm1 ps1 a1 b1 dn1)∧Wp body (K Φ (some l) fn' F) (.mk t1 [] (M1.set l (.loop .busy pe1 fn1 tm1 ps1 a1 b1 dn1)) c1) (YQ l P)):
 xe (la (K Φ rd fn F) (.y l) args M c) P:=by
 obtain⟨e,s,ha,rfl,t1,M1,c1,pe1,fn1,tm1,ps1,a1,b1,dn1,rfl,hl1,e2,s2,hb,t',M',c',s0,pe',fn2,tm2,ps2,a2,b2,dn2,rfl,hl2,hq⟩:=h
 have e1:la (K Φ rd fn F) (.y l) args M c=kP l (.k e2 (.mk t' [] M' c')):=by
  show qO (K Φ rd fn F) l args M c (dz (M.get l))=_;rw[hl];show CJ (K Φ rd fn F) l fn' asg body M c (d5 ps args tm)=_;rw[hp];show mT (K Φ rd fn F) l fn' body (mK Φ (some l) fn' F asg (.mk t [] M c))=_;rw[sB,ha];show qA (K Φ rd fn F) l fn' body t1 M1 c1 (dz (M1.get l))=_;rw[hl1];show(M1.set l (.loop .busy pe1 fn1 tm1 ps1 a1 b1 dn1)).force (fun M=>kP l (mK Φ (some l) fn' F body (.mk t1 [] M c1)))=_;rw[Tr.force_eq,sB,hb]
 rw[e1]
 cases e2 with
 |nrm=>
  refine⟨_,_,_,?_,hq⟩;show tR M' l c' .ready .none true (dz (M'.get l))=_;rw[hl2];show(M'.set l (.loop .ready .none fn2 tm2 ps2 a2 b2 dn2)).force (fun M=>RC.k (.b true) M c')=_;rw[Tr.force_eq]
 |ret=>
  refine⟨_,_,_,?_,hq⟩;show tR M' l c' .done .ret false (dz (M'.get l))=_;rw[hl2];show(M'.set l (.loop .done .ret fn2 tm2 ps2 a2 b2 dn2)).force (fun M=>RC.k (.b false) M c')=_;rw[Tr.force_eq]
 |ext id=>
  refine⟨_,_,_,?_,hq⟩;show tR M' l c' .done (.ext id) false (dz (M'.get l))=_;rw[hl2];show(M'.set l (.loop .done (.ext id) fn2 tm2 ps2 a2 b2 dn2)).force (fun M=>RC.k (.b false) M c')=_;rw[Tr.force_eq]
 |gto l=>exact hq.elim
def bY9(Φ:Nat→Option CF)(F:RO)(l fn':Nat)(body:CC)(P:V→Mem→Nat→Prop)(e:Ex)(s:St):Prop:=
 e= .nrm∧ ∃t1 M1 c1 pe1 fn1 tm1 ps1 a1 b1 dn1,s= .mk t1 [] M1 c1∧M1.get l=some (.loop .ready pe1 fn1 tm1 ps1 a1 b1 dn1)∧Wp body (K Φ (some l) fn' F) (.mk t1 [] (M1.set l (.loop .busy pe1 fn1 tm1 ps1 a1 b1 dn1)) c1) (YQ l P)
theorem Gj{l fn':Nat}{body:CC}{P:V→Mem→Nat→Prop}{t1:T}{M1:Mem}{c1:Nat}{pe1:nj}{fn1:Nat}{tm1:T}{ps1:List aF}{a1 b1:CC}{dn1:Nat}(hl:M1.get l=some (.loop .ready pe1 fn1 tm1 ps1 a1 b1 dn1))
 (h:Wp body (K Φ (some l) fn' F) (.mk t1 [] (M1.set l (.loop .busy pe1 fn1 tm1 ps1 a1 b1 dn1)) c1) (YQ l P)):bY9 Φ F l fn' body P .nrm (.mk t1 [] M1 c1):=⟨rfl,_,_,_,_,_,_,_,_,_,_,rfl,hl,h⟩
theorem CK{l fn':Nat}{args:List V}{M:Mem}{c:Nat}{P:V→Mem→Nat→Prop}{pe:nj}{tm t:T}{ps:List aF}{asg body:CC}{dn:Nat}(hl:M.get l=some (.loop .ready pe fn' tm ps asg body dn))(hp:d5 ps args tm=some t)
 (h:Wp asg (K Φ (some l) fn' F) (.mk t [] M c) (bY9 Φ F l fn' body P)):xe (la (K Φ rd fn F) (.y l) args M c) P:=Zy hl hp h
theorem Zz{l:Nat}{P:V→Mem→Nat→Prop}{t':T}{M':Mem}{c':Nat}{s0:LS}{pe:nj}{fn:Nat}{tm:T}{ps:List aF}{a b:CC}{dn:Nat}(hl:M'.get l=some (.loop s0 pe fn tm ps a b dn))(h:P (.b true) (M'.set l (.loop .ready .none fn tm ps a b dn)) c'):YQ l P .nrm (.mk t' [] M' c'):=
 ⟨_,_,_,_,_,_,_,_,_,_,_,rfl,hl,h⟩
theorem bX5{l:Nat}{P:V→Mem→Nat→Prop}{t':T}{M':Mem}{c':Nat}{s0:LS}{pe:nj}{fn:Nat}{tm:T}{ps:List aF}{a b:CC}{dn:Nat}(hl:M'.get l=some (.loop s0 pe fn tm ps a b dn))(h:P (.b false) (M'.set l (.loop .done .ret fn tm ps a b dn)) c'):YQ l P .ret (.mk t' [] M' c'):=
 ⟨_,_,_,_,_,_,_,_,_,_,_,rfl,hl,h⟩
theorem mC{d:Nat}{r:List Nat}{M:Mem}(h:M.get d=some (.defs false)):cG (d::r) M=cG r (M.set d (.defs true)):=by
 show Option.rec (motive:=fun _=>Option Mem) none (fun blk=>wO (cG r) M d blk) (M.get d)=_
 rw[h]
 show wO (cG r) M d (.defs false)=_
 unfold wO
 show(M.set d (.defs true)).force (fun M=>cG r M)=_
 rw[Tr.force_eq]
theorem sE(F:RO)(res:List RV)(Post:V→Mem→Nat→Prop)(t:T)(d:List Nat)(M:Mem)(c:Nat):nB F res Post .ret (.mk t d M c)=Mt (cG d M) F t res c Post:=rfl
theorem sD(M:Mem)(t:T)(res:List RV)(c:Nat)(Post:V→Mem→Nat→Prop):Mt (some M) F t res c Post=JG (eL F M t res) M c Post:=rfl
theorem Al{α:Type}(v w:Option α):∀(t:Tr α) (k:Nat) (x:α),t.get k=some x→(t.put v k).put w k=t.put w k
 | .e,k,x,h=>by cases h
 | .n l y r,k,x,h=>by
   rw[Tr.put_n,Tr.put_n];rw[Tr.get_n]at h;by_cases h0:k=0
   ·rw[ac h0,ac h0,Tr.put_n,ac h0]
   ·rw[ab h0]at h;rw[ab h0,ab h0];by_cases h2:k%2=0
    ·rw[ac h2]at h;rw[ac h2,ac h2,Tr.put_n,ab h0,ac h2,Al v w r _ x h]
    ·rw[ab h2]at h;rw[ab h2,ab h2,Tr.put_n,ab h0,ab h2,Al v w l _ x h]
theorem ae5{M:Mem}{b:Nat}{x:bw}(h:M.get b=some x):(M.del b).set b x=M:=by
 show((M.put none b).put (some x) b)=M
 rw[Al _ _ M b x h,rv x M b h]
theorem qo{M:Mem}(b:Nat):∀{F:RO},bz M F=true→bz (M.del b) F=true
 |[],_=>rfl
 |(b',x)::F,h=>by
  rw[gp,aJ]at h;rw[gp,qo b h.2,Tr.get_del];split
  ·rfl
  ·rw[h.1];rfl
theorem kr(mask:Nat):∀(reads:List (Nat×Nat)) (F:RO) (M:Mem) (s:List (Nat×bw)),bz M F=true→ ∃F' M' s',cj mask reads F M s=Pr.mk F' M' s'∧bz M' F'=true∧bB s' M'=bB s M
 |[],F,M,s,h=>⟨F,M,s,rfl,h,rfl⟩
 |(i,b)::r,F,M,s,h=>by
  rw[cj];cases testBit mask i with
  |true=>exact kr mask r F M s h
  |false=>
   show∃F' M' s',(match M.get b with|none=>cj mask r F M s|some blk=>(M.del b).force fun M=>cj mask r ((b,blk)::F) M ((b,blk)::s))=Pr.mk F' M' s'∧_;cases hb:M.get b with
   |none=>exact kr mask r F M s h
   |some blk=>
    obtain⟨F',M',s',h1,h2,h3⟩:=kr mask r ((b,blk)::F) (M.del b) ((b,blk)::s) (by
     rw[gp,qo b h,Tr.get_del,ac rfl];rfl)
    refine⟨F',M',s',?_,h2,?_⟩
    ·show(M.del b).force (fun M=>cj mask r ((b,blk)::F) M ((b,blk)::s))=_;rw[Tr.force_eq];exact h1
    ·rw[h3];show((M.del b).set b blk).force (fun M=>bB s M)=_;rw[Tr.force_eq,ae5 hb]
def av2(o:Option V)(p:Option aF)(base:Nat)(r:List (Nat×Nat×CO))(k:Kn)(t:T)(M:Mem)(c:Nat)(reads:List (Nat×Nat))(R:DS→Prop):Prop:=match o with
 |some v=>pK base r k (.mk (setT t p v) M c [] reads) R
 |none=>False
theorem cv4(v:V)(p:Option aF)(base:Nat)(r:List (Nat×Nat×CO))(k:Kn)(t:T)(M:Mem)(c:Nat)(reads:List (Nat×Nat))(R:DS→Prop):av2 (some v) p base r k t M c reads R=pK base r k (.mk (setT t p v) M c [] reads) R:=Eq.trans rfl (Eq.refl _)
theorem Ju{f:Nat}{h:List V→Option V}(base i mask:Nat)(dst:Option aF)(as:List X)(r:List (Nat×Nat×CO))(t:T)(M:Mem)(c:Nat)(reads:List (Nat×Nat))(R:DS→Prop)(hf:Φ f=some (.orc (ah h)))(hM:bz M F=true)
 (hk:av2 (h (evs as t)) dst base r (K Φ rd fn F) t M c reads R):pK base ((i,mask,.mk dst (.e (.call f as)) none)::r) (K Φ rd fn F) (.mk t M c [] reads) R:=by
 cases hv:h (evs as t)with
 |none=>rw[hv]at hk;exact hk.elim
 |some v=>
  rw[hv]at hk;rw[gP];refine⟨_,?_,hk⟩;obtain⟨F',M',s',h1,h2,h3⟩:=kr mask reads F M [] hM;show vv (.call f as) (K Φ rd fn F) dst t c [] reads (cj mask reads F M [])=_;rw[h1];show(bif cY F' M' []then pX F' dst t [] reads s' (fc (mK Φ) F' f (evs as t) M' c (Φ f))else none)=_;rw[hf];show pX F' dst t [] reads s' (ah h F' (evs as t) M' c)=_;have:ah h F' (evs as t) M' c= .k v M' c:=by unfold ah;rw[hv]
  rw[this];show(bif bz M' F'&&cY F' M' []then(bB s' M').force fun M=>(setT t dst v).force fun t=>some (DS.mk t M c [] reads)else none)=_;rw[h2];show(bB s' M').force (fun M=>(setT t dst v).force fun t=>some (DS.mk t M c [] reads))=_;rw[Tr.force_eq,Tr.force_eq,h3];rfl
theorem cM0{base i mask:Nat}{dst:Option aF}{o:OK}{g:aF}{want:Bool}{r:List (Nat×Nat×CO)}{k:Kn}{t:T}{M:Mem}{c:Nat}{pend:List (Nat×Nat×bw)}{reads:List (Nat×Nat)}{R:DS→Prop}(hg:cF t g= .b want):
 pK base ((i,mask,.mk dst o (some (g,want)))::r) k (.mk t M c pend reads) R=pK base ((i,mask,.mk dst o none)::r) k (.mk t M c pend reads) R:=by
 have hw:wanted t (some (g,want))=true:=by
  show gO want (cF t g)=_;rw[hg];cases want<;>rfl
 have hs:xf k base (i,mask,.mk dst o (some (g,want))) (.mk t M c pend reads)=xf k base (i,mask,.mk dst o none) (.mk t M c pend reads):=by
  show(bif wanted t (some (g,want))then _ else _)=_;rw[hw];rfl
 apply propext
 rw[gP,gP,hs]
theorem cL9{base i mask:Nat}{dst:Option aF}{o:OK}{g:aF}{want:Bool}{r:List (Nat×Nat×CO)}{k:Kn}{t:T}{M:Mem}{c:Nat}{pend:List (Nat×Nat×bw)}{reads:List (Nat×Nat)}{R:DS→Prop}(hg:cF t g= .b (!want)):
 pK base ((i,mask,.mk dst o (some (g,want)))::r) k (.mk t M c pend reads) R=pK base r k (.mk (setT t dst undef) M c pend reads) R:=by
 have hw:wanted t (some (g,want))=false:=by
  show gO want (cF t g)=_;rw[hg];cases want<;>rfl
 have hs:xf k base (i,mask,.mk dst o (some (g,want))) (.mk t M c pend reads)=some (.mk (setT t dst undef) M c pend reads):=by
  show(bif wanted t (some (g,want))then _ else(setT t dst undef).force fun t=>some (DS.mk t M c pend reads))=_;rw[hw];show(setT t dst undef).force (fun t=>some (DS.mk t M c pend reads))=_;rw[Tr.force_eq]
 apply propext
 rw[gP,hs]
 constructor
 ·rintro⟨s',h,q⟩;obtain rfl:=ae h;exact q
 ·exact fun q=>⟨_,rfl,q⟩
theorem cM1{base i mask:Nat}{dst:Option aF}{o:OK}{g:aF}{want:Bool}{r:List (Nat×Nat×CO)}{k:Kn}{t:T}{M:Mem}{c:Nat}{pend:List (Nat×Nat×bw)}{reads:List (Nat×Nat)}{R:DS→Prop}(hg:cF t g=undef):
 pK base ((i,mask,.mk dst o (some (g,want)))::r) k (.mk t M c pend reads) R=pK base r k (.mk (setT t dst undef) M c pend reads) R:=by
 have hw:wanted t (some (g,want))=false:=by
  show gO want (cF t g)=_;rw[hg];rfl
 have hs:xf k base (i,mask,.mk dst o (some (g,want))) (.mk t M c pend reads)=some (.mk (setT t dst undef) M c pend reads):=by
  show(bif wanted t (some (g,want))then _ else(setT t dst undef).force fun t=>some (DS.mk t M c pend reads))=_;rw[hw];show(setT t dst undef).force (fun t=>some (DS.mk t M c pend reads))=_;rw[Tr.force_eq]
 apply propext
 rw[gP,hs]
 constructor
 ·rintro⟨s',h,q⟩;obtain rfl:=ae h;exact q
 ·exact fun q=>⟨_,rfl,q⟩
theorem bC2(n:Nat)(b o:Nat)(M:Mem){vs:List V}(h:loadN F M b o n=some vs)(t:T)(x:X)(hx:x.ev t= .p b o):nw (.ldn n x) F M t= .r (.g vs) b:=by
 have hblk:∃blk,look F M b=some blk:=by
  unfold loadN at h;cases hl:look F M b with
  |none=>rw[hl]at h;cases h
  |some blk=>exact⟨blk,rfl⟩
 obtain⟨blk,hb⟩:=hblk
 have q:∀F' M',loadN F' M' b o n=some vs→cZ (.ldn n x) F' M' t= .r (.g vs) b:=by
  intro F' M' h';show(sR (x.ev t) .f fun b o=>qgb b (loadN F' M' b o n))=_;rw[hx];show qgb b (loadN F' M' b o n)=_;rw[h'];rfl
 show Kg (.ldn n x) F M t (cZ (.ldn n x) F M t)=_
 rw[q F M h]
 show Wx (.ldn n x) t b (look F M b)=_
 rw[hb]
 show Ch b (cZ (.ldn n x) [(b,blk)] .e t)=_
 have h':loadN [(b,blk)] .e b o n=some vs:=by
  unfold loadN at h⊢;rw[hb]at h;rw[aM (show(Tr.e:Mem).get b=none from rfl),dD,ac rfl];exact h
 rw[q _ _ h'];rfl
def cq1(n:Nat)(X:V)(F:RO)(M:Mem):QR:=nw (.ldn n (.c X)) F M .e
def cq2(b:Nat):Option (List V)→QR
 |some vs=> .r (.g vs) b
 |none=> .f
theorem KK(b:Nat)(vs:List V):cq2 b (some vs)= .r (.g vs) b:=Eq.trans rfl (Eq.refl _)
theorem ae7(n:Nat)(x:X)(M:Mem)(t:T):nw (.ldn n x) F M t=cq1 n (x.ev t) F M:=Eq.trans rfl (Eq.refl _)
theorem bC1(n b o:Nat)(M:Mem):cq1 n (.p b o) F M=cq2 b (loadN F M b o n):=by
 cases h:loadN F M b o n with
 |some vs=>exact bC2 n b o M h .e _ rfl
 |none=>
  show Kg (.ldn n (.c (.p b o))) F M .e (qgb b (loadN F M b o n))=_;rw[h];rfl
theorem ck6(c a b:X)(M:Mem)(t:T):nw (.pk c a b) F M t=oV (pkV (c.ev t) (a.ev t) (b.ev t)):=by
 refine(il ?_).trans (congrArg oV (cD2 (F:=F) c a b M t))
 intro F' M'
 show(EU (c.ev t) QR.f fun x=>Bool.rec (motive:=fun _=>QR) (.v (b.ev t)) (.v (a.ev t)) x)=oV (EU (c.ev t) QR.f fun x=>Bool.rec (motive:=fun _=>QR) (.v (b.ev t)) (.v (a.ev t)) x).val
 cases c.ev t with
 |b x=>cases x<;>rfl
 |_=>rfl
theorem ck7(op:UnOp)(x:X)(M:Mem)(t:T):nw (.un op x) F M t=oV (unV op (x.ev t)):=by
 refine(il ?_).trans (congrArg oV (cD3 (F:=F) op x M t))
 intro F' M'
 refine mQ ?_
 show(cZ (.un op x) F' M' t= .f∨_)
 cases op with
 |neg=>
  show((wc (x.ev t) QR.f fun k n=>vI k (wr k (Int.sub 0 n)))= .f∨ ∃y,(wc (x.ev t) QR.f fun k n=>vI k (wr k (Int.sub 0 n)))= .v y);cases x.ev t with
  |i k n=>exact .inr ⟨_,eA _ _⟩
  |_=>exact .inl rfl
 |not=>
  show((EU (x.ev t) QR.f fun b=>vB (sO b))= .f∨ ∃y,(EU (x.ev t) QR.f fun b=>vB (sO b))= .v y);cases x.ev t with
  |b b=>exact .inr ⟨_,mS _⟩
  |_=>exact .inl rfl
 |xor=>
  show((wc (x.ev t) QR.f fun k n=>kg k (Nat.xor (Nat.sub (Nat.pow 2 (jK k)) 1) (toU k n)))= .f∨ ∃y,(wc (x.ev t) QR.f fun k n=>kg k (Nat.xor (Nat.sub (Nat.pow 2 (jK k)) 1) (toU k n)))= .v y);cases x.ev t with
  |i k n=>exact .inr ⟨_,eA _ _⟩
  |_=>exact .inl rfl
 |plus=>exact .inl rfl
def wF:Sh→Bool
 | .ptr=>false
 | .agg _=>false
 |_=>true
def tM:List (Nat×Sh)→Bool
 |[]=>true
 |(_,s)::r=>wF s&&tM r
def Lt:Sh→Bool
 | .ptr=>false
 | .agg ks=>tM ks
 |_=>true
theorem WP{sh:Sh}(h:wF sh=true)(F':RO)(M M':Mem)(lit:Bool)(x y:V):Ia F' M' sh lit x y=Ia F M sh lit x y:=by
 cases sh<;>first|rfl|cases h
theorem vC(F':RO)(M M':Mem)(xs ys:List V):∀{ks:List (Nat×Sh)},tM ks=true→mL F' M' xs ys ks=mL F M xs ys ks
 |[],_=>rfl
 |(o,s)::r,h=>by
  have h':(wF s&&tM r)=true:=h;rw[aJ]at h';rw[pY,pY,vC F' M M' xs ys h'.2]
  congr 1
  cases xs[o]? with
  |none=>rfl
  |some x=>
   cases ys[o]? with
   |none=>rfl
   |some y=>exact WP h'.1 F' M M' false x y
theorem WS{sh:Sh}(h:Lt sh=true)(F':RO)(M M':Mem)(lit:Bool)(x y:V):xj F' M' sh lit x y=xj F M sh lit x y:=by
 cases sh with
 |agg ks=>
  show yi F' M' ks x y=yi F M ks x y;unfold yi;cases x<;>first|rfl|skip
  cases y<;>first|rfl|skip
  exact vC F' M M' _ _ h
 |ptr=>cases h
 |_=>rfl
theorem ck2(neg:Bool)(sh:Sh)(lit:Bool)(x y:X)(M:Mem)(t:T)(h:Lt sh=true):nw (.eq neg sh lit x y) F M t=oV (al6 neg (xj F M sh lit (x.ev t) (y.ev t))):=by
 refine(il ?_).trans (congrArg oV (cC3 (F:=F) neg sh lit x y M t))
 intro F' M'
 show yG neg (xj F' M' sh lit (x.ev t) (y.ev t))=oV (yG neg (xj [] .e sh lit (x.ev t) (y.ev t))).val
 rw[WS (F:=[]) h F' .e M']
 refine mQ ?_
 cases xj [] .e sh lit (x.ev t) (y.ev t)with
 |none=>exact .inl rfl
 |some r=>exact .inr ⟨_,mS _⟩
theorem Ym(ks:List (Nat×Sh)):Lt (.agg ks)=tM ks:=rfl
theorem Lx:tM []=true:=Eq.trans rfl (Eq.refl _)
theorem Fl(o:Nat)(s:Sh)(r:List (Nat×Sh)):tM ((o,s)::r)=(wF s&&tM r):=rfl
theorem Lu:wF .int=true:=Eq.trans rfl (Eq.refl _)
theorem Fk:wF .bool=true:=Eq.trans rfl (Eq.refl _)
theorem Lv:wF .str=true:=Eq.trans rfl (Eq.refl _)
theorem Yn:Lt .int=true:=Eq.trans rfl (Eq.refl _)
theorem Lw:Lt .bool=true:=Eq.trans rfl (Eq.refl _)
theorem Yo:Lt .str=true:=Eq.trans rfl (Eq.refl _)
theorem WR(lit:Bool)(M:Mem)(a b:Bool):xj F M .bool lit (.b a) (.b b)=some (decide (a=b)):=Bv (F:=F) lit M a b
theorem ck4(off:Nat)(x:X)(M:Mem)(t:T):nw (.fa off x) F M t=oV (match x.ev t with| .p b o=>some (.p b (o+off))|_=>none):=by
 refine(il ?_).trans (congrArg oV (cC5 (F:=F) off x M t))
 intro F' M'
 refine mQ ?_
 show((sR (x.ev t) QR.f fun b o=>uB b (Nat.add o off))= .f∨ ∃y,(sR (x.ev t) QR.f fun b o=>uB b (Nat.add o off))= .v y)
 cases x.ev t with
 |p b o=>exact .inr ⟨.p b (o+off),by show uB b (o+off)=_;unfold uB;rw[aQ]⟩
 |_=>exact .inl rfl
theorem by2(x:X)(M:Mem)(t:T):nw (.ln .slice x) F M t=oV (BW (x.ev t)):=by
 refine(il ?_).trans (congrArg oV ((bH6 (F:=F) .slice x M t).trans (cq5 (F:=F) M _)))
 intro F' M'
 refine mQ ?_
 show(J4 (EJ (x.ev t))= .f∨ ∃y,J4 (EJ (x.ev t))= .v y)
 cases EJ (x.ev t)with
 |none=>exact .inl rfl
 |some n=>exact .inr ⟨_,rfl⟩
theorem by3(x:X)(M:Mem)(t:T):nw (.ln .str x) F M t=oV (lnV .str F M (x.ev t)):=by
 refine(il ?_).trans (congrArg oV (bH6 (F:=F) .str x M t))
 intro F' M'
 refine mQ ?_
 show((pB (x.ev t) QR.f fun n _=> .v (.i .i64 (.ofNat n)))= .f∨ ∃y,(pB (x.ev t) QR.f fun n _=>QR.v (.i .i64 (.ofNat n)))= .v y)
 cases x.ev t with
 |s n x=>exact .inr ⟨_,rfl⟩
 |_=>exact .inl rfl
theorem bx9(x i:X)(M:Mem)(t:T):nw (.ixS x i) F M t=oV (uf (x.ev t) (i.ev t)):=by
 refine(il ?_).trans (congrArg oV (bl5 (F:=F) x i M t))
 intro F' M'
 refine mQ ?_
 show((pB (x.ev t) QR.f fun n s=>Option.rec (motive:=fun _=>QR) .f (fun i=>nQ n s i) (rU (i.ev t)))= .f∨ ∃y,(pB (x.ev t) QR.f fun n s=>Option.rec (motive:=fun _=>QR) .f (fun i=>nQ n s i) (rU (i.ev t)))= .v y)
 cases x.ev t with
 |s n x=>
  show(Option.rec (motive:=fun _=>QR) .f (fun i=>nQ n x i) (rU (i.ev t))= .f∨ ∃y,(Option.rec (motive:=fun _=>QR) .f (fun i=>nQ n x i) (rU (i.ev t)):QR)= .v y);cases rU (i.ev t)with
  |none=>exact .inl rfl
  |some k=>
   show(Bool.rec (motive:=fun _=>QR) .f (fN (Nat.mod (Nat.div x (j4 k)) 256) fun c=> .v (.i .u8 (.ofNat c))) (Nat.blt k n)= .f∨ ∃y,(Bool.rec (motive:=fun _=>QR) .f (fN (Nat.mod (Nat.div x (j4 k)) 256) fun c=> .v (.i .u8 (.ofNat c))) (Nat.blt k n):QR)= .v y);cases Nat.blt k n with
   |false=>exact .inl rfl
   |true=>exact .inr ⟨_,by show fN _ _=_;rw[aQ]⟩
 |_=>exact .inl rfl
def uO(u:List (Option V))(i:Nat):Option V:=(u[i]?).join
def Ax(I:Nat→St→Prop)(n:Nat)(Q:Ex→St→Prop):Ex→St→Prop
 | .nrm,s=>∃m,m<n∧I m s
 |e,s=>Q e s
theorem Fd(I:Nat→St→Prop)(n:Nat)(Q:Ex→St→Prop)(s:St):Ax I n Q .nrm s=∃m,m<n∧I m s:=Eq.trans rfl (Eq.refl _)
theorem Fe(I:Nat→St→Prop)(n:Nat)(Q:Ex→St→Prop)(s:St):Ax I n Q .ret s=Q .ret s:=Eq.trans rfl (Eq.refl _)
theorem Fc(I:Nat→St→Prop)(n:Nat)(Q:Ex→St→Prop)(s:St)(id:Nat):Ax I n Q (.ext id) s=Q (.ext id) s:=Eq.trans rfl (Eq.refl _)
theorem de{b:CC}{Q:Ex→St→Prop}(I:Nat→St→Prop)(h:∀n s,I n s→Wp b (K Φ rd fn F) s (Ax I n Q)):∀n s,I n s→Wp (.loop b) (K Φ rd fn F) s Q:=
 LP I fun n s hs=>(h n s hs).mono fun e s' he=>by cases e<;>exact he
end
section
variable{Φ:Nat→Option CF}{rd:Option Nat}{fn:Nat}{F:RO}
theorem t7{M:Mem}{b o ty n fz:Nat}{ex str:Bool}{d vs:List V}{t:T}(hM:M.get b=some (.cells ty n ex fz str d t))(h1:o+vs.length≤n)(h2:fz≤o)(h3:bh vs=true):
 du M b o vs=some (M.set b (.cells ty n ex fz str d (bu vs o t))):=by
 show Option.rec (motive:=fun _=>Option Mem) none (fun blk=>oL M b o vs blk) (M.get b)=_
 rw[hM]
 show(Bool.rec (motive:=fun _=>Option Mem) none (Bool.rec (motive:=fun _=>Option Mem) none (Bool.rec (motive:=fun _=>Option Mem) none (fp M b o vs ty n ex fz str d t) (bh vs)) (Nat.ble fz o)) (Nat.ble (Nat.add o vs.length) n))=_
 rw[bb,bb,bb,bQ,bQ,af (show Nat.add o vs.length≤n from h1),af h2,h3]
 simp only[if_true]
 unfold fp
 rw[Tr.force_eq,Tr.force_eq]
def jZ(M:Mem)(c0 c b ty sz cap:Nat)(v:V)(es:List (List V)):Prop:=
 (∀e∈es,e.length=sz)∧es.length≤cap∧c0≤b∧b<c∧v= .l b 0 es.length cap∧ ∃d t,M.get b=some (.cells ty (cap*sz) true 0 false d t)∧ ∀k,k<es.flatten.length→cell (cap*sz) d t k=es.flatten[k]?
theorem jZ.sl{M:Mem}{c0 c b ty sz cap:Nat}{v:V}{es:List (List V)}(h:jZ M c0 c b ty sz cap v es):dp F M c sz v es:=by
 obtain⟨h0,h1,h2,h3,rfl,d,t,hM,hc⟩:=h
 refine⟨h0,.inr ⟨b,0,.inl ⟨cap,h1,rfl⟩,h3,fun k hk=>?_⟩⟩
 rw[Nat.zero_add]
 unfold Ev.load1
 rw[au hM]
 exact hc k hk
theorem jZ.up{M M':Mem}{c0 c c' b ty sz cap:Nat}{v:V}{es:List (List V)}(h:jZ M c0 c b ty sz cap v es)(hc:c≤c')(hb:b<c→M'.get b=M.get b):jZ M' c0 c' b ty sz cap v es:=by
 obtain⟨h0,h1,h2,h3,rfl,d,t,hM,hcell⟩:=h
 exact⟨h0,h1,h2,by omega,rfl,d,t,by rw[hb h3];exact hM,hcell⟩
theorem jZ.gr{M M':Mem}{c0 c c' b ty sz cap:Nat}{v:V}{es:List (List V)}(h:jZ M c0 c b ty sz cap v es)(hg:Gr c M c' M'):jZ M' c0 c' b ty sz cap v es:=h.up hg.le fun hb=>hg.old b hb
theorem ad8{M0 M:Mem}{c0 c b ty sz bytes cap:Nat}{v:V}{es ns:List (List V)}(h:jZ M c0 c b ty sz cap v es)(hg:Gr c0 M0 c M)(hn:∀e∈ns,e.length=sz)(h1:bh ns.flatten=true)(hr:es.length+ns.length≤cap)(hn0:ns≠[]):
 xe (mc F M c ty sz bytes v (some (ns.length,ns.flatten))) fun v' M' c'=>c'=c∧jZ M' c0 c b ty sz cap v' (es++ns)∧Gr c0 M0 c M'∧ ∀x,x≠b→M'.get x=M.get x:=by
 obtain⟨h0,h2,h3,h4,rfl,d,t,hM,hcell⟩:=h
 have hnl:=fR hn
 have hel:=fR h0
 have hlen:ns.length≠0:=fun e=>hn0 (List.length_eq_zero_iff.1 e)
 have hroom:es.length*sz+ns.flatten.length≤cap*sz:=by
  rw[hnl,←Nat.add_mul];exact Nat.mul_le_mul_right _ hr
 have hst:=t7 (o:=es.length*sz) (vs:=ns.flatten) hM hroom (aP _) h1
 have e1:mc F M c ty sz bytes (.l b 0 es.length cap) (some (ns.length,ns.flatten))= .k (.l b 0 (es.length+ns.length) cap) (M.set b (.cells ty (cap*sz) true 0 false d (bu ns.flatten (es.length*sz) t))) c:=by
  show(bif bh ns.flatten&&Nat.beq ns.flatten.length (Nat.mul ns.length sz)then app F M c ty sz bytes (.l b 0 es.length cap) ns.length ns.flatten else _)=_;rw[h1,bF,af (show ns.flatten.length=Nat.mul ns.length sz from hnl)];show app F M c ty sz bytes (.l b 0 es.length cap) ns.length ns.flatten=_;unfold app;rw[bF,ag hlen,cond_false];show vg F M c ty sz bytes b 0 es.length cap ns.length ns.flatten=_;unfold vg;rw[bQ,af (show Nat.add es.length ns.length≤cap from hr),cond_true];unfold y5;rw[show Nat.add 0 (Nat.mul es.length sz)=es.length*sz from Nat.zero_add _,hst];show fN (es.length+ns.length) (fun len=>RC.k (.l b 0 len cap) _ c)=_;rw[aQ]
 refine⟨_,_,_,e1,rfl,⟨?_,by rw[aV];omega,h3,h4,by rw[aV],d,_,av _ _ _,?_⟩,hg.set b _ h3 h4 (ak _),fun x hx=>am _ _ hx⟩
 ·intro e he;rcases List.mem_append.1 he with he|he
  ·exact h0 e he
  ·exact hn e he
 ·intro k hk;rw[List.flatten_append,aV]at hk;rw[List.flatten_append,cN,ac (by omega),dq];by_cases hk1:k<es.flatten.length
  ·rw[ab (by omega),List.getElem?_append_left hk1,←hcell k hk1,cN,ac (by omega)]
  ·rw[ac (by omega),List.getElem?_append_right (by omega),hel,List.getElem?_eq_getElem (by omega)]
theorem Wr{M0 M:Mem}{c0 c b ty sz bytes cap:Nat}{v y:V}{es ns:List (List V)}(h:jZ M c0 c b ty sz cap v es)(hg:Gr c0 M0 c M)(hsz:0<sz)(hy:dp F M c sz y ns)(h1:bh ns.flatten=true)(hr:es.length+ns.length≤cap)(hn0:ns≠[]):
 xe (tZ F M c ty sz bytes v y) fun v' M' c'=>c'=c∧jZ M' c0 c b ty sz cap v' (es++ns)∧Gr c0 M0 c M'∧ ∀x,x≠b→M'.get x=M.get x:=by
 unfold tZ
 rw[wI hsz hy]
 exact ad8 h hg hy.1 h1 hr hn0
theorem MC(ty sz bytes:Nat)(zero:List V)(l c:X)(b:Nat)(t:T){k k':IntKind}{n m:Nat}(hl:l.ev t= .i k (n:Int))(hc:c.ev t= .i k' (m:Int))(h1:n≤m)(h2:m*(bytes+1)≤1099511627776):
 jX (.mks ty sz bytes zero l c) b t=some (.l b 0 n m,.cells ty (m*sz) true 0 false zero .e):=by
 show zF ty sz bytes zero b (rU (l.ev t)) (rU (c.ev t))=_
 rw[hl,hc]
 show(bif Nat.ble n m&&Nat.ble (Nat.mul m (Nat.succ bytes)) 1099511627776 then fN (Nat.mul m sz) fun m'=>some (V.l b 0 n m,bw.cells ty m' true 0 false zero .e)else none)=_
 rw[bQ,bQ,af h1,af (show Nat.mul m (Nat.succ bytes)≤1099511627776 from h2)]
 show fN (m*sz) (fun m'=>some (V.l b 0 n m,bw.cells ty m' true 0 false zero .e))=_
 rw[aQ]
def bD8(ty sz bytes:Nat)(zero:List V)(l c:V)(b:Nat):Option (V×bw):=jX (.mks ty sz bytes zero (.c l) (.c c)) b .e
theorem aa3(ty sz bytes:Nat)(zero:List V)(l c:X)(b:Nat)(t:T):jX (.mks ty sz bytes zero l c) b t=bD8 ty sz bytes zero (l.ev t) (c.ev t) b:=Eq.trans rfl (Eq.refl _)
theorem XG(ty sz bytes:Nat)(zero:List V)(k k':IntKind)(n m b:Nat)(h1:n≤m)(h2:m*(bytes+1)≤1099511627776):bD8 ty sz bytes zero (.i k (n:Int)) (.i k' (m:Int)) b=some (.l b 0 n m,.cells ty (m*sz) true 0 false zero .e):=MC ty sz bytes zero _ _ b .e rfl rfl h1 h2
theorem bw3{M:Mem}{c0 c b ty sz cap:Nat}{d:List V}(h:M.get b=some (.cells ty (cap*sz) true 0 false d .e))(h1:c0≤b)(h2:b<c):jZ M c0 c b ty sz cap (.l b 0 0 cap) []:=
 ⟨fun e he=>(by cases he),aP _,h1,h2,rfl,d,.e,h,fun k hk=>(by cases hk)⟩
def c04(F:RO)(M:Mem)(lo c sz:Nat)(v:V)(es:List (List V)):Prop:=∀M':Mem,(∀b,lo≤b→b<c→M'.get b=M.get b)→dp F M' c sz v es
theorem d6.own{M:Mem}{c0 c b ty sz:Nat}{v:V}{es:List (List V)}(h:d6 M c0 c b ty sz v es):c04 F M c0 c sz v es:=by
 intro M' hM
 refine d6.sl (c0:=c0) (b:=b) (ty:=ty) (M:=M') ?_
 rcases h with⟨h0,h|⟨h1,h2,rfl,h3⟩⟩
 ·exact⟨h0,.inl h⟩
 ·exact⟨h0,.inr ⟨h1,h2,rfl,by rw[hM b h1 h2];exact h3⟩⟩
theorem dH.put{M:Mem}{c b:Nat}{x y:bw}(h:dH F M c)(hb:b<c)(hx:M.get b=some x):dH F (M.set b y) c:=by
 refine⟨fun b' hb'=>?_,h.hiF,fun b' hb'=>?_,h.ge⟩
 ·rw[am _ _ (by omega)];exact h.hiM b' hb'
 ·have:b'≠b:=by
   intro e;subst e;rw[h.ap b' hb']at hx;cases hx
  rw[am _ _ this];exact h.ap b' hb'
theorem bG{M:Mem}{b ty:Nat}{l:List V}(h:M.get b=some (aw ty l))(o:Nat)(vs:List V)(h1:o+vs.length≤l.length)(h2:bh vs=true):du M b o vs=some (M.set b (aw ty (over l o vs))):=by
 have:=nY M b o ty l vs h1 h2
 rwa [←rE h]at this
theorem aX{M:Mem}{b ty:Nat}{l:List V}(h:M.get b=some (aw ty l))(o:Nat):load1 F M b o=l[o]?:=by
 rw[rE h];exact w7 M b o ty l
theorem jt{M:Mem}{b ty:Nat}{l:List V}(h:M.get b=some (aw ty l))(n:Nat)(hn:l.length=n):loadN F M b 0 n=some l:=by
 rw[rE h,qh M b 0 n ty l (by omega),List.drop_zero,←hn,List.take_length]
theorem tJ:Ah .none= .nrm:=Eq.trans rfl (Eq.refl _)
theorem EY:Ah .ret= .ret:=Eq.trans rfl (Eq.refl _)
theorem LN(a b:CC)(k:Kn)(t:T)(d:List Nat)(M:Mem)(c:Nat)(Q:Ex→St→Prop):Wp (.cond (.c (.b true)) a b) k (.mk t d M c) Q=Wp a k (.mk t d M c) Q:=CG rfl
theorem LM(a b:CC)(k:Kn)(t:T)(d:List Nat)(M:Mem)(c:Nat)(Q:Ex→St→Prop):Wp (.cond (.c (.b false)) a b) k (.mk t d M c) Q=Wp b k (.mk t d M c) Q:=CE rfl
end
theorem ai{a b:Prop}(x:a)(y:b):a∧b:=⟨x,y⟩
def WL:=ai @at5 (ai @W6 (ai @y7 (ai @bk3 (ai @Fb (ai @gp (ai @am (ai @Tr.get_e (ai @A4 (ai @WF (ai @Ab (ai @bW2 (ai @de2 (ai @bF3 (ai @bF2 (ai @am0 (ai @ck5 (ai @ck1 (ai @bx7 (ai @bh0 (ai @ck3 (ai @by0 (ai @cq0 (ai @Xu (ai @bx8 (ai @cC8 (ai @cq5 (ai @bj7 (ai @XA (ai @A6 (ai @XB (ai @AN (ai @Yj (ai @Yk (ai @Yi (ai @bW4 (ai @bW5 (ai @at7 (ai @at6 (ai @Zq (ai @DT (ai @DU (ai @DR (ai @KQ (ai @KR (ai @KP (ai @bW3 (ai @de7 (ai @de5 (ai @de6 (ai @cN0 (ai @cM4 (ai @cM3 (ai @cM5 (ai @CG (ai @CE (ai @d86 (ai @d84 (ai @d85 (ai @cv5 (ai @lC (ai @Ls (ai @dc9 (ai @cD2 (ai @cv3 (ai @cv2 (ai @bH4 (ai @iZ (ai @bu7 (ai @bu5 (ai @bu6 (ai @bu4 (ai @bu3 (ai @bu8 (ai @cD3 (ai @bH2 (ai @bH6 (ai @lnS (ai @bl5 (ai @cC9 (ai @cD0 (ai @cp9 (ai @cq4 (ai @w7 (ai @cC5 (ai @af3 (ai @ag1 (ai @au3 (ai @Kd (ai @ev_t (ai @ev_c (ai @ag4 (ai @WU (ai @Tr.setP_h (ai @Tr.setP_l (ai @Tr.setP_r (ai @bA4 (ai @bA6 (ai @bA5 (ai @bA7 (ai @WK (ai @WN (ai @cW6 (ai @Lj (ai @bG0 (ai @E7 (ai @XP (ai @XQ (ai @Bool.not_true (ai @Bool.not_false (ai @Bool.false_eq_true (ai @Bool.true_eq_false (ai @decide_true (ai @decide_false (ai @XV (ai @XM (ai @Ks (ai @Kv (ai @Kz (ai @Ky (ai @Eo (ai @Kw (ai @KA (ai @Em (ai @Kx (ai @En (ai @Kt (ai @El (ai @Ku (ai @DH (ai @iM (ai @ah5 (ai @ah7 (ai @ai1 (ai @ai0 (ai @Xl (ai @ah8 (ai @ai2 (ai @Xk (ai @ah9 (ai @ah6 (ai @Xj (ai @Bool.and_true (ai @Bool.true_and (ai @ag3 (ai @BB (ai @Kq (ai @vG (ai @we (ai @iD (ai @Nat.zero_add (ai @and_self (ai @and_true (ai @true_and (ai @bl4 (ai @qn (ai @cC6 (ai @cC7 (ai @cC4 (ai @cC2 (ai @K0 (ai @Kl (ai @Kk (ai @pY (ai @bE3 (ai @bE4 (ai @cC3 (ai @af6 (ai @af7 (ai @af5 (ai @Bv (ai @cM9 (ai @ad5 (ai @cD1 (ai @ao9 (ai @ao8 (ai @C1 (ai @XC (ai @qh (ai @nY (ai @Fq (ai @KS (ai @a09 (ai @aa2 (ai @bH5 (ai @Xo (ai @al4 (ai @al5 (ai @bE2 (ai @Nat.add_assoc (ai @Zv (ai @bl6 (ai @dc6 (ai @aa1 (ai @WT (ai @sF (ai @EW (ai @nO (ai @K7 (ai @bl7 (ai @cX7 (ai @iY (ai @ss (ai @Ib (ai @af8 (ai @cM0 (ai @cL9 (ai @cM1 (ai @ae7 (ai @bC1 (ai @KK (ai @ck6 (ai @by2 (ai @by3 (ai @bx9 (ai @ck7 (ai @ck2 (ai @Ym (ai @Lx (ai @Fl (ai @Lu (ai @Fk (ai @Lv (ai @WR (ai @Yn (ai @Lw (ai @Yo (ai @ck4 (ai @cv4 (ai @aa3 (ai @LN (ai @LM (ai @Fd (ai @Fe (ai @Fc (ai @decide_eq_true_eq (ai @or_self (ai @or_true (ai @or_false (ai @true_or (ai @false_or (ai @and_false (@false_and))))))))))))))))))))))))))))))))))))))))))))))))))))))))))))))))))))))))))))))))))))))))))))))))))))))))))))))))))))))))))))))))))))))))))))))))))))))))))))))))))))))))))))))))))))))))))))))))))))))))))))))))))))))))))))))))))))))))))))))))))
def WM:=ai @cond_true.{1} (ai @cond_false.{1} (ai @List.getElem?_cons_zero.{0} (ai @List.getElem?_cons_succ.{0} (ai @Option.getD_some.{0} (ai @if_true.{1} (ai @if_false.{1} (ai @ite_true.{1} (ai @ite_false.{1} (ai @List.set_cons_zero.{0} (ai @List.set_cons_succ.{0} (ai @List.length_cons.{0} (ai @List.length_nil.{0} (ai @List.nil_append.{0} (ai @List.append_nil.{0} (ai @List.cons_append.{0} (ai @List.drop_zero.{0} (ai @List.take_succ_cons.{0} (ai @List.take_zero.{0} (ai @List.take_nil.{0} (ai @List.drop_succ_cons.{0} (ai @Option.map_some.{0,0} (ai @Option.isSome_some.{0} (@Option.map_none.{0,0})))))))))))))))))))))))
def WX:=ai @WL @WM
end
end Go.Proofs.YtmjeiphepinphaaGreatDoor.Ev
