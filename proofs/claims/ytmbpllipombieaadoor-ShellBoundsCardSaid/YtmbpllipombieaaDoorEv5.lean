/- What is proved here: pieces of the evaluator's soundness: if the evaluator comes to a value, the model's run comes to it, for every world and tape; no conditions beyond the hypotheses of each theorem. -/
import Derived.Test.YtmbpllipombieaaDoorEv4
set_option linter.unusedSimpArgs false
set_option linter.unusedVariables false
set_option linter.defProp false
set_option maxRecDepth 10000
set_option maxHeartbeats 16000000
namespace Go.Proofs.YtmbpllipombieaaDoor.Ev
open Go
noncomputable section
theorem xp:∀(e p q:List V),q.length=e.length→over (p++q) p.length e=p++e
 |[],p,q,h=>by
  obtain rfl:q=[]:=List.eq_nil_of_length_eq_zero h;rfl
 |v::e,p,[],h=>by cases h
 |v::e,p,a::q,h=>by
  rw[over,List.set_append_right _ _ (ah _),Nat.sub_self,List.set_cons_zero];have:=xp e (p++[v]) q (by simpa using h);rw[aO,List.length_singleton,bM,bM]at this;exact this
theorem xn{z e:List V}(h:z.length=e.length):over z 0 e=e:=by
 have:=xp e [] z h
 simpa using this
theorem ji{b:Nat}(mask:Nat):∀(reads:List (Nat×Nat)) (F:RO) (M:Mem) (s:List (Nat×bw)),bQ b reads=true→bH M F=true→(M.get b).isSome=true→
 ∃F' M' s2,bC mask reads F M s=Pr.mk F' M' (s2++s)∧M'.get b=M.get b∧bH M' F'=true∧(∀y,bH (M'.set b y) F'=true)∧ ∀y x,(aU s2 (M'.set b y)).get x=(M.set b y).get x
 |[],F,M,s,h1,h2,h3=>by
  refine⟨F,M,[],rfl,rfl,h2,fun y=>?_,fun y x=>rfl⟩;refine oy _ F fun b' hb'=>?_;have:∃blk,(b',blk)∈F:=by
   clear h1 h2 h3
   induction F with
   |nil=>cases hb'
   |cons a F ih=>
    obtain⟨k,z⟩:=a;rw[cj]at hb';split at hb'
    ·rename_i e;have e:k=b':=e;exact⟨z,by rw[e];exact bJ ..⟩
    ·obtain⟨blk,hm⟩:=ih hb';exact⟨blk,br _ hm⟩
  obtain⟨blk,hm⟩:=this;have hn:=fE F h2 b' blk hm;have:b'≠b:=by intro e;subst e;rw[hn]at h3;cases h3
  rw[ag _ _ this];exact hn
 |(i,x)::r,F,M,s,h1,h2,h3=>by
  have hx:x≠b∧bQ b r=true:=by
   have h1':(bif Nat.beq x b then false else bQ b r)=true:=h1;rw[bI]at h1';by_cases e:x=b
   ·rw[aj e]at h1';cases h1'
   ·rw[ak e]at h1';exact⟨e,h1'⟩
  rw[bC];cases ht:testBit mask i with
  |true=>exact ji mask r F M s hx.2 h2 h3
  |false=>
   show∃F' M' s2,(match M.get x with|none=>bC mask r F M s|some blk=>(M.del x).force fun M=>bC mask r ((x,blk)::F) M ((x,blk)::s))=_∧_;cases hb:M.get x with
   |none=>exact ji mask r F M s hx.2 h2 h3
   |some blk=>
    have hfr:bH (M.del x) ((x,blk)::F)=true:=by
     rw[dB,Tr.get_del,ac rfl,jl x h2];rfl
    have hgb:(M.del x).get b=M.get b:=by rw[Tr.get_del,ab (fun e=>hx.1 e.symm)]
    obtain⟨F',M',s2,g1,g2,g3,g4,g5⟩:=ji mask r ((x,blk)::F) (M.del x) ((x,blk)::s) hx.2 hfr (by rw[hgb];exact h3);refine⟨F',M',s2++[(x,blk)],?_,g2.trans hgb,g3,g4,fun y z=>?_⟩
    ·show((M.del x).force fun M=>bC mask r ((x,blk)::F) M ((x,blk)::s))=_;rw[Tr.force_eq,g1,bM];rfl
    ·have key:∀(s2:List (Nat×bw)) (N:Mem),aU (s2++[(x,blk)]) N=(aU s2 N).set x blk:=by
      intro s2
      induction s2 with
      |nil=>intro N;show(N.set x blk).force (fun M=>M)=_;rw[Tr.force_eq];rfl
      |cons a s2 ih=>intro N;show(N.set a.1 a.2).force (fun M=>aU (s2++[(x,blk)]) M)=_;rw[Tr.force_eq,ih];show _=((N.set a.1 a.2).force fun M=>aU s2 M).set x blk;rw[Tr.force_eq]
     rw[key,Tr.get_set,g5,Tr.get_set,Tr.get_set,Tr.get_del];by_cases e1:z=x
     ·rw[ac e1,ab (by rw[e1];exact hx.1),e1,hb]
     ·rw[ab e1,ab e1]
theorem tF(mask:Nat):∀(pend:List (Nat×Nat×bw)) (M:Mem),(pend.all fun e=>testBit mask e.1)=true→dN mask pend M=(cR pend M,[])
 |[],M,_=>rfl
 |(i,b,blk)::r,M,h=>by
  rw[List.all_cons,aX]at h;rw[dN,h.1,iy];show((M.set b blk).force fun M=>dN mask r M)=_;rw[Tr.force_eq,tF mask r _ h.2]
section
variable{Φ:Nat→Option CF}{rd:Option Nat}{fn:Nat}{F:RO}
theorem b90(base i mask n:Nat)(p v:X)(r:List (Nat×Nat×CO))(t:T)(M:Mem)(c:Nat)(pend:List (Nat×Nat×bw))(reads:List (Nat×Nat))(R:DS→Prop){M1:Mem}{b ty:Nat}{z e:List V}
 (hm:(pend.all fun e=>testBit mask e.1)=true) (hM:cR pend M=M1) (hb:M1.get b=some (af ty z)) (hp:p.ev t= .p b 0) (hv:flatten (v.ev t)=e) (ha:aE e=true) (hl:e.length=n) (hz:z.length=n) (hr:bQ b reads=true) (hf:bH M1 F=true)
 (h:∀M',(∀x,M'.get x=(M1.set b (af ty e)).get x)→jM base r (K Φ rd fn F) (.mk t M' c [] reads) R):
 jM base ((i,mask,.mk none (.e (.st n p v)) none)::r) (K Φ rd fn F) (.mk t M c pend reads) R:=by
 obtain⟨F',M',s2,g1,g2,g3,g4,g5⟩:=ji mask reads F M1 [] hr hf (by rw[hb];rfl)
 have hov:over z 0 e=e:=xn (hz.trans hl.symm)
 have hst:bN M' b 0 e=some (M'.set b (af ty e)):=by
  have:=aK (g2.trans hb) 0 e (by omega) ha
  rwa [hov]at this
 have hd:ew (.st n p v) (K Φ rd fn F') M' c t= .k undef (M'.set b (af ty e)) c:=by
  rw[uJ,hp];show(if(flatten (v.ev t)).length=n then er c (bN M' b 0 (flatten (v.ev t)))else .f)=_;rw[hv,ac hl,hst];rfl
 have he:px (K Φ rd fn F) base (i,mask,.mk none (.e (.st n p v)) none) (.mk t M c pend reads)=some (.mk t (aU s2 (M'.set b (af ty e))) c [] reads):=by
  show sC (.st n p v) (K Φ rd fn F) mask none t c reads (dN mask pend M)=_;rw[tF mask pend M hm,hM];show nU (.st n p v) (K Φ rd fn F) none t c [] reads (bC mask reads F M1 [])=_;rw[g1];show lu F' none t [] reads (s2++[]) (ew (.st n p v) (K Φ rd fn F') M' c t)=_;rw[hd,bP];show(bif bH (M'.set b (af ty e)) F'&&true then(aU s2 (M'.set b (af ty e))).force fun M=>(setT t none undef).force fun t=>some (DS.mk t M c [] reads)else none)=_;rw[g4];show((aU s2 (M'.set b (af ty e))).force fun M=>(setT t none undef).force fun t=>some (DS.mk t M c [] reads))=_;rw[Tr.force_eq,Tr.force_eq];rfl
 rw[ea]
 exact⟨_,he,h _ (fun x=>g5 _ x)⟩
theorem gP{c:Nat}(mask:Nat):∀(reads:List (Nat×Nat)) (F:RO) (M:Mem) (s:List (Nat×bw)),bH M F=true→(∀x,c≤x→M.get x=none)→
 ∃F' M' s2,bC mask reads F M s=Pr.mk F' M' (s2++s)∧bH M' F'=true∧(∀b,look F' M' b=look F M b)∧(∀x,c≤x→M'.get x=none)∧ ∀N:Mem,(∀x,x<c→N.get x=M'.get x)→ ∀x,(aU s2 N).get x=if x<c then M.get x else N.get x
 |[],F,M,s,h2,h3=>⟨F,M,[],rfl,h2,fun _=>rfl,h3,fun N hN x=>by
  show N.get x=_;split
  ·rename_i h;exact hN x h
  ·rfl⟩
 |(i,x)::r,F,M,s,h2,h3=>by
  rw[bC];cases ht:testBit mask i with
  |true=>exact gP mask r F M s h2 h3
  |false=>
   show∃F' M' s2,(match M.get x with|none=>bC mask r F M s|some blk=>(M.del x).force fun M=>bC mask r ((x,blk)::F) M ((x,blk)::s))=_∧_;cases hb:M.get x with
   |none=>exact gP mask r F M s h2 h3
   |some blk=>
    have hxc:x<c:=by
     apply Classical.byContradiction;intro hx;rw[h3 x (by omega)]at hb;cases hb
    have hfr:bH (M.del x) ((x,blk)::F)=true:=by
     rw[dB,Tr.get_del,ac rfl,jl x h2];rfl
    obtain⟨F',M',s2,g1,g2,g3,g4,g5⟩:=gP mask r ((x,blk)::F) (M.del x) ((x,blk)::s) hfr (fun y hy=>by rw[Tr.get_del];split<;>first|rfl|exact h3 y hy);refine⟨F',M',s2++[(x,blk)],?_,g2,fun b=>?_,g4,fun N hN z=>?_⟩
    ·show((M.del x).force fun M=>bC mask r ((x,blk)::F) M ((x,blk)::s))=_;rw[Tr.force_eq,g1,bM];rfl
    ·rw[g3];by_cases e:b=x
     ·subst e;rw[au hb,aT (by rw[Tr.get_del,ac rfl]),cj,ac rfl]
     ·cases hM:M.get b with
      |some y=>rw[au hM,au (by rw[Tr.get_del,ab e];exact hM)]
      |none=>rw[aT hM,aT (by rw[Tr.get_del,ab e];exact hM),cj,ab (fun h=>e h.symm)]
    ·have key:∀(s2:List (Nat×bw)) (N:Mem),aU (s2++[(x,blk)]) N=(aU s2 N).set x blk:=by
      intro s2
      induction s2 with
      |nil=>intro N;show(N.set x blk).force (fun M=>M)=_;rw[Tr.force_eq];rfl
      |cons a s2 ih=>intro N;show(N.set a.1 a.2).force (fun M=>aU (s2++[(x,blk)]) M)=_;rw[Tr.force_eq,ih];show _=((N.set a.1 a.2).force fun M=>aU s2 M).set x blk;rw[Tr.force_eq]
     rw[key,Tr.get_set,g5 N hN];by_cases e1:z=x
     ·subst e1;rw[ac rfl,ac hxc,hb]
     ·rw[ab e1,Tr.get_del,ab e1]
theorem u7(base i mask:Nat)(dst:Option ay)(o:EO)(r:List (Nat×Nat×CO))(t:T)(M:Mem)(c:Nat)(reads:List (Nat×Nat))(R:DS→Prop)(ok:cU F M c)
 (h:∀F' M',cU F' M' c→(∀b,look F' M' b=look F M b)→nF (ew o (K Φ rd fn F') M' c t) fun v M2 c2=>Gr c M' c2 M2∧ ∀M3,Gr c M c2 M3→(∀x,c≤x→M3.get x=M2.get x)→jM base r (K Φ rd fn F) (.mk (setT t dst v) M3 c2 [] reads) R):
 jM base ((i,mask,.mk dst (.e o) none)::r) (K Φ rd fn F) (.mk t M c [] reads) R:=by
 obtain⟨F',M',s2,g1,g2,g3,g4,g5⟩:=gP (c:=c) mask reads F M [] ok.free ok.hiM
 have ok':cU F' M' c:=by
  refine⟨g4,fun b hb=>?_,fun b hb=>?_,ok.ge⟩
  ·have:=g3 b;rw[aT (g4 b hb),ok.look hb]at this;exact this
  ·have:∃blk,(b,blk)∈F':=by
    clear g1 g2 g3 g5 h
    induction F' with
    |nil=>cases hb
    |cons a F' ih=>
     obtain⟨k,z⟩:=a;rw[cj]at hb;split at hb
     ·rename_i e;have e:k=b:=e;exact⟨z,by rw[e];exact bJ ..⟩
     ·obtain⟨blk,hm⟩:=ih hb;exact⟨blk,br _ hm⟩
   obtain⟨blk,hm⟩:=this;exact fE F' g2 b blk hm
 obtain⟨v,M2,c2,hd,hg,hR⟩:=h F' M' ok' g3
 have hun:=g5 M2 hg.old
 have he:px (K Φ rd fn F) base (i,mask,.mk dst (.e o) none) (.mk t M c [] reads)=some (.mk (setT t dst v) (aU s2 M2) c2 [] reads):=by
  show nU o (K Φ rd fn F) dst t c [] reads (bC mask reads F M [])=_;rw[g1];show lu F' dst t [] reads (s2++[]) (ew o (K Φ rd fn F') M' c t)=_;rw[hd,bP];show(bif bH M2 F'&&true then(aU s2 M2).force fun M=>(setT t dst v).force fun t=>some (DS.mk t M c2 [] reads)else none)=_;rw[(hg.ok ok').free];show((aU s2 M2).force fun M=>(setT t dst v).force fun t=>some (DS.mk t M c2 [] reads))=_;rw[Tr.force_eq,Tr.force_eq]
 rw[ea]
 have hle:=hg.le
 exact⟨_,he,hR _ ⟨hle,fun b hb=>by rw[hun,ac hb],fun b hb=>by rw[hun,ab (by omega)];exact hg.new b hb⟩ (fun x hx=>by rw[hun,ab (by omega)])⟩
theorem Mi{F':RO}{M M':Mem}(h:∀b,look F' M' b=look F M b)(b o:Nat):load1 F' M' b o=load1 F M b o:=by
 show j6 (look F' M' b) none (fun m d c=>cell m d c o)=j6 (look F M b) none fun m d c=>cell m d c o
 rw[h]
theorem cB.lk{F':RO}{M M':Mem}{c sz:Nat}{v:V}{es:List (List V)}(h:∀b,look F' M' b=look F M b)(hs:cB F M c sz v es):cB F' M' c sz v es:=by
 obtain⟨h0,h1|⟨b,o,h1,h2,h3⟩⟩:=hs
 ·exact⟨h0,.inl h1⟩
 ·exact⟨h0,.inr ⟨b,o,h1,h2,fun k hk=>by rw[Mi h];exact h3 k hk⟩⟩
end
section
variable{Φ:Nat→Option CF}{rd:Option Nat}{fn:Nat}{F:RO}
theorem kj{F:RO}{M:Mem}:∀{pend:List (Nat×Nat×bw)},(∀e∈pend,look F M e.2.1=none)→bX F M pend=true
 |[],_=>rfl
 |e::r,h=>by
  show(bif (look F M e.2.1).isNone then bX F M r else false)=true;rw[h e (bJ ..)];exact kj fun x hx=>h x (br _ hx)
theorem ra{mask:Nat}{M:Mem}:∀{pend:List (Nat×Nat×bw)},(pend.all fun e=> !testBit mask e.1)=true→dN mask pend M=(M,pend)
 |[],_=>rfl
 |(i,b,blk)::r,h=>by
  rw[List.all_cons,aX]at h;have h1:testBit mask i=false:=by have:=h.1;revert this;cases testBit mask i<;>simp
  show(bif testBit mask i then(M.set b blk).force fun M=>dN mask r M else match dN mask r M with|(M,p)=>(M,(i,b,blk)::p))=_;rw[h1,ra h.2];rfl
theorem Oj(base i mask:Nat)(dst:Option ay)(o:EO)(r:List (Nat×Nat×CO))(t:T)(M:Mem)(c:Nat)(pend:List (Nat×Nat×bw))(reads:List (Nat×Nat))(R:DS→Prop)(ok:cU F M c)
 (hm:(pend.all fun e=> !testBit mask e.1)=true) (hp:∀e∈pend,e.2.1<c∧look F M e.2.1=none)
 (h:∀F' M',cU F' M' c→(∀b,look F' M' b=look F M b)→nF (ew o (K Φ rd fn F') M' c t) fun v M2 c2=>Gr c M' c2 M2∧ ∀M3,Gr c M c2 M3→(∀x,c≤x→M3.get x=M2.get x)→jM base r (K Φ rd fn F) (.mk (setT t dst v) M3 c2 pend reads) R):
 jM base ((i,mask,.mk dst (.e o) none)::r) (K Φ rd fn F) (.mk t M c pend reads) R:=by
 obtain⟨F',M',s2,g1,g2,g3,g4,g5⟩:=gP (c:=c) mask reads F M [] ok.free ok.hiM
 have ok':cU F' M' c:=by
  refine⟨g4,fun b hb=>?_,fun b hb=>?_,ok.ge⟩
  ·have:=g3 b;rw[aT (g4 b hb),ok.look hb]at this;exact this
  ·have:∃blk,(b,blk)∈F':=by
    clear g1 g2 g3 g5 h
    induction F' with
    |nil=>cases hb
    |cons a F' ih=>
     obtain⟨k,z⟩:=a;rw[cj]at hb;split at hb
     ·rename_i e;have e:k=b:=e;exact⟨z,by rw[e];exact bJ ..⟩
     ·obtain⟨blk,hm⟩:=ih hb;exact⟨blk,br _ hm⟩
   obtain⟨blk,hm⟩:=this;exact fE F' g2 b blk hm
 obtain⟨v,M2,c2,hd,hg,hR⟩:=h F' M' ok' g3
 have hun:=g5 M2 hg.old
 have hf1:bX F' M' pend=true:=kj fun e he=>(g3 _).trans (hp e he).2
 have hf2:bX F' M2 pend=true:=kj fun e he=>by
  have h1:=(hp e he).1;have h2:=(g3 e.2.1).trans (hp e he).2;obtain⟨h3,h4⟩:=fy h2;exact gg ((hg.old _ h1).trans h3) h4
 have he:px (K Φ rd fn F) base (i,mask,.mk dst (.e o) none) (.mk t M c pend reads)=some (.mk (setT t dst v) (aU s2 M2) c2 pend reads):=by
  show sC o (K Φ rd fn F) mask dst t c reads (dN mask pend M)=_;rw[ra hm];show nU o (K Φ rd fn F) dst t c pend reads (bC mask reads F M [])=_;rw[g1];show(bif bX F' M' pend then lu F' dst t pend reads (s2++[]) (ew o (K Φ rd fn F') M' c t)else none)=_;rw[hf1,cond_true,hd,bP];show(bif bH M2 F'&&bX F' M2 pend then(aU s2 M2).force fun M=>(setT t dst v).force fun t=>some (DS.mk t M c2 pend reads)else none)=_;rw[(hg.ok ok').free,hf2];show((aU s2 M2).force fun M=>(setT t dst v).force fun t=>some (DS.mk t M c2 pend reads))=_;rw[Tr.force_eq,Tr.force_eq]
 rw[ea]
 have hle:=hg.le
 exact⟨_,he,hR _ ⟨hle,fun b hb=>by rw[hun,ac hb],fun b hb=>by rw[hun,ab (by omega)];exact hg.new b hb⟩ (fun x hx=>by rw[hun,ab (by omega)])⟩
end
section
variable{Φ:Nat→Option CF}{rd:Option Nat}{fn:Nat}{F:RO}
structure iF(h:Nat→Prop)(c:Nat)(M:Mem)(c':Nat)(M':Mem):Prop where
 le:c≤c'
 old:∀b,b<c→ ¬h b→M'.get b=M.get b
 new:∀b,c'≤b→M'.get b=none
theorem iF.of{h:Nat→Prop}{c c':Nat}{M M':Mem}(g:Gr c M c' M'):iF h c M c' M':=⟨g.le,fun b hb _=>g.old b hb,g.new⟩
theorem iF.trans{h:Nat→Prop}{M M1 M2:Mem}{c c1 c2:Nat}(g:iF h c M c1 M1)(g2:iF h c1 M1 c2 M2):iF h c M c2 M2:=
 ⟨aY g.le g2.le,fun b hb hn=>(g2.old b (Nat.lt_of_lt_of_le hb g.le) hn).trans (g.old b hb hn),g2.new⟩
theorem iF.wk{h h':Nat→Prop}{M M1:Mem}{c c1:Nat}(g:iF h c M c1 M1)(hh:∀b,b<c→h b→h' b):iF h' c M c1 M1:=
 ⟨g.le,fun b hb hn=>g.old b hb fun hx=>hn (hh b hb hx),g.new⟩
theorem iF.gr{h:Nat→Prop}{M M1:Mem}{c0 c c1:Nat}(g:iF h c M c1 M1)(h0:c0≤c)(hh:∀b,b<c0→ ¬h b):Gr c0 M c1 M1:=
 ⟨aY h0 g.le,fun b hb=>g.old b (by omega) (hh b hb),g.new⟩
theorem iF.set{h:Nat→Prop}{M:Mem}{c b:Nat}(ok:cU F M c)(hb:b<c)(hh:h b)(x:bw):iF h c M c (M.set b x):=
 ⟨ah _,fun b' _ hn=>ag _ _ fun e=>hn (by rw[e];exact hh),fun b' hb'=>by rw[ag _ _ (by omega)];exact ok.hiM b' hb'⟩
theorem iF.ok{h:Nat→Prop}{M M1:Mem}{c c1:Nat}(g:iF h c M c1 M1)(ho:cU F M c)(hh:∀b,b<c→h b→ ∃x,M.get b=some x):cU F M1 c1:=by
 refine⟨g.new,fun b hb=>ho.hiF b (aY g.le hb),fun b hb=>?_,aY ho.ge g.le⟩
 have hlt:b<c:=by
  by_cases hc:b<c
  ·exact hc
  ·rw[ho.hiF b (by omega)]at hb;cases hb
 rw[g.old b hlt fun hx=>?_]
 ·exact ho.ap b hb
 ·obtain⟨x,hx⟩:=hh b hlt hx;rw[ho.ap b hb]at hx;cases hx
theorem iq{c:Nat}{h:Nat→Prop}(mask:Nat):∀(reads:List (Nat×Nat)) (F:RO) (M:Mem) (s:List (Nat×bw)),(∀e∈reads,¬h e.2)→bH M F=true→(∀x,c≤x→M.get x=none)→
 ∃F' M' s2,bC mask reads F M s=Pr.mk F' M' (s2++s)∧bH M' F'=true∧(∀b,look F' M' b=look F M b)∧(∀x,c≤x→M'.get x=none)∧(∀x,(∀e∈reads,e.2≠x)→M'.get x=M.get x)∧ ∀N:Mem,(∀x,x<c→ ¬h x→N.get x=M'.get x)→ ∀x,(x<c→ ¬h x→(aU s2 N).get x=M.get x)∧(c≤x∨h x→(aU s2 N).get x=N.get x)
 |[],F,M,s,_,h2,h3=>⟨F,M,[],rfl,h2,fun _=>rfl,h3,fun _ _=>rfl,fun N hN x=>⟨fun h1 h2=>hN x h1 h2,fun _=>rfl⟩⟩
 |(i,x)::r,F,M,s,hr,h2,h3=>by
  have hr':∀e∈r,¬h e.2:=fun e he=>hr e (br _ he);rw[bC];cases ht:testBit mask i with
  |true=>
   obtain⟨F',M',s2,g1,g2,g3,g4,g6,g5⟩:=iq mask r F M s hr' h2 h3;exact⟨F',M',s2,g1,g2,g3,g4,fun y hy=>g6 y fun e he=>hy e (br _ he),g5⟩
  |false=>
   show∃F' M' s2,(match M.get x with|none=>bC mask r F M s|some blk=>(M.del x).force fun M=>bC mask r ((x,blk)::F) M ((x,blk)::s))=_∧_;cases hb:M.get x with
   |none=>
    obtain⟨F',M',s2,g1,g2,g3,g4,g6,g5⟩:=iq mask r F M s hr' h2 h3;exact⟨F',M',s2,g1,g2,g3,g4,fun y hy=>g6 y fun e he=>hy e (br _ he),g5⟩
   |some blk=>
    have hxc:x<c:=by
     apply Classical.byContradiction;intro hx;rw[h3 x (by omega)]at hb;cases hb
    have hxh:¬h x:=hr (i,x) (bJ ..);have hfr:bH (M.del x) ((x,blk)::F)=true:=by
     rw[dB,Tr.get_del,ac rfl,jl x h2];rfl
    obtain⟨F',M',s2,g1,g2,g3,g4,g6,g5⟩:=iq mask r ((x,blk)::F) (M.del x) ((x,blk)::s) hr' hfr (fun y hy=>by rw[Tr.get_del];split<;>first|rfl|exact h3 y hy);refine⟨F',M',s2++[(x,blk)],?_,g2,fun b=>?_,g4,fun y hy=>?_,fun N hN z=>?_⟩
    ·show((M.del x).force fun M=>bC mask r ((x,blk)::F) M ((x,blk)::s))=_;rw[Tr.force_eq,g1,bM];rfl
    ·rw[g3];by_cases e:b=x
     ·subst e;rw[au hb,aT (by rw[Tr.get_del,ac rfl]),cj,ac rfl]
     ·cases hM:M.get b with
      |some y=>rw[au hM,au (by rw[Tr.get_del,ab e];exact hM)]
      |none=>rw[aT hM,aT (by rw[Tr.get_del,ab e];exact hM),cj,ab (fun h=>e h.symm)]
    ·rw[g6 y fun e he=>hy e (br _ he),Tr.get_del,ab (fun e=>hy (i,x) (bJ ..) e.symm)]
    ·have key:∀(s2:List (Nat×bw)) (N:Mem),aU (s2++[(x,blk)]) N=(aU s2 N).set x blk:=by
      intro s2
      induction s2 with
      |nil=>intro N;show(N.set x blk).force (fun M=>M)=_;rw[Tr.force_eq];rfl
      |cons a s2 ih=>intro N;show(N.set a.1 a.2).force (fun M=>aU (s2++[(x,blk)]) M)=_;rw[Tr.force_eq,ih];show _=((N.set a.1 a.2).force fun M=>aU s2 M).set x blk;rw[Tr.force_eq]
     obtain⟨k1,k2⟩:=g5 N hN z;rw[key,Tr.get_set];refine⟨fun a1 a2=>?_,fun a1=>?_⟩
     ·by_cases e1:z=x
      ·subst e1;rw[ac rfl,hb]
      ·rw[ab e1,k1 a1 a2,Tr.get_del,ab e1]
     ·have e1:¬z=x:=by
       intro e;rcases a1 with a1|a1
       ·omega
       ·exact hxh (by rw[←e];exact a1)
      rw[ab e1,k2 a1]
theorem ax0{hx:Nat→Prop}(base i mask:Nat)(dst:Option ay)(o:EO)(r:List (Nat×Nat×CO))(t:T)(M:Mem)(c:Nat)(reads:List (Nat×Nat))(R:DS→Prop)(ok:cU F M c)(hr:∀e∈reads,¬hx e.2)(hs:∀b,b<c→hx b→ ∃x,M.get b=some x)
 (h:∀F' M',cU F' M' c→(∀b,look F' M' b=look F M b)→(∀b,(∀e∈reads,e.2≠b)→M'.get b=M.get b)→nF (ew o (K Φ rd fn F') M' c t) fun v M2 c2=>iF hx c M' c2 M2∧ ∀M3,iF hx c M c2 M3→(∀x,c≤x∨hx x→M3.get x=M2.get x)→jM base r (K Φ rd fn F) (.mk (setT t dst v) M3 c2 [] reads) R):
 jM base ((i,mask,.mk dst (.e o) none)::r) (K Φ rd fn F) (.mk t M c [] reads) R:=by
 obtain⟨F',M',s2,g1,g2,g3,g4,g6,g5⟩:=iq (c:=c) (h:=hx) mask reads F M [] hr ok.free ok.hiM
 have ok':cU F' M' c:=by
  refine⟨g4,fun b hb=>?_,fun b hb=>?_,ok.ge⟩
  ·have:=g3 b;rw[aT (g4 b hb),ok.look hb]at this;exact this
  ·have:∃blk,(b,blk)∈F':=by
    clear g1 g2 g3 g5 h
    induction F' with
    |nil=>cases hb
    |cons a F' ih=>
     obtain⟨k,z⟩:=a;rw[cj]at hb;split at hb
     ·rename_i e;have e:k=b:=e;exact⟨z,by rw[e];exact bJ ..⟩
     ·obtain⟨blk,hm⟩:=ih hb;exact⟨blk,br _ hm⟩
   obtain⟨blk,hm⟩:=this;exact fE F' g2 b blk hm
 obtain⟨v,M2,c2,hd,hg,hR⟩:=h F' M' ok' g3 g6
 have hun:=g5 M2 hg.old
 have ok2:cU F' M2 c2:=hg.ok ok' fun b hb hxb=>by rw[g6 b fun e he e1=>hr e he (by rw[e1];exact hxb)];exact hs b hb hxb
 have he:px (K Φ rd fn F) base (i,mask,.mk dst (.e o) none) (.mk t M c [] reads)=some (.mk (setT t dst v) (aU s2 M2) c2 [] reads):=by
  show nU o (K Φ rd fn F) dst t c [] reads (bC mask reads F M [])=_;rw[g1];show lu F' dst t [] reads (s2++[]) (ew o (K Φ rd fn F') M' c t)=_;rw[hd,bP];show(bif bH M2 F'&&true then(aU s2 M2).force fun M=>(setT t dst v).force fun t=>some (DS.mk t M c2 [] reads)else none)=_;rw[ok2.free];show((aU s2 M2).force fun M=>(setT t dst v).force fun t=>some (DS.mk t M c2 [] reads))=_;rw[Tr.force_eq,Tr.force_eq]
 rw[ea]
 have hle:=hg.le
 refine⟨_,he,hR _ ⟨hle,fun b hb hn=>(hun b).1 hb hn,fun b hb=>?_⟩ fun x hx=>(hun x).2 hx⟩
 rw[(hun b).2 (.inl (by omega))];exact hg.new b hb
theorem PL{M:Mem}{c b n ty sz bytes:Nat}{y:V}{es ns:List (List V)}(h:cB F M c sz (.l b 0 n n) es)(hn:es.length=n)(hsz:0<sz)(hy:cB F M c sz y ns)(hne:ns≠[])(h1:aE ns.flatten=true)(hr:kr (es.length+ns.length) bytes=true):
 nF (qC F M c ty sz bytes (.l b 0 n n) y) fun v' M' c'=>c'=c+1∧M'=M.set c (pH ty (es++ns).flatten)∧v'= .u c 0 (es++ns).length 0 (es++ns).length:=by
 unfold qC
 rw[xX hsz hy]
 have hnl:=ey hy.1
 have hn0:ns.length≠0:=fun e=>hne (List.length_eq_zero_iff.1 e)
 have e1:lT F M c ty sz bytes (.l b 0 n n) (some (ns.length,ns.flatten))=sU F M c ty sz bytes b 0 n n ns.length ns.flatten:=by
  show(bif aE ns.flatten&&Nat.beq ns.flatten.length (Nat.mul ns.length sz)then app F M c ty sz bytes (.l b 0 n n) ns.length ns.flatten else _)=_;rw[h1,bI,aj (show ns.flatten.length=Nat.mul ns.length sz from hnl)];show(bif Nat.beq ns.length 0 then _ else _)=_;rw[bI,ak hn0];rfl
 have hcl:cM F M b 0 es.flatten:=by
  obtain⟨h0,⟨rfl,h2⟩|⟨b',o',hv,hb,hc⟩⟩:=h
  ·intro k hk;cases hk
  ·rcases hv with⟨cap,_,hv⟩|⟨el,kn,_,hv⟩
   ·injection hv with e1 e2;subst e1 e2;exact hc
   ·cases hv
 obtain⟨r,hrd⟩:=kp hsz h.1 hcl
 rw[hn]at hrd
 have e2:sU F M c ty sz bytes b 0 n n ns.length ns.flatten=fV M c ty bytes (es.length+ns.length) 0 false (es.flatten++ns.flatten):=by
  unfold sU;rw[bW,ak (show¬Nat.add n ns.length≤n by show¬n+ns.length≤n;omega),cond_false,hrd,←hn];rfl
 refine⟨_,_,_,(e1.trans e2).trans (mS M c ty bytes _ _ hr),rfl,by rw[List.flatten_append],by rw[aO]⟩
theorem D3{M:Mem}{c sz:Nat}{v:V}{es:List (List V)}(h:cB F M c sz v es)(hne:es≠[]):∃v',sJ sz v (some (.i .i64 1)) none none=some v'∧cB F M c sz v' es.tail:=by
 have hl:1≤es.length:=by
  cases es with
  |nil=>exact absurd rfl hne
  |cons a r=>simp
 obtain⟨v',_,_,e3,_,hs⟩:=Rz (lo:=1) (hi:=es.length) h hl (ah _)
 exact⟨v',e3 rfl .i64,by rwa [List.take_length,List.drop_one]at hs⟩
end
def Xv:CC:=(.reg [(qq a4 (.mv (x6 0)))])
def Xw:CC:=(.reg [(qq a5 (.mv z0)),(qq a6 (.mv z1)),(qq a7 (.xib z5 z6)),(qq a4 (.mv z7))])
def c88:CF:= .mk 4 [.t a4] (.seq Xv (.seq Xw .ret))
theorem e88(v0 v1:V):bA 4 [v0,v1]=(.n (.n nI (some v1) nI) (some v0) ir):=rfl
def B88:=ai @e88 (ai (wu Xv.eq_1) (wu Xw.eq_1))
def Xt:CC:=(.reg [(qq a4 (.mv xF))])
def Xu:CC:=(.reg [(qq a5 (.mv z0)),(qq a6 (.ln .str z5)),(qq a7 (.mv z1)),(qq a8 (.ln .str z7)),(qq a9 (.bi .geq z6 z8)),(qq dV (.mv z9)),(aR fo (.mv z0) dV),(aR fF (.mv z1) dV),(aR eO (.ln .str eP) dV),(aR gp (.slS ec none (some ej)) dV),(aR eC (.mv z1) dV),(aR i7 (.bi .eql i9 i5) dV),(qq fY (.pk fT j3 xF)),(qq a4 (.mv gy))])
def c87:CF:= .mk 5 [.t a4] (.seq Xt (.seq Xu .ret))
theorem e87(v0 v1:V):bA 5 [v0,v1]=(.n (.n ir (some v1) ir) (some v0) j1):=rfl
def B87:=ai @e87 (ai (wu Xt.eq_1) (wu Xu.eq_1))
def sA:V→Option (List UInt8)
 | .s n x=>if bT (bl n x)=x then some (bl n x)else none
 |_=>none
theorem mH(l:List UInt8):sA (sV l)=some l:=by
 show(if bT (bl l.length (bT l))=bT l then some (bl l.length (bT l))else none)=_
 rw[jr,ac rfl]
theorem af8{v:V}{l:List UInt8}(h:sA v=some l):v=sV l:=by
 unfold sA at h
 split at h
 ·rename_i n x;split at h
  ·rename_i hx;obtain rfl:=ae h;show V.s n x=V.s (bl n x).length (bT (bl n x));rw[hx,gq]
  ·cases h
 ·cases h
def sE(c:UInt8):List UInt8→Nat→Option Nat
 |[],_=>none
 |x::r,i=>if x=c then some i else sE c r (i+1)
theorem zY{c:UInt8}:∀{l:List UInt8} {i k:Nat},sE c l i=some k→i≤k∧k<i+l.length
 |[],i,k,h=>by cases h
 |x::r,i,k,h=>by
  unfold sE at h;split at h
  ·obtain rfl:=ae h;simp
  ·have:=zY h;rw[aw];omega
theorem Ce(c:UInt8):∀(l:List UInt8) (i:Nat),k7 c.toNat l.length (bT l) i=sE c l i
 |[],i=>rfl
 |x::r,i=>by
  have hx:=UInt8.toNat_lt x;show(bif Nat.beq ((x.toNat+256*bT r)%256) c.toNat then some i else k7 c.toNat r.length ((x.toNat+256*bT r)/256) (Nat.succ i))=_;rw[show(x.toNat+256*bT r)%256=x.toNat by omega,show(x.toNat+256*bT r)/256=bT r by omega,bI,sE];by_cases h:x=c
  ·subst h;rw[aj rfl,ac rfl];rfl
  ·rw[ak (fun e=>h (UInt8.toNat_inj.1 e)),ab h,cond_false];exact Ce c r (i+1)
def ba3(x c:V):Option V:=(cE (.xib (.c x) (.c c)) [] .e .e).val
theorem b35{F:RO}(x c:X)(M:Mem)(t:T):(cE (.xib x c) F M t).val=ba3 (x.ev t) (c.ev t):=Eq.trans rfl (Eq.refl _)
def sF:Option Nat→Int
 |some k=>(k:Int)
 |none=> -1
theorem ay2(l:List UInt8)(c:UInt8):ba3 (sV l) (bV c)=some (.i .i64 (sF (sE c l 0))):=by
 show(AD (k7 (Nat.mod c.toNat 256) l.length (bT l) 0)).val=_
 have:=UInt8.toNat_lt c
 rw[show Nat.mod c.toNat 256=c.toNat from Nat.mod_eq_of_lt (by omega),Ce]
 cases sE c l 0<;>rfl
theorem t88(Φ:Nat→Option CF)(h:Φ 88=some c88)(l:List UInt8)(b:UInt8)(ct:Nat):To Φ 88 [sV l,bV b] ct (.i .i64 (sF (sE b l 0))):=by
 refine gn h ?_
 simp only[WX,B88,b35,ay2]
def OT:V→Option UInt8
 | .i .u8 (.ofNat n)=>if n<256 then some (UInt8.ofNat n)else none
 |_=>none
theorem GE(b:UInt8):OT (bV b)=some b:=by
 have:=UInt8.toNat_lt b
 show(if b.toNat<256 then some (UInt8.ofNat b.toNat)else none)=_
 rw[ac (by omega),UInt8.ofNat_toNat]
theorem af7{v:V}{b:UInt8}(h:OT v=some b):v=bV b:=by
 unfold OT at h
 split at h
 ·rename_i n;split at h
  ·obtain rfl:=ae h;show V.i .u8 (n:Int)=V.i .u8 ((UInt8.ofNat n).toNat:Int);rw[UInt8.toNat_ofNat',Nat.mod_eq_of_lt (by omega)]
  ·cases h
 ·cases h
def h88:List V→Option V
 |[v,w]=>(sA v).bind fun l=>(OT w).bind fun b=>some (.i .i64 (sF (sE b l 0)))
 |_=>none
theorem A7(l:List UInt8)(b:UInt8):h88 [sV l,bV b]=some (.i .i64 (sF (sE b l 0))):=by
 show(sA (sV l)).bind (fun l=>(OT (bV b)).bind fun b=>some (V.i .i64 (sF (sE b l 0))))=_
 rw[mH,Option.bind_some,GE,Option.bind_some]
theorem ac8{F:RO}(x:X)(lo hi:Option X)(M:Mem)(t:T):jL (.slS x lo hi) F M t=oV (xW (x.ev t) (lo.map fun x=>x.ev t) (hi.map fun x=>x.ev t)):=by
 refine(eX ?_).trans (congrArg oV (YD (F:=F) x lo hi M t))
 intro F' M'
 refine iT ?_
 show((tI (x.ev t) QR.f fun n s=>iC n s (optN t 0 lo) (optN t n hi))= .f∨ ∃y,(tI (x.ev t) QR.f fun n s=>iC n s (optN t 0 lo) (optN t n hi))= .v y)
 cases x.ev t with
 |s n s=>
  show QV (iC n s (optN t 0 lo) (optN t n hi));generalize optN t 0 lo=a;generalize optN t n hi=b;cases a with
  |none=>exact .inl rfl
  |some a=>
   cases b with
   |none=>exact .inl rfl
   |some b=>
    show QV (Bool.rec (motive:=fun _=>QR) .f (Bool.rec (motive:=fun _=>QR) .f (vS (b-a) (s/256^a%256^(b-a))) (Nat.ble b n)) (Nat.ble a b));cases Nat.ble a b with
    |false=>exact .inl rfl
    |true=>
     cases Nat.ble b n with
     |false=>exact .inl rfl
     |true=>exact .inr ⟨_,by show vS _ _=_;unfold vS;rw[bp,bp]⟩
 |_=>exact .inl rfl
theorem t87(Φ:Nat→Option CF)(h:Φ 87=some c87)(l p:List UInt8)(ct:Nat):To Φ 87 [sV l,sV p] ct (.b (decide (p.length≤l.length∧l.take p.length=p))):=by
 refine gn h ?_
 by_cases h1:p.length≤l.length
 ·have d1:decide ((p.length:Int)≤(l.length:Int))=true:=aj (by omega);have s1:=Yj l .i64 p.length h1;have e:decide (p.length≤l.length∧l.take p.length=p)=decide (l.take p.length=p):=by simp[h1]
  rw[e];simp only[WX,B87,d1,s1]
 ·have d1:decide ((p.length:Int)≤(l.length:Int))=false:=ak (by omega);have e:decide (p.length≤l.length∧l.take p.length=p)=false:=ak (fun hh=>h1 hh.1);rw[e];simp only[WX,B87,d1]
def LM:List V→Option V
 |[v,w]=>(sA v).bind fun l=>(sA w).bind fun p=>some (.b (decide (p.length≤l.length∧l.take p.length=p)))
 |_=>none
theorem ae3(l p:List UInt8):LM [sV l,sV p]=some (.b (decide (p.length≤l.length∧l.take p.length=p))):=by
 show(sA (sV l)).bind (fun l=>(sA (sV p)).bind fun p=>some (V.b (decide (p.length≤l.length∧l.take p.length=p))))=_
 rw[mH,Option.bind_some,mH,Option.bind_some]
def VX:CC:=(.reg [(qq a4 (.mv xF))])
def VY:CC:=(.reg [(qq a5 (.mv z0)),(qq a6 (.mv z1)),(ee a7 (.call 87 [z5,z6])),(qq a4 (.mv z7))])
def c73:CF:= .mk 4 [.t a4] (.seq VX (.seq VY .ret))
theorem e73(v0 v1:V):bA 4 [v0,v1]=(.n (.n nI (some v1) nI) (some v0) ir):=rfl
def B73:=ai @e73 (ai (wu VX.eq_1) (wu VY.eq_1))
def W6:CC:=(.reg [(qq a4 (.mv (x6 0)))])
def W7:CC:=(.reg [(qq a5 (.mv z0)),(qq a6 (.mv z1)),(ee a7 (.call 88 [z5,z6])),(qq a4 (.mv z7))])
def c76:CF:= .mk 4 [.t a4] (.seq W6 (.seq W7 .ret))
theorem e76(v0 v1:V):bA 4 [v0,v1]=(.n (.n nI (some v1) nI) (some v0) ir):=rfl
def B76:=ai @e76 (ai (wu W6.eq_1) (wu W7.eq_1))
def W4:CC:=(.reg [(qq a3 (.mv z0)),(qq a4 (.bi .gtr z3 (.c (.i .u8 32)))),(qq a5 (.mv z4)),(aR a6 (.mv z0) a5),(aR a7 (.bi .lss z6 (.c (.i .u8 127))) a5),(qq a8 (.pk z5 z7 xF)),(qq a9 (.mv z8)),(aR dV (.mv z0) a9),(k9 fo (.call 76 [(.c (.s 8 2603404095485934631)),fT]) a9),(aR fF (.bi .lss ec (x6 0)) a9),(qq eO (.pk z9 eP xF)),(qq a2 (.mv ej))])
def W5:CC:=(.seq (.reg [(qq a2 (.mv xF))]) (.seq W4 .ret))
def c75:CF:= .mk 4 [.t a2] W5
theorem e75(v0:V):bA 4 [v0]=(.n ir (some v0) ir):=rfl
def B75:=ai @e75 (ai (wu W4.eq_1) (wu W5.eq_1))
def Wi:CC:=(.reg [(qq a3 (.mv z0)),(qq a4 (.bi .geq z3 (.c (.i .u8 32)))),(qq a5 (.mv z4)),(aR a6 (.mv z0) a5),(aR a7 (.bi .lss z6 (.c (.i .u8 127))) a5),(qq a8 (.pk z5 z7 xF)),(qq a9 (.mv z8)),(aR dV (.mv z0) a9),(aR fo (.bi .neq fT (.c (.i .u8 39))) a9),(qq fF (.pk z9 ec xF)),(qq a2 (.mv eP))])
def Wj:CC:=(.seq (.reg [(qq a2 (.mv xF))]) (.seq Wi .ret))
def c78:CF:= .mk 4 [.t a2] Wj
theorem e78(v0:V):bA 4 [v0]=(.n ir (some v0) ir):=rfl
def B78:=ai @e78 (ai (wu Wi.eq_1) (wu Wj.eq_1))
def yE(p l:List UInt8):Bool:=decide (p.length≤l.length∧l.take p.length=p)
theorem t73(Φ:Nat→Option CF)(h:Φ 73=some c73)(LM:Φ 87=some (.orc (bh LM)))(l p:List UInt8)(ct:Nat):To Φ 73 [sV l,sV p] ct (.b (yE p l)):=by
 refine gn h ?_
 have h1:=ae3 l p
 simp only[WX,B73,LM,h1]
 rfl
def h73:List V→Option V
 |[v,w]=>(sA v).bind fun l=>(sA w).bind fun p=>some (V.b (yE p l))
 |_=>none
theorem LJ(l p:List UInt8):h73 [sV l,sV p]=some (V.b (yE p l)):=by
 show(sA (sV l)).bind (fun l=>(sA (sV p)).bind fun p=>some (V.b (yE p l)))=_
 rw[mH,Option.bind_some,mH,Option.bind_some]
theorem t76(Φ:Nat→Option CF)(h:Φ 76=some c76)(h88:Φ 88=some (.orc (bh h88)))(l:List UInt8)(b:UInt8)(ct:Nat):To Φ 76 [sV l,bV b] ct (.i .i64 (sF (sE b l 0))):=by
 refine gn h ?_
 have h1:=A7 l b
 simp only[WX,B76,h88,h1]
def nb(b:UInt8):Bool:=decide (32<b.toNat)&&(decide (b.toNat<127)&&decide (sF (sE b [39,124,60,62,59,38,33,36] 0)<0))
def mw(b:UInt8):Bool:=decide (32≤b.toNat)&&(decide (b.toNat<127)&&decide (b.toNat≠39))
theorem ai8:V.s 8 2603404095485934631=sV [39,124,60,62,59,38,33,36]:=rfl
theorem t75(Φ:Nat→Option CF)(h:Φ 75=some c75)(h76:Φ 76=some (.orc (bh h88)))(b:UInt8)(ct:Nat):To Φ 75 [bV b] ct (.b (nb b)):=by
 refine gn h ?_
 have h1:=A7 [39,124,60,62,59,38,33,36] b
 rw[←ai8]at h1
 have hb:bV b= .i .u8 (b.toNat:Int):=rfl
 have hlt:=UInt8.toNat_lt b
 have d1:decide ((32:Int)<(b.toNat:Int))=decide (32<b.toNat):=by congr 1;exact propext (by omega)
 have d2:decide ((b.toNat:Int)<127)=decide (b.toNat<127):=by congr 1;exact propext (by omega)
 unfold nb
 rw[hb]at h1⊢
 cases x1:decide (32<b.toNat)with
 |false=>simp only[WX,B75,d1,x1,Bool.false_and]
 |true=>
  cases x2:decide (b.toNat<127)with
  |false=>simp only[WX,B75,d1,d2,x1,x2,Bool.false_and]
  |true=>simp only[WX,B75,h76,h1,d1,d2,x1,x2]
theorem t78(Φ:Nat→Option CF)(h:Φ 78=some c78)(b:UInt8)(ct:Nat):To Φ 78 [bV b] ct (.b (mw b)):=by
 refine gn h ?_
 have hb:bV b= .i .u8 (b.toNat:Int):=rfl
 have hlt:=UInt8.toNat_lt b
 have d1:decide ((32:Int)≤(b.toNat:Int))=decide (32≤b.toNat):=by congr 1;exact propext (by omega)
 have d2:decide ((b.toNat:Int)<127)=decide (b.toNat<127):=by congr 1;exact propext (by omega)
 have d3:decide ((b.toNat:Int)≠39)=decide (b.toNat≠39):=by congr 1;exact propext (by omega)
 unfold mw
 rw[hb]
 cases x1:decide (32≤b.toNat)with
 |false=>simp only[WX,B78,d1,x1,Bool.false_and]
 |true=>
  cases x2:decide (b.toNat<127)with
  |false=>simp only[WX,B78,d1,d2,x1,x2,Bool.false_and]
  |true=>simp only[WX,B78,d1,d2,d3,x1,x2]
abbrev Yn(u:List (Option V))(x0 x1 x7 x8:V):T:=(.n (.n (.n (.n (eg u 15) (some x7) (eg u 23)) (uO u 3) (ek u 19 11 27)) (some x1) (aJ u 17 9 25 5 21 13 29)) (some x0) (.n (.n (.n (eg u 16) (some x8) (eg u 24)) (uO u 4) (ek u 20 12 28)) (uO u 2) (aJ u 18 10 26 6 22 14 30)))
abbrev b04(u:List (Option V))(x0 x5 x6 x7:V):T:=(.n (.n (.n (.n (eg u 15) (some x7) (eg u 23)) (uO u 3) (ek u 19 11 27)) (uO u 1) (.n (ek u 17 9 25) (some x5) (ek u 21 13 29))) (some x0) (.n (aJ u 16 8 24 4 20 12 28) (uO u 2) (.n (ek u 18 10 26) (some x6) (ek u 22 14 30))))
def W8:CC:=(.reg [(qq a4 (.mv xF))])
def W9:CC:=(.reg [(qq a6 (.mv z0)),(qq a7 (.ln .str z6)),(qq a8 (.mv (x6 0)))])
def Wa:CC:=(.reg [(qq a9 (.bi .lss z8 z7))])
def Wb:CC:=(.reg [(qq dV (.mv z8)),(qq a5 (.mv fT))])
def Wc:CC:=(.reg [(qq fo (.mv z1)),(qq fF (.mv z0)),(qq eO (.mv z5)),(qq gp (.ixS eP ej)),(ee eC (.cv ec [i9])),(qq i7 (.un .not i5))])
def Wd:CC:=(.reg [(qq a4 (.mv xF))])
def We:CC:=(.seq Wc (.cond j3 (.seq Wd .ret) .skip))
def Wg:CC:=(.reg [(qq fY (.bi .add z8 (x6 1))),(qq a8 (.mv gy))])
def Wh:CC:=(.seq (.cond z9 .skip (.exit 0)) (.seq (.block 1 (.seq Wb We)) Wg))
def KH:CC:=(.reg [(qq a4 (.mv xT))])
def KI:CC:=(.seq (.seq W9 (.block 0 (.loop (.seq Wa Wh)))) (.seq KH .ret))
def c77:CF:= .mk 5 [.t a4] (.seq W8 KI)
theorem e77(v0 v1:V):bA 5 [v0,v1]=(.n (.n ir (some v1) ir) (some v0) j1):=rfl
def Sk:=ai @e77 (ai (wu W8.eq_1) (ai (wu W9.eq_1) (ai (wu Wa.eq_1) (ai (wu Wb.eq_1) (ai (wu Wc.eq_1) (ai (wu Wd.eq_1) (ai (wu We.eq_1) (ai (wu Wg.eq_1) (ai (wu Wh.eq_1) (ai (wu KH.eq_1) (wu KI.eq_1)))))))))))
def UL:CC:=(.reg [(aa a5 (.bsl 9 8 1 [(.s 0 0)] [(0,(.c (.s 2 15934))),(1,(.c (.s 2 9766))),(2,(.c (.s 2 31868))),(3,(.c (.s 1 124))),(4,(.c (.s 1 60))),(5,(.c (.s 1 62))),(6,(.c (.s 1 59))),(7,(.c (.s 1 33)))])),(qq a6 (.ln .slice z5)),(qq a7 (.mv (x6 0)))])
def UM:CC:=(.reg [(qq a8 (.bi .lss z7 z6))])
def UN:CC:=(.reg [(qq a9 (.iaS 1 z5 z7)),(qq dV (.ld1 z9)),(qq a4 (.mv fT))])
def UO:CC:=(.reg [(qq fo (.mv z0)),(qq fF (.mv z4)),(ee eO (.call 73 [ec,eP]))])
def UP:CC:=(.reg [(qq gp (.mv z4)),(qq a2 (.mv i9))])
def UQ:CC:=(.seq UO (.cond ej (.seq UP .ret) .skip))
def UR:CC:=(.reg [(qq eC (.bi .add z7 (x6 1))),(qq a7 (.mv i5))])
def US:CC:=(.seq (.cond z8 .skip (.exit 0)) (.seq (.block 1 (.seq UN UQ)) UR))
def UT:CC:=(.seq (.reg [(qq a2 (.mv (.c (.s 0 0))))]) .ret)
def IL:CC:=(.seq (.seq UL (.block 0 (.loop (.seq UM US)))) UT)
def IM:CC:=(.seq (.reg [(qq a2 (.mv (.c (.s 0 0))))]) IL)
def c55:CF:= .mk 5 [.t a2] IM
theorem e55(v0:V):bA 5 [v0]=(.n j1 (some v0) j1):=rfl
def B55:=ai @e55 (ai (wu UL.eq_1) (ai (wu UM.eq_1) (ai (wu UN.eq_1) (ai (wu UO.eq_1) (ai (wu UP.eq_1) (ai (wu UQ.eq_1) (ai (wu UR.eq_1) (ai (wu US.eq_1) (ai (wu UT.eq_1) (ai (wu IL.eq_1) (wu IM.eq_1)))))))))))
def h75:List V→Option V
 |[v]=>(OT v).bind fun b=>some (V.b (nb b))
 |_=>none
theorem LL(b:UInt8):h75 [bV b]=some (V.b (nb b)):=by
 show(OT (bV b)).bind (fun b=>some (V.b (nb b)))=_
 rw[GE,Option.bind_some]
def FY:List V→Option V
 |[v]=>(OT v).bind fun b=>some (V.b (mw b))
 |_=>none
theorem ae2(b:UInt8):FY [bV b]=some (V.b (mw b)):=by
 show(OT (bV b)).bind (fun b=>some (V.b (mw b)))=_
 rw[GE,Option.bind_some]
theorem t77(Φ:Nat→Option CF)(h:Φ 77=some c77)(FY:Φ 78=some (.orc (bh FY)))(l:List UInt8)(hl:l.length≤1000000)(ct:Nat):To Φ 77 [sV l,.f 78 [] []] ct (.b (l.all mw)):=by
 refine gn h ?_
 simp only[WX,Sk]
 obtain⟨I1,hI1⟩:∃I:Nat→St→Prop,∀n s',I n s'↔(∃(i:Nat) (u:List (Option V)),n=l.length-i∧i≤l.length∧s'= .mk ((Yn u (sV l) (.f 78 [] []) (.i .i64 (l.length:Int)) (.i .i64 (i:Int)))) [] .e ct∧l.all mw=(l.drop i).all mw):=⟨fun n s'=>_,fun _ _=>Iff.rfl⟩
 refine bS I1 ?_ l.length _ ((hI1 _ _).2 ⟨0,(G2 (X4 (X1 (G2 (ce (X4 (X2 []))))))),rfl,az _,rfl,by rw[List.drop_zero]⟩)
 intro n s' hIs
 obtain⟨i,u,rfl,hi,rfl,hb⟩:=(hI1 _ _).1 hIs
 clear hIs
 have q8:cZ .add (.i .i64 (i:Int)) (.i .i64 1)=some (.i .i64 ((i+1:Nat):Int)):=by rw[bF _ _ (by omega) (by omega)];simp
 by_cases hlt:i<l.length
 ·have d1:decide ((i:Int)<(l.length:Int))=true:=aj (by omega);have hix:uW (sV l) (.i .i64 (i:Int))=some (bV l[i]):=EG l .i64 i hlt;have hd:l.drop i=l[i]::l.drop (i+1):=cQ hlt;have hh:=ae2 l[i];cases ho:mw l[i]with
  |true=>
   rw[ho]at hh;simp only[WX,Sk,d1,hix,FY,hh,q8];exact⟨l.length-(i+1),by omega,(hI1 _ _).2 ⟨i+1,(G2 (X4 (X1 (G2 (ce (X4 (X2 []))))))),rfl,by omega,rfl,by rw[hb,hd,List.all_cons,ho,Bool.true_and]⟩⟩
  |false=>
   rw[ho]at hh;rw[show l.all mw=false by rw[hb,hd,List.all_cons,ho,Bool.false_and]];simp only[WX,Sk,d1,hix,FY,hh]
 ·obtain rfl:i=l.length:=by omega
  have d1:decide ((l.length:Int)<(l.length:Int))=false:=ak (by omega);rw[show l.all mw=true by rw[hb,dG];rfl];simp only[WX,Sk,d1]
theorem bp8(Φ:Nat→Option CF)(h:Φ 77=some c77)(h75:Φ 75=some (.orc (bh h75)))(l:List UInt8)(hl:l.length≤1000000)(ct:Nat):To Φ 77 [sV l,.f 75 [] []] ct (.b (l.all nb)):=by
 refine gn h ?_
 simp only[WX,Sk]
 obtain⟨I1,hI1⟩:∃I:Nat→St→Prop,∀n s',I n s'↔(∃(i:Nat) (u:List (Option V)),n=l.length-i∧i≤l.length∧s'= .mk ((Yn u (sV l) (.f 75 [] []) (.i .i64 (l.length:Int)) (.i .i64 (i:Int)))) [] .e ct∧l.all nb=(l.drop i).all nb):=⟨fun n s'=>_,fun _ _=>Iff.rfl⟩
 refine bS I1 ?_ l.length _ ((hI1 _ _).2 ⟨0,(G2 (X4 (X1 (G2 (ce (X4 (X2 []))))))),rfl,az _,rfl,by rw[List.drop_zero]⟩)
 intro n s' hIs
 obtain⟨i,u,rfl,hi,rfl,hb⟩:=(hI1 _ _).1 hIs
 clear hIs
 have q8:cZ .add (.i .i64 (i:Int)) (.i .i64 1)=some (.i .i64 ((i+1:Nat):Int)):=by rw[bF _ _ (by omega) (by omega)];simp
 by_cases hlt:i<l.length
 ·have d1:decide ((i:Int)<(l.length:Int))=true:=aj (by omega);have hix:uW (sV l) (.i .i64 (i:Int))=some (bV l[i]):=EG l .i64 i hlt;have hd:l.drop i=l[i]::l.drop (i+1):=cQ hlt;have hh:=LL l[i];cases ho:nb l[i]with
  |true=>
   rw[ho]at hh;simp only[WX,Sk,d1,hix,h75,hh,q8];exact⟨l.length-(i+1),by omega,(hI1 _ _).2 ⟨i+1,(G2 (X4 (X1 (G2 (ce (X4 (X2 []))))))),rfl,by omega,rfl,by rw[hb,hd,List.all_cons,ho,Bool.true_and]⟩⟩
  |false=>
   rw[ho]at hh;rw[show l.all nb=false by rw[hb,hd,List.all_cons,ho,Bool.false_and]];simp only[WX,Sk,d1,hix,h75,hh]
 ·obtain rfl:i=l.length:=by omega
  have d1:decide ((l.length:Int)<(l.length:Int))=false:=ak (by omega);rw[show l.all nb=true by rw[hb,dG];rfl];simp only[WX,Sk,d1]
def fQ(l:List (List UInt8)):List (List V):=l.map fun w=>[sV w]
theorem rM{F:RO}{M:Mem}{c:Nat}{v:V}{l:List (List UInt8)}(hs:cB F M c 1 v (fQ l))(i:Nat)(hi:i<l.length):
 ∃b o,b<c∧(∀k,iN 1 v (.i k (i:Int))=some (.p b o))∧load1 F M b o=some (sV l[i]):=
 cB.one hs i (by simpa [fQ]using hi) (by simp[fQ])
def G0:List (List UInt8):=[[62,62],[38,38],[124,124],[124],[60],[62],[59],[33]]
def vt(l:List UInt8):List UInt8:=(G0.find? fun x=>yE x l).getD []
theorem r55(Φ:Nat→Option CF)(h:Φ 55=some c55)(h73:Φ 73=some (.orc (bh h73))){F:RO}{M:Mem}{c:Nat}(ok:cU F M c)(l:List UInt8):
 Calls Φ F 55 [sV l] M c fun r _ _=>r=sV (vt l):=by
 refine aM h ?_
 simp only[WX,Nat.reduceAdd,B55]
 have hs:cB F (M.set c (bK [V.s 0 0] 9 [V.s 2 15934,V.s 2 9766,V.s 2 31868,V.s 1 124,V.s 1 60,V.s 1 62,V.s 1 59,V.s 1 33])) (c+1) 1 (.l c 0 8 8) (fQ G0):=Nl (d:=[V.s 0 0]) (ty:=9) ((am _ _ _).trans (by rfl)) (by omega) (by intro e he;obtain⟨x,_,rfl⟩:=List.mem_map.1 he;rfl) rfl
 generalize M.set c (bK [V.s 0 0] 9 [V.s 2 15934,V.s 2 9766,V.s 2 31868,V.s 1 124,V.s 1 60,V.s 1 62,V.s 1 59,V.s 1 33])=M1 at hs⊢
 have h8:((8:Nat):Int)=8:=rfl
 obtain⟨I1,hI1⟩:∃I:Nat→St→Prop,∀n s',I n s'↔(∃(i:Nat) (u:List (Option V)),n=8-i∧i≤8∧s'= .mk ((b04 u (sV l) (.l c 0 8 8) (.i .i64 ((8:Nat):Int)) (.i .i64 (i:Int)))) [] M1 (c+1)∧vt l=((G0.drop i).find? fun x=>yE x l).getD []):=⟨fun n s'=>_,fun _ _=>Iff.rfl⟩
 refine bS I1 ?_ 8 _ ((hI1 _ _).2 ⟨0,(G1 (X4 (G2 (G1 (ce (X4 (X2 (X1 [])))))))),rfl,az _,rfl,rfl⟩)
 intro n s' hIs
 obtain⟨i,u,rfl,hi,rfl,hb⟩:=(hI1 _ _).1 hIs
 clear hIs
 have q8:cZ .add (.i .i64 (i:Int)) (.i .i64 1)=some (.i .i64 ((i+1:Nat):Int)):=by rw[bF _ _ (by omega) (by omega)];simp
 by_cases hlt:i<8
 ·have d1:decide ((i:Int)<((8:Nat):Int))=true:=aj (by omega);have hlt':i<G0.length:=hlt;obtain⟨bb,oo,_,hia,hld⟩:=rM hs i hlt';have hia:=hia .i64;have hd:G0.drop i=G0[i]::G0.drop (i+1):=cQ hlt';have hh:=LJ l G0[i];rw[hd,List.find?_cons]at hb;cases ho:yE G0[i] l with
  |true=>
   rw[ho]at hh hb;simp only[WX,B55,d1,hia,hld,h73,hh];rw[hb];rfl
  |false=>
   rw[ho]at hh hb;simp only[WX,B55,d1,hia,hld,h73,hh,q8];exact⟨8-(i+1),by omega,(hI1 _ _).2 ⟨i+1,(G1 (X4 (G2 (G1 (ce (X4 (X2 (X1 [])))))))),rfl,by omega,rfl,hb⟩⟩
 ·obtain rfl:i=8:=by omega
  have d1:decide (((8:Nat):Int)<((8:Nat):Int))=false:=ak (by omega);simp only[WX,B55,d1];rw[hb];rfl
def h55:List V→Option V
 |[v]=>(sA v).bind fun l=>some (sV (vt l))
 |_=>none
theorem LI(l:List UInt8):h55 [sV l]=some (sV (vt l)):=by
 show(sA (sV l)).bind (fun l=>some (sV (vt l)))=_
 rw[mH,Option.bind_some]
def cP:List UInt8→List UInt8
 |[]=>[]
 |[a]=>if a=124∨a=60∨a=62∨a=59∨a=33 then[a]else[]
 |a::b::_=>if(a=62∧b=62)∨(a=38∧b=38)∨(a=124∧b=124)then[a,b]else if a=124∨a=60∨a=62∨a=59∨a=33 then[a]else[]
theorem ag6(x y a b:UInt8)(l:List UInt8):yE [x,y] (a::b::l)=(decide (a=x)&&decide (b=y)):=by
 unfold yE
 rw[←Bool.decide_and]
 congr 1
 simp
theorem aX2(x a:UInt8)(l:List UInt8):yE [x] (a::l)=decide (a=x):=by
 unfold yE
 congr 1
 simp
theorem Y9(x y a:UInt8):yE [x,y] [a]=false:=ak (by simp)
theorem R2(x:UInt8)(p:List UInt8):yE (x::p) []=false:=ak (by simp)
theorem Nf:∀l:List UInt8,vt l=cP l
 |[]=>by unfold vt G0;simp only[List.find?,R2];rfl
 |[a]=>by
  unfold vt G0 cP;simp only[List.find?,Y9,aX2];by_cases e1:a=124
  ·subst e1;rfl
  ·by_cases e2:a=60
   ·subst e2;rfl
   ·by_cases e3:a=62
    ·subst e3;rfl
    ·by_cases e4:a=59
     ·subst e4;rfl
     ·by_cases e5:a=33
      ·subst e5;rfl
      ·simp[e1,e2,e3,e4,e5]
 |a::b::r=>by
  unfold vt G0 cP;simp only[List.find?,ag6,aX2];by_cases e1:a=124
  ·subst e1;by_cases f:b=124
   ·subst f;rfl
   ·simp[f]
  ·by_cases e3:a=62
   ·subst e3;by_cases f:b=62
    ·subst f;rfl
    ·simp[f]
   ·by_cases e6:a=38
    ·subst e6;by_cases f:b=38
     ·subst f;rfl
     ·simp[f]
    ·by_cases e2:a=60
     ·subst e2;rfl
     ·by_cases e4:a=59
      ·subst e4;rfl
      ·by_cases e5:a=33
       ·subst e5;rfl
       ·simp[e1,e2,e3,e4,e5,e6]
theorem Ry(a:UInt8):cP [a]=if a=124∨a=60∨a=62∨a=59∨a=33 then[a]else[]:=rfl
theorem vu(a b:UInt8)(r:List UInt8):cP (a::b::r)=if(a=62∧b=62)∨(a=38∧b=38)∨(a=124∧b=124)then[a,b]else if a=124∨a=60∨a=62∨a=59∨a=33 then[a]else[]:=rfl
abbrev Pc:=List UInt8×Bool
def EZ(p:Pc):List V:=[sV p.1,.b p.2]
def kW(w:List Pc):List (List V):=w.map EZ
def qn(t:List UInt8):Nat:=(t.takeWhile mw).length
theorem Rl(x:UInt8)(t:List UInt8):qn (x::t)=if mw x=true then qn t+1 else 0:=by
 unfold qn
 rw[List.takeWhile_cons]
 split<;>rfl
def iW:List UInt8→Option (Option (Nat×List UInt8×Bool))
 |[]=>none
 |c::t=>if c=32∨cP (c::t)≠[]∨c=38 then none
  else if c=39 then(if(t.drop (qn t)).head?=some 39 then some (some (qn t+1,t.take (qn t),false))else some none)
  else if c=36 then(if t.head?=some 63 then some (some (1,[],true))else some none)
  else if nb c=true then some (some (0,[c],false))else some none
theorem B8{r:List UInt8}{x:Option (Nat×List UInt8×Bool)}(h:iW r=some x):0<r.length:=by
 cases r with
 |nil=>cases h
 |cons c t=>simp
def nn(w:List Pc)(text:List UInt8)(sm:Bool):List Pc:=if text≠[]∨(sm=true∧w=[])then w++[(text,false)]else w
def ko(w:List Pc)(text:List UInt8):List Pc:=(if text≠[]then w++[(text,false)]else w)++[([],true)]
def yF:Nat→List UInt8→List Pc→List UInt8→Bool→Nat→Option (List Pc×Nat)
 |0,_,_,_,_,_=>none
 |f+1,r,w,text,sm,n=>match iW r with
  |none=>some (nn w text sm,n)
  |some none=>none
  |some (some (k,bs,true))=>yF f (r.drop (k+1)) (ko w text) [] false (n+(k+1))
  |some (some (k,bs,false))=>yF f (r.drop (k+1)) w (text++bs) true (n+(k+1))
theorem np:∀(f g:Nat) (r:List UInt8) (w:List Pc) (text:List UInt8) (sm:Bool) (n:Nat),r.length<f→r.length<g→yF f r w text sm n=yF g r w text sm n
 |0,_,_,_,_,_,_,h,_=>by omega
 |_,0,_,_,_,_,_,_,h=>by omega
 |f+1,g+1,r,w,text,sm,n,h1,h2=>by
  unfold yF;cases hs:iW r with
  |none=>rfl
  |some x=>
   have hr:=B8 hs
   match x with
   |none=>rfl
   |some (k,bs,true)=>exact np f g _ _ _ _ _ (by rw[bu];omega) (by rw[bu];omega)
   |some (k,bs,false)=>exact np f g _ _ _ _ _ (by rw[bu];omega) (by rw[bu];omega)
def jN(r:List UInt8)(w:List Pc)(text:List UInt8)(sm:Bool)(n:Nat):Option (List Pc×Nat):=yF (r.length+1) r w text sm n
theorem xI{r:List UInt8}{w:List Pc}{text:List UInt8}{sm:Bool}{n:Nat}(h:iW r=none):jN r w text sm n=some (nn w text sm,n):=by
 unfold jN yF;rw[h]
theorem CS{r:List UInt8}{w:List Pc}{text:List UInt8}{sm:Bool}{n:Nat}(h:iW r=some none):jN r w text sm n=none:=by
 unfold jN yF;rw[h]
theorem MQ{r:List UInt8}{w:List Pc}{text bs:List UInt8}{sm:Bool}{n k:Nat}(h:iW r=some (some (k,bs,true))):jN r w text sm n=jN (r.drop (k+1)) (ko w text) [] false (n+(k+1)):=by
 have hr:=B8 h
 unfold jN
 rw[yF,h]
 exact np _ _ _ _ _ _ _ (by rw[bu];omega) (by omega)
theorem rC{r:List UInt8}{w:List Pc}{text bs:List UInt8}{sm:Bool}{n k:Nat}(h:iW r=some (some (k,bs,false))):jN r w text sm n=jN (r.drop (k+1)) w (text++bs) true (n+(k+1)):=by
 have hr:=B8 h
 unfold jN
 rw[yF,h]
 exact np _ _ _ _ _ _ _ (by rw[bu];omega) (by omega)
def WdP(F:RO)(s:List UInt8)(c:Nat)(r:V)(M':Mem)(c':Nat):Prop:=(∃ps n v,jN s [] [] false 0=some (ps,n)∧n≤s.length∧r= .t [.g [v],.i .i64 (n:Int)]∧ ∃b,bm M' c c' b 64 2 v (kW ps))∨(jN s [] [] false 0=none∧r= .t [.g [.l0],.i .i64 0])
theorem R1(w:List Pc)(p:Pc):kW (w++[p])=kW w++[EZ p]:=by unfold kW;rw[List.map_append];rfl
theorem dY(w:List Pc):(kW w).length=w.length:=List.length_map ..
theorem PG{M:Mem}{c0 c b:Nat}{v:V}{w:List Pc}(h:bm M c0 c b 64 2 v (kW w)):tD v=some (.i .i64 (w.length:Int)):=by
 have:=(h.sl (F:=[])).len;rwa [dY]at this
theorem j4{M:Mem}{c0 c b:Nat}{v:V}{w:List Pc}(h:bm M c0 c b 64 2 v (kW w)):bD v=true∧flatten v=[v]∧aE [v]=true:=by
 rcases h with⟨_,⟨_,rfl⟩|⟨_,_,rfl,_⟩⟩<;>exact⟨rfl,rfl,rfl⟩
theorem pS{F:RO}{M1:Mem}{c0 c1 b1:Nat}{v:V}{w:List Pc}(p:Pc)(hA:bm M1 c0 c1 b1 64 2 v (kW w))(ok1:cU F M1 c1)(h0:c0≤c1)(hw:w.length≤1000000):
 nF (qC F (M1.set c1 (bK [V.s 0 0,V.b false] 64 [sV p.1,.b p.2])) (c1+1) 64 2 24 v (.l c1 0 1 1)) fun v' M' c'=>∃b',bm M' c0 c' b' 64 2 v' (kW (w++[p]))∧Gr c0 M1 c' M'∧c1+1≤c'∧(∀x,x<c1→x≠b1→M'.get x=M1.get x):=by
 have grY:Gr c0 M1 (c1+1) (M1.set c1 (bK [V.s 0 0,V.b false] 64 [sV p.1,.b p.2])):=⟨by omega,fun b hb=>ag _ _ (by omega),fun b hb=>by rw[ag _ _ (by omega)];exact ok1.hiM b (by omega)⟩
 have hy:cB F (M1.set c1 (bK [V.s 0 0,V.b false] 64 [sV p.1,.b p.2])) (c1+1) 2 (.l c1 0 1 1) (kW [p]):=Nl (d:=[V.s 0 0,V.b false]) (ty:=64) (by rw[am];rfl) (by omega) (fun e he=>by obtain⟨x,_,rfl⟩:=List.mem_map.1 he;rfl) rfl
 refine(j5 (bytes:=24) (hA.up (show c1≤c1+1 by omega) (fun hx=>ag _ _ (by omega))) (c0:=c0) (M0:=M1) grY (by decide) hy rfl (gk (by rw[dY,dY];simp;omega) (by rw[dY,dY];simp;omega))).mono ?_
 rintro v' M' c' ⟨b',h1,h2,h3,h4,_⟩
 exact⟨b',by rw[R1];exact h1,h2,h3,fun x hx hb=>(h4 x (by omega) hb).trans (ag _ _ (by omega))⟩
theorem BT{M:Mem}{c0 c0' c b ty sz:Nat}{v:V}{es:List (List V)}(h:bm M c0 c b ty sz v es)(hx:c0'≤c0):bm M c0' c b ty sz v es:=by
 rcases h with⟨h0,h|⟨h1,h2,h3,h4⟩⟩
 ·exact⟨h0,.inl h⟩
 ·exact⟨h0,.inr ⟨by omega,h2,h3,h4⟩⟩
theorem jQ{M:Mem}{c0 c1 b x ty sz:Nat}{y:bw}{v:V}{es:List (List V)}(h:bm M c0 c1 b ty sz v es)(hx:x<c0):bm (M.set x y) c0 c1 b ty sz v es:=by
 rcases h with⟨h0,h|⟨h1,h2,h3,h4⟩⟩
 ·exact⟨h0,.inl h⟩
 ·exact⟨h0,.inr ⟨h1,h2,h3,by rw[ag _ _ (by omega)];exact h4⟩⟩
theorem D5(c:UInt8)(t:List UInt8):iW (c::t)=if c=32∨cP (c::t)≠[]∨c=38 then none
 else if c=39 then(if(t.drop (qn t)).head?=some 39 then some (some (qn t+1,t.take (qn t),false))else some none)
 else if c=36 then(if t.head?=some 63 then some (some (1,[],true))else some none)
 else if nb c=true then some (some (0,[c],false))else some none:=rfl
theorem aj2{t:List UInt8}(h:¬((39:UInt8)=32∨cP (39::t)≠[]∨(39:UInt8)=38)):iW (39::t)=if(t.drop (qn t)).head?=some 39 then some (some (qn t+1,t.take (qn t),false))else some none:=by
 rw[D5,ab h,ac rfl]
theorem B6{t:List UInt8}(h:¬((36:UInt8)=32∨cP (36::t)≠[]∨(36:UInt8)=38)):iW (36::t)=if t.head?=some 63 then some (some (1,[],true))else some none:=by
 rw[D5,ab h,ab (by decide),ac rfl]
theorem Ym{x:UInt8}{t:List UInt8}(h:¬(x=32∨cP (x::t)≠[]∨x=38))(h1:x≠39)(h2:x≠36):iW (x::t)=if nb x=true then some (some (0,[x],false))else some none:=by
 rw[D5,ab h,ab h1,ab h2]
theorem aj4{x:UInt8}{t:List UInt8}(h:x=32∨cP (x::t)≠[]∨x=38):iW (x::t)=none:=by
 rw[D5,ac h]
def VZ:CC:=(.reg [(qq a5 (.ld1 z0)),(qq a6 (.ln .slice z5)),(qq a7 (.bi .gtr z6 (x6 0))),(qq a8 (.mv z7)),(aH a9 (.ld1 z1) a8),(aH dV (.mv z9) a8),(aR fo (.ld1 z2) dV),(aR fF (.ln .slice ec) dV),(aR eO (.bi .eql eP (x6 0)) dV),(aH gp (.pk fT ej xF) a8),(aH eC (.mv i9) a8),(aR i7 (.ld1 z3) eC),(aR fY (.ld1 z4) eC),(aR gG (.ln .str gy) eC),(aR kG (.bi .geq j3 ju) eC),(aR jI (.mv mA) eC),(aH i4 (.ld1 z4) jI),(aH lw (.ld1 z3) jI),(aH kH (.ixS nK nL) jI),(aH jJ (.bi .neq mC (.c (.i .u8 36))) jI),(aR mq (.pk mB xT oJ) eC),(aH lL (.pk i5 qh xF) a8),(qq iH (.pk z8 xT pL))])
def W0:CC:=(.reg [(qq nO (.ld1 z2)),(qq kI (.ld1 z0)),(qq lM (.bs qj)),(qq mr (.bld [(.s 0 0),(.b false)] [(0,1,rZ)])),(aa sf (.bsl 64 1 2 [(.s 0 0),(.b false)] [(0,sk)])),(ee sg (.app 64 2 24 qi vN)),(ez (.st 1 z2 yo))])
def W2:CC:=(.seq VZ (.cond nE W0 .skip))
def W3:CC:=(.reg [(ez (.st 1 z0 (.c .l0))),(ez (.st 1 z1 xF))])
def PV:CF:= .mk 6 [] (.seq W2 W3)
theorem e74(v0 v1 v2 v3 v4:V):bA 6 [v0,v1,v2,v3,v4]=(.n (.n (.n ir (some v3) ir) (some v1) j1) (some v0) (.n (.n ir (some v4) ir) (some v2) j1)):=rfl
def Ph:=ai @e74 (ai (wu VZ.eq_1) (ai (wu W0.eq_1) (ai (wu W2.eq_1) (wu W3.eq_1))))
def bE(l:List UInt8):List (List V):=l.map fun x=>[bV x]
theorem lP(l:List UInt8):(bE l).length=l.length:=List.length_map ..
def WS(M0:Mem)(b:Nat)(s:List UInt8)(M:Mem)(c1:Nat)(w:List Pc)(text:List UInt8)(sm:Bool)(i:Nat):Prop:=
 ∃(v tv:V) (p1 p2:Nat),Gr b M0 c1 M∧b+6≤c1∧M.get b=some (af 9 [sV s])∧M.get (b+1)=some (af 36 [.l0])∧M.get (b+2)=some (af 34 [v])∧M.get (b+3)=some (af 96 [tv])∧M.get (b+4)=some (af 4 [.b sm])∧M.get (b+5)=some (af 3 [.i .i64 (i:Int)])∧bm M (b+6) c1 p1 64 2 v (kW w)∧bm M (b+6) c1 p2 5 1 tv (bE text)
def LG(w:List Pc)(text:List UInt8)(sm:Bool)(d:Bool):List Pc:=if text≠[]∨(sm=true∧w=[]∧d=false)then w++[(text,false)]else w
theorem yX{M:Mem}{c0 c1 p1 p2:Nat}{v tv:V}{w:List Pc}{text:List UInt8}(h1:bm M c0 c1 p1 64 2 v (kW w))(h2:bm M c0 c1 p2 5 1 tv (bE text)):tv= .l0∧text=[]∨v= .l0∧w=[]∨p1≠p2:=by
 rcases h2 with⟨_,⟨e2,rfl⟩|⟨_,_,_,g2⟩⟩
 ·exact .inl ⟨rfl,List.map_eq_nil_iff.1 e2⟩
 ·rcases h1 with⟨_,⟨e1,rfl⟩|⟨_,_,_,g1⟩⟩
  ·exact .inr (.inl ⟨rfl,List.map_eq_nil_iff.1 e1⟩)
  ·refine .inr (.inr fun e=>?_);subst e;rw[g1]at g2;injection g2 with g2
   injection g2 with g3
   cases g3
theorem cq{M:Mem}{c0 c1 b x ty sz:Nat}{y:bw}{v:V}{es:List (List V)}(h:bm M c0 c1 b ty sz v es)(hx:x<c0):bm (M.set x y) c0 c1 b ty sz v es:=by
 rcases h with⟨h0,h|⟨h1,h2,h3,h4⟩⟩
 ·exact⟨h0,.inl h⟩
 ·exact⟨h0,.inr ⟨h1,h2,h3,by rw[ag _ _ (by omega)];exact h4⟩⟩
theorem vJ{M0 M3:Mem}{b c2 b2 i:Nat}{s:List UInt8}{W:List Pc}{v':V}(gr:Gr b M0 c2 M3)(h6:b+6≤c2)(m0:M3.get b=some (af 9 [sV s]))(m1:M3.get (b+1)=some (af 36 [.l0]))(m2:M3.get (b+2)=some (af 34 [v']))(m5:M3.get (b+5)=some (af 3 [.i .i64 (i:Int)]))(hA:bm M3 (b+6) c2 b2 64 2 v' (kW W)):
 WS M0 b s ((M3.set (b+3) (af 96 [.l0])).set (b+4) (af 4 [.b false])) c2 W [] false i:=
 ⟨v',.l0,b2,0,(gr.set (b+3) _ (by omega) (by omega) (ah _)).set (b+4) _ (by omega) (by omega) (ah _),h6,by rw[ag _ _ (by omega),ag _ _ (by omega)];exact m0,by rw[ag _ _ (by omega),ag _ _ (by omega)];exact m1,by rw[ag _ _ (by omega),ag _ _ (by omega)];exact m2,by rw[ag _ _ (by omega)];exact am _ _ _,am _ _ _,by rw[ag _ _ (by omega),ag _ _ (by omega)];exact m5,cq (cq hA (by omega)) (by omega),bm.nil⟩
theorem r74(Φ:Nat→Option CF)(h:Φ 74=some PV){F:RO}{M0 M:Mem}{b c1 i:Nat}{s text:List UInt8}{w:List Pc}{sm:Bool}(ok0:cU F M0 b)(hi:i≤s.length)(hs:s.length≤400000)(hw:w.length≤1000000)(ht:text.length≤1000000)(hW:WS M0 b s M c1 w text sm i):
 Calls Φ F 74 [.p (b+3) 0,.p (b+4) 0,.p (b+2) 0,.p (b+5) 0,.p b 0] M c1 fun r M' c'=>WS M0 b s M' c' (LG w text sm (decide (s[i]?=some 36))) [] false i∧c1≤c':=by
 refine aM h ?_
 obtain⟨v,tv,p1,p2,gr,h6,m0,m1,m2,m3,m4,m5,hA,hT⟩:=hW
 have ok1:=gr.ok ok0
 have l0:load1 F M b 0=some (sV s):=aq m0 0
 have l2:load1 F M (b+2) 0=some v:=aq m2 0
 have l3:load1 F M (b+3) 0=some tv:=aq m3 0
 have l4:load1 F M (b+4) 0=some (.b sm):=aq m4 0
 have l5:load1 F M (b+5) 0=some (.i .i64 (i:Int)):=aq m5 0
 have hlt:tD tv=some (.i .i64 (text.length:Int)):=by have:=(hT.sl (F:=[])).len;rwa [lP]at this
 have hlv:=PG hA
 have st3:=aK m3 0 [V.l0] (by simp) rfl
 have st4:=aK ((ag M (af 96 [V.l0]) (show b+4≠b+3 by omega)).trans m4) 0 [V.b false] (by simp) rfl
 have NOP:∀W,W=w→WS M0 b s ((M.set (b+3) (af 96 [V.l0])).set (b+4) (af 4 [V.b false])) c1 W [] false i:=fun W e=>by rw[e];exact vJ (b2:=p1) gr h6 m0 m1 m2 m5 hA
 by_cases htn:text=[]
 ·have d1:decide ((0:Int)<(text.length:Int))=false:=ak (by rw[htn];simp);cases sm with
  |false=>
   simp only[WX,Ph,l3,hlt,d1,l4,st3,st4];exact⟨NOP _ (ab (by simp[htn])),ah _⟩
  |true=>
   by_cases hwn:w=[]
   ·have d2:decide ((w.length:Int)=0)=true:=aj (by rw[hwn];rfl);have hbs:bsV F M tv=some (sV text):=KT hT.sl;have hF:∀w,flatten (sV w)=[sV w]:=fun _=>rfl;have hO:∀w,bD (sV w)=true:=fun _=>rfl;have hR:∀t,eA [V.s 0 0,V.b false] 0 [sV t]=some [sV t,V.b false]:=fun _=>rfl;have hG:∀t,flatten (V.g [sV t,V.b false])=[sV t,V.b false]:=fun _=>rfl;by_cases hil:i<s.length
    ·have d3:decide ((s.length:Int)≤(i:Int))=false:=ak (by omega);have hix:uW (sV s) (.i .i64 (i:Int))=some (.i .u8 ((s[i]).toNat:Int)):=EG s .i64 i hil;have hg:s[i]?=some s[i]:=List.getElem?_eq_getElem hil;by_cases h36:s[i]=36
     ·have d4:decide (((s[i]).toNat:Int)≠36)=false:=ak (fun hh=>hh (by rw[h36];rfl));simp only[WX,Ph,l3,hlt,d1,l4,l2,hlv,d2,l5,l0,d3,hix,d4,st3,st4];exact⟨NOP _ (ab (by rw[hg,h36];simp[htn])),ah _⟩
     ·have d4:decide (((s[i]).toNat:Int)≠36)=true:=aj (fun hh=>h36 (UInt8.toNat_inj.1 (by rw[show(36:UInt8).toNat=36 from rfl];omega)));simp only[WX,Nat.reduceAdd,Ph,l3,hlt,d1,l4,l2,hlv,d2,l5,l0,d3,hix,d4,hbs,hF,hO,hR,hG];refine av ((pS (text,false) hA ok1 h6 hw).mono ?_);rintro v' M2 c2 ⟨b2,hA2,gr2,hle2,hold⟩;obtain⟨w1,w2,w3⟩:=j4 hA2;have n2:=(gr2.old (b+2) (by omega)).trans m2;have st2:=aK n2 0 [v'] (by simp) w3;have st3:=aK ((ag M2 (af 34 [v']) (show b+3≠b+2 by omega)).trans ((gr2.old (b+3) (by omega)).trans m3)) 0 [V.l0] (by simp) rfl;have st4:=aK ((ag (M2.set (b+2) (af 34 [v'])) (af 96 [V.l0]) (show b+4≠b+3 by omega)).trans ((ag M2 (af 34 [v']) (show b+4≠b+2 by omega)).trans ((gr2.old (b+4) (by omega)).trans m4))) 0 [V.b false] (by simp) rfl;simp only[WX,Ph,w2,st2,st3,st4];refine⟨?_,by omega⟩;rw[show LG w text true (decide (s[i]?=some 36))=w++[(text,false)]from ac (.inr ⟨rfl,hwn,by rw[hg];exact ak (fun hh=>h36 (ae hh))⟩)];exact vJ (b2:=b2) ⟨by omega,fun x hx=>by rw[ag _ _ (by omega),gr2.old x (by omega),gr.old x hx],fun x hx=>by rw[ag _ _ (by omega)];exact gr2.new x hx⟩ (by omega) (by rw[ag _ _ (by omega)];exact(gr2.old b (by omega)).trans m0) (by rw[ag _ _ (by omega)];exact(gr2.old (b+1) (by omega)).trans m1) (am _ _ _) (by rw[ag _ _ (by omega)];exact(gr2.old (b+5) (by omega)).trans m5) (cq hA2 (by omega))
    ·have d3:decide ((s.length:Int)≤(i:Int))=true:=aj (by omega);have hg:s[i]?=none:=List.getElem?_eq_none (by omega);simp only[WX,Nat.reduceAdd,Ph,l3,hlt,d1,l4,l2,hlv,d2,l5,l0,d3,hbs,hF,hO,hR,hG];refine av ((pS (text,false) hA ok1 h6 hw).mono ?_);rintro v' M2 c2 ⟨b2,hA2,gr2,hle2,hold⟩;obtain⟨w1,w2,w3⟩:=j4 hA2;have n2:=(gr2.old (b+2) (by omega)).trans m2;have st2:=aK n2 0 [v'] (by simp) w3;have st3:=aK ((ag M2 (af 34 [v']) (show b+3≠b+2 by omega)).trans ((gr2.old (b+3) (by omega)).trans m3)) 0 [V.l0] (by simp) rfl;have st4:=aK ((ag (M2.set (b+2) (af 34 [v'])) (af 96 [V.l0]) (show b+4≠b+3 by omega)).trans ((ag M2 (af 34 [v']) (show b+4≠b+2 by omega)).trans ((gr2.old (b+4) (by omega)).trans m4))) 0 [V.b false] (by simp) rfl;simp only[WX,Ph,w2,st2,st3,st4];refine⟨?_,by omega⟩;rw[show LG w text true (decide (s[i]?=some 36))=w++[(text,false)]from ac (.inr ⟨rfl,hwn,by rw[hg];rfl⟩)];exact vJ (b2:=b2) ⟨by omega,fun x hx=>by rw[ag _ _ (by omega),gr2.old x (by omega),gr.old x hx],fun x hx=>by rw[ag _ _ (by omega)];exact gr2.new x hx⟩ (by omega) (by rw[ag _ _ (by omega)];exact(gr2.old b (by omega)).trans m0) (by rw[ag _ _ (by omega)];exact(gr2.old (b+1) (by omega)).trans m1) (am _ _ _) (by rw[ag _ _ (by omega)];exact(gr2.old (b+5) (by omega)).trans m5) (cq hA2 (by omega))
   ·have d2:decide ((w.length:Int)=0)=false:=ak (fun e=>hwn (List.length_eq_zero_iff.1 (by omega)));simp only[WX,Ph,l3,hlt,d1,l4,l2,hlv,d2,st3,st4];exact⟨NOP _ (ab (by simp[htn,hwn])),ah _⟩
 ·have d1:decide ((0:Int)<(text.length:Int))=true:=aj (by have:text.length≠0:=fun e=>htn (List.length_eq_zero_iff.1 e);omega);have hbs:bsV F M tv=some (sV text):=KT hT.sl;have hF:∀w,flatten (sV w)=[sV w]:=fun _=>rfl;have hO:∀w,bD (sV w)=true:=fun _=>rfl;have hR:∀t,eA [V.s 0 0,V.b false] 0 [sV t]=some [sV t,V.b false]:=fun _=>rfl;have hG:∀t,flatten (V.g [sV t,V.b false])=[sV t,V.b false]:=fun _=>rfl;simp only[WX,Nat.reduceAdd,Ph,l3,hlt,d1,l2,hbs,hF,hO,hR,hG];refine av ((pS (text,false) hA ok1 h6 hw).mono ?_);rintro v' M2 c2 ⟨b2,hA2,gr2,hle2,hold⟩;obtain⟨w1,w2,w3⟩:=j4 hA2;have n2:=(gr2.old (b+2) (by omega)).trans m2;have st2:=aK n2 0 [v'] (by simp) w3;have st3:=aK ((ag M2 (af 34 [v']) (show b+3≠b+2 by omega)).trans ((gr2.old (b+3) (by omega)).trans m3)) 0 [V.l0] (by simp) rfl;have st4:=aK ((ag (M2.set (b+2) (af 34 [v'])) (af 96 [V.l0]) (show b+4≠b+3 by omega)).trans ((ag M2 (af 34 [v']) (show b+4≠b+2 by omega)).trans ((gr2.old (b+4) (by omega)).trans m4))) 0 [V.b false] (by simp) rfl;simp only[WX,Ph,w2,st2,st3,st4];refine⟨?_,by omega⟩;rw[show LG w text sm (decide (s[i]?=some 36))=w++[(text,false)]from ac (.inl htn)];exact vJ (b2:=b2) ⟨by omega,fun x hx=>by rw[ag _ _ (by omega),gr2.old x (by omega),gr.old x hx],fun x hx=>by rw[ag _ _ (by omega)];exact gr2.new x hx⟩ (by omega) (by rw[ag _ _ (by omega)];exact(gr2.old b (by omega)).trans m0) (by rw[ag _ _ (by omega)];exact(gr2.old (b+1) (by omega)).trans m1) (am _ _ _) (by rw[ag _ _ (by omega)];exact(gr2.old (b+5) (by omega)).trans m5) (cq hA2 (by omega))
abbrev iX(u:List (Option V))(x1 x2 x4 x5 x6 x7 x9:V):T:=(.n (.n (.n (.n (aJ u 63 31 95 15 79 47 111) (some x7) (aJ u 71 39 103 23 87 55 119)) (uO u 3) (.n (aJ u 67 35 99 19 83 51 115) (uO u 11) (aJ u 75 43 107 27 91 59 123))) (some x1) (.n (.n (aJ u 65 33 97 17 81 49 113) (some x9) (aJ u 73 41 105 25 89 57 121)) (some x5) (.n (aJ u 69 37 101 21 85 53 117) (uO u 13) (aJ u 77 45 109 29 93 61 125)))) (uO u 0) (.n (.n (.n (aJ u 64 32 96 16 80 48 112) (uO u 8) (aJ u 72 40 104 24 88 56 120)) (some x4) (.n (aJ u 68 36 100 20 84 52 116) (uO u 12) (aJ u 76 44 108 28 92 60 124))) (some x2) (.n (.n (aJ u 66 34 98 18 82 50 114) (uO u 10) (aJ u 74 42 106 26 90 58 122)) (some x6) (.n (aJ u 70 38 102 22 86 54 118) (uO u 14) (aJ u 78 46 110 30 94 62 126)))))
def UU:CC:=(.reg [(aa a1 (.bx 9 1 z0)),(aa a2 (.al 36 [.l0])),(qq a3 (.mv (x6 0)))])
def b64:=wu UU.eq_1
def UV:CC:=(.reg [(aa a6 (.al 4 [(.b false)])),(ez (.st 1 z6 xF))])
def YL:=wu UV.eq_1
def UW:CC:=(.reg [(aa a7 (.al 3 [(.i .i64 0)])),(ez (.st 1 z7 (x6 0))),(qq a8 (.mv (x6 0)))])
def YM:=wu UW.eq_1
def UX:CC:=(.reg [(qq dV (.mkf 74 [] [z5,z6,z4,z7,z1])),(qq a9 (.mv fT))])
def YN:=wu UX.eq_1
def UY:CC:=(.reg [(qq fo (.ld1 z7)),(qq fF (.ld1 z1)),(qq eO (.ln .str eP)),(qq gp (.bi .eql ec ej)),(qq eC (.mv i9)),(aH i7 (.ld1 z1) eC),(aH fY (.ld1 z7) eC),(aH gG (.ixS j3 gy) eC),(aH kG (.bi .eql ju (.c (.i .u8 32))) eC),(qq jI (.pk i5 xT mA)),(qq i4 (.mv mB)),(aH lw (.ld1 z1) i4),(aH kH (.ld1 z7) i4),(aH jJ (.ixS nL mC) i4),(aH mq (.bi .eql oJ (.c (.i .u8 38))) i4),(qq lL (.pk nK xT qh)),(qq iH (.mv pL)),(aH nO (.ld1 z1) iH),(aH kI (.ld1 z7) iH),(aH lM (.slS qi (some qj) none) iH),(gK mr (.call 55 [rZ]) iH),(aH sf (.bi .neq sk (.c (.s 0 0))) iH),(qq sg (.pk nE xT vN))])
def b65:=wu UY.eq_1
def JA:CC:=(.seq UY (.cond yo (.goto 0) .skip))
def b66:=wu JA.eq_1
def UZ:CC:=(.reg [(qq sP (.ld1 z1)),(qq po (.ld1 z7)),(qq mt (.ixS yp ua)),(qq nP (.bi .eql w6 (.c (.i .u8 39)))),(qq lm (.mv w7))])
def b67:=wu UZ.eq_1
def V0:CC:=(.reg [(qq sw (.ld1 z1)),(qq sR (.ld1 z7)),(qq sS (.slS vQ (some yr) none)),(ee qy (.call 73 [yt,(.c (.s 2 16164))])),(qq sQ (.mv w8))])
def b68:=wu V0.eq_1
def V1:CC:=(.reg [(qq ui (.mv z9)),(ee nQ (.cv yI []))])
def b69:=wu V1.eq_1
def IP:CC:=(.reg [(qq uj (.ld1 z4)),(qq vR (.bld [(.s 0 0),(.b false)] [(1,1,xT)])),(aa wh (.bsl 64 1 2 [(.s 0 0),(.b false)] [(0,BA)])),(ee wj (.app 64 2 24 yJ FI)),(ez (.st 1 z4 FJ))])
def as4:=wu IP.eq_1
def IQ:CC:=(.reg [(qq wl (.ld1 z7)),(qq sy (.bi .add Dj (x6 2))),(ez (.st 1 z7 Dk))])
def as5:=wu IQ.eq_1
def IR:CC:=(.reg [(qq BG (.ld1 z1)),(qq BH (.ld1 z7)),(qq yR (.ixS G6 Ow)),(ee BI (.call 75 [FK])),(qq yQ (.mv Ox))])
def as6:=wu IR.eq_1
def IU:CC:=(.dreg 8 [(0,0,(qq BJ (.ld1 z5))),(1,0,(qq vT (.ld1 z1))),(2,0,(qq BK (.ld1 z7))),(3,6,(qq vU (.ixS Oz OA))),(4,14,(aa BL (.bsl 5 1 1 [(.i .u8 0)] [(0,P4)]))),(5,31,(ee vV (.app 5 1 1 Oy OB))),(6,63,(ez (.st 1 z5 FL))),(7,127,(ez (.st 1 z6 xT)))])
def as7:=wu IU.eq_1
def IV:CC:=(.reg [(qq BM (.ld1 z7)),(qq yS (.bi .add P5 (x6 1))),(ez (.st 1 z7 FM))])
def as8:=wu IV.eq_1
def IW:CC:=(.reg [(qq pM (.bld [.l0] [])),(ez (.st 1 z2 vO)),(qq a3 (.mv (x6 0)))])
def as9:=wu IW.eq_1
def IX:CC:=(.cond G5 (.seq IU IV) (.seq IW .ret))
def at2:=wu IX.eq_1
def IY:CC:=(.cond yq (.seq V1 (.seq IP IQ)) (.seq IR IX))
def at3:=wu IY.eq_1
def IZ:CC:=(.cond vP (.goto 2) (.seq V0 IY))
def at4:=wu IZ.eq_1
def J0:CC:=(.reg [(qq qz (.ld1 z1)),(qq uk (.ld1 z7)),(qq yT (.bi .add G9 (x6 1))),(qq yU (.slS G7 (some FN) none)),(ee yV (.call 76 [Ga,(.c (.i .u8 39))])),(qq a8 (.mv OC))])
def at5:=wu J0.eq_1
def J1:CC:=(.reg [(qq yz (.mv z8)),(qq yW (.bi .lss Gb (x6 0))),(qq fG (.mv OD)),(aH yA (.ld1 z1) fG),(aH BN (.ld1 z7) fG),(aH BO (.bi .add OE (x6 1)) fG),(aH BP (.ld1 z7) fG),(aH BQ (.bi .add OH (x6 1)) fG),(aH BR (.mv z8) fG),(aH DK (.bi .add OI Gd) fG),(aH DL (.slS Gc (some OG) (some P6)) fG),(gK qA (.call 77 [P7,(.c (.f 78 [] []))]) fG),(aH ul (.un .not P8) fG),(qq DM (.pk w9 xT P9))])
def at6:=wu J1.eq_1
def J2:CC:=(.reg [(qq DN (.bld [.l0] [])),(ez (.st 1 z2 OJ)),(qq a3 (.mv (x6 0)))])
def at7:=wu J2.eq_1
def J3:CC:=(.cond Pa (.seq J2 .ret) .skip)
def at8:=wu J3.eq_1
def J4:CC:=(.dreg 12 [(0,0,(qq DO (.ld1 z5))),(1,0,(qq DP (.ld1 z1))),(2,0,(qq um (.ld1 z7))),(3,4,(qq DQ (.bi .add Pd (x6 1)))),(4,0,(qq FS (.ld1 z7))),(5,16,(qq FT (.bi .add Sd (x6 1)))),(6,0,(qq FU (.mv z8))),(7,112,(qq FV (.bi .add Se Sf))),(8,254,(qq FW (.slS Pb (some Pe) (some Sg)))),(9,511,(ee OO (.app 5 1 1 Sc Si))),(10,1023,(ez (.st 1 z5 Zl))),(11,2047,(ez (.st 1 z6 xT)))])
def at9:=wu J4.eq_1
def J5:CC:=(.reg [(qq OP (.ld1 z7)),(qq OQ (.mv z8)),(qq OR (.bi .add z97 (x6 2))),(qq OS (.bi .add z96 z98)),(ez (.st 1 z7 z99))])
def au0:=wu J5.eq_1
def J6:CC:=(.reg [(qq qt (.mv z9)),(ee qw (.cv vM []))])
def au1:=wu J6.eq_1
def J7:CC:=(.dreg 5 [(0,0,(qq so (.ld1 z4))),(1,1,(qq sq (.bld [.l0] [(0,1,Bw)]))),(2,0,(qq su (.ld1 z7))),(3,3,(ez (.st 1 z2 Bx))),(4,15,(qq a3 (.mv Bz)))])
def au2:=wu J7.eq_1
def J8:CC:=(.seq (.goto 1) (.seq .skip (.seq J6 (.seq J7 .ret))))
def au3:=wu J8.eq_1
def J9:CC:=(.seq (.seq J1 J3) (.seq J4 (.seq J5 J8)))
def au4:=wu J9.eq_1
def zt:CC:=(.seq (.block 0 (.seq UZ IZ)) (.seq (.goto 1) (.seq .skip (.seq J0 J9))))
def au5:=wu zt.eq_1
def Ja:CC:=(.seq UV (.seq UW (.seq UX (.seq .skip (.seq JA zt)))))
def O7:=wu Ja.eq_1
def Jb:CC:=(.seq (.reg [(aa a5 (.al 96 [.l0]))]) Ja)
def O8:=wu Jb.eq_1
def Jc:CC:=(.seq (.reg [(aa a4 (.al 34 [.l0]))]) Jb)
def O9:=wu Jc.eq_1
def Jd:CC:=(.reg [(qq fo (.ld1 z7)),(qq fF (.ld1 z1)),(qq eO (.ln .str eP)),(qq gp (.bi .eql ec ej)),(qq eC (.mv i9)),(aH i7 (.ld1 z1) eC),(aH fY (.ld1 z7) eC),(aH gG (.ixS j3 gy) eC),(aH kG (.bi .eql ju (.c (.i .u8 32))) eC),(qq jI (.pk i5 xT mA)),(qq i4 (.mv mB)),(aH lw (.ld1 z1) i4),(aH kH (.ld1 z7) i4),(aH jJ (.ixS nL mC) i4),(aH mq (.bi .eql oJ (.c (.i .u8 38))) i4),(qq lL (.pk nK xT qh)),(qq iH (.mv pL)),(aH nO (.ld1 z1) iH),(aH kI (.ld1 z7) iH),(aH lM (.slS qi (some qj) none) iH),(gK mr (.call 55 [rZ]) iH),(aH sf (.bi .neq sk (.c (.s 0 0))) iH),(qq sg (.pk nE xT vN))])
def ml:=wu Jd.eq_1
def uz:CC:=(.seq Jd (.cond yo (.goto 0) .skip))
def mm:=wu uz.eq_1
def Je:CC:=(.reg [(qq sP (.ld1 z1)),(qq po (.ld1 z7)),(qq mt (.ixS yp ua)),(qq nP (.bi .eql w6 (.c (.i .u8 39)))),(qq lm (.mv w7))])
def Bm:=wu Je.eq_1
def Jf:CC:=(.reg [(qq sw (.ld1 z1)),(qq sR (.ld1 z7)),(qq sS (.slS vQ (some yr) none)),(ee qy (.call 73 [yt,(.c (.s 2 16164))])),(qq sQ (.mv w8))])
def Bn:=wu Jf.eq_1
def Jg:CC:=(.reg [(qq ui (.mv z9)),(ee nQ (.cv yI []))])
def Oa:=wu Jg.eq_1
def Jh:CC:=(.reg [(qq uj (.ld1 z4)),(qq vR (.bld [(.s 0 0),(.b false)] [(1,1,xT)])),(aa wh (.bsl 64 1 2 [(.s 0 0),(.b false)] [(0,BA)])),(ee wj (.app 64 2 24 yJ FI)),(ez (.st 1 z4 FJ))])
def Ob:=wu Jh.eq_1
def Ji:CC:=(.reg [(qq wl (.ld1 z7)),(qq sy (.bi .add Dj (x6 2))),(ez (.st 1 z7 Dk))])
def au6:=wu Ji.eq_1
def Jj:CC:=(.reg [(qq BG (.ld1 z1)),(qq BH (.ld1 z7)),(qq yR (.ixS G6 Ow)),(ee BI (.call 75 [FK])),(qq yQ (.mv Ox))])
def Oc:=wu Jj.eq_1
def zu:CC:=(.dreg 8 [(0,0,(qq BJ (.ld1 z5))),(1,0,(qq vT (.ld1 z1))),(2,0,(qq BK (.ld1 z7))),(3,6,(qq vU (.ixS Oz OA))),(4,14,(aa BL (.bsl 5 1 1 [(.i .u8 0)] [(0,P4)]))),(5,31,(ee vV (.app 5 1 1 Oy OB))),(6,63,(ez (.st 1 z5 FL))),(7,127,(ez (.st 1 z6 xT)))])
def au7:=wu zu.eq_1
def Jk:CC:=(.reg [(qq BM (.ld1 z7)),(qq yS (.bi .add P5 (x6 1))),(ez (.st 1 z7 FM))])
def au8:=wu Jk.eq_1
def Jl:CC:=(.reg [(qq pM (.bld [.l0] [])),(ez (.st 1 z2 vO)),(qq a3 (.mv (x6 0)))])
def au9:=wu Jl.eq_1
def Jm:CC:=(.cond G5 (.seq zu Jk) (.seq Jl .ret))
def Od:=wu Jm.eq_1
def Jn:CC:=(.cond yq (.seq Jg (.seq Jh Ji)) (.seq Jj Jm))
def Bo:=wu Jn.eq_1
def Jo:CC:=(.cond vP (.goto 2) (.seq Jf Jn))
def Bp:=wu Jo.eq_1
def Jp:CC:=(.reg [(qq qz (.ld1 z1)),(qq uk (.ld1 z7)),(qq yT (.bi .add G9 (x6 1))),(qq yU (.slS G7 (some FN) none)),(ee yV (.call 76 [Ga,(.c (.i .u8 39))])),(qq a8 (.mv OC))])
def av0:=wu Jp.eq_1
def Jq:CC:=(.reg [(qq yz (.mv z8)),(qq yW (.bi .lss Gb (x6 0))),(qq fG (.mv OD)),(aH yA (.ld1 z1) fG),(aH BN (.ld1 z7) fG),(aH BO (.bi .add OE (x6 1)) fG),(aH BP (.ld1 z7) fG),(aH BQ (.bi .add OH (x6 1)) fG),(aH BR (.mv z8) fG),(aH DK (.bi .add OI Gd) fG),(aH DL (.slS Gc (some OG) (some P6)) fG),(gK qA (.call 77 [P7,(.c (.f 78 [] []))]) fG),(aH ul (.un .not P8) fG),(qq DM (.pk w9 xT P9))])
def av1:=wu Jq.eq_1
def Jr:CC:=(.reg [(qq DN (.bld [.l0] [])),(ez (.st 1 z2 OJ)),(qq a3 (.mv (x6 0)))])
def av2:=wu Jr.eq_1
def Js:CC:=(.cond Pa (.seq Jr .ret) .skip)
def av3:=wu Js.eq_1
def Jt:CC:=(.dreg 12 [(0,0,(qq DO (.ld1 z5))),(1,0,(qq DP (.ld1 z1))),(2,0,(qq um (.ld1 z7))),(3,4,(qq DQ (.bi .add Pd (x6 1)))),(4,0,(qq FS (.ld1 z7))),(5,16,(qq FT (.bi .add Sd (x6 1)))),(6,0,(qq FU (.mv z8))),(7,112,(qq FV (.bi .add Se Sf))),(8,254,(qq FW (.slS Pb (some Pe) (some Sg)))),(9,511,(ee OO (.app 5 1 1 Sc Si))),(10,1023,(ez (.st 1 z5 Zl))),(11,2047,(ez (.st 1 z6 xT)))])
def av4:=wu Jt.eq_1
def Ju:CC:=(.reg [(qq OP (.ld1 z7)),(qq OQ (.mv z8)),(qq OR (.bi .add z97 (x6 2))),(qq OS (.bi .add z96 z98)),(ez (.st 1 z7 z99))])
def av5:=wu Ju.eq_1
def Jv:CC:=(.reg [(qq qt (.mv z9)),(ee qw (.cv vM []))])
def av6:=wu Jv.eq_1
def Jw:CC:=(.dreg 5 [(0,0,(qq so (.ld1 z4))),(1,1,(qq sq (.bld [.l0] [(0,1,Bw)]))),(2,0,(qq su (.ld1 z7))),(3,3,(ez (.st 1 z2 Bx))),(4,15,(qq a3 (.mv Bz)))])
def av7:=wu Jw.eq_1
def Jx:CC:=(.seq (.goto 1) (.seq .skip (.seq Jv (.seq Jw .ret))))
def av8:=wu Jx.eq_1
def Jy:CC:=(.seq (.seq Jq Js) (.seq Jt (.seq Ju Jx)))
def av9:=wu Jy.eq_1
def uA:CC:=(.seq (.block 0 (.seq Je Jo)) (.seq (.goto 1) (.seq .skip (.seq Jp Jy))))
def Bq:=wu uA.eq_1
def zw:CC:=(.reg [(qq qz (.ld1 z1)),(qq uk (.ld1 z7)),(qq yT (.bi .add G9 (x6 1))),(qq yU (.slS G7 (some FN) none)),(ee yV (.call 76 [Ga,(.c (.i .u8 39))])),(qq a8 (.mv OC))])
def Oe:=wu zw.eq_1
def Jz:CC:=(.reg [(qq yz (.mv z8)),(qq yW (.bi .lss Gb (x6 0))),(qq fG (.mv OD)),(aH yA (.ld1 z1) fG),(aH BN (.ld1 z7) fG),(aH BO (.bi .add OE (x6 1)) fG),(aH BP (.ld1 z7) fG),(aH BQ (.bi .add OH (x6 1)) fG),(aH BR (.mv z8) fG),(aH DK (.bi .add OI Gd) fG),(aH DL (.slS Gc (some OG) (some P6)) fG),(gK qA (.call 77 [P7,(.c (.f 78 [] []))]) fG),(aH ul (.un .not P8) fG),(qq DM (.pk w9 xT P9))])
def Of:=wu Jz.eq_1
def JB:CC:=(.reg [(qq DN (.bld [.l0] [])),(ez (.st 1 z2 OJ)),(qq a3 (.mv (x6 0)))])
def aw0:=wu JB.eq_1
def JC:CC:=(.cond Pa (.seq JB .ret) .skip)
def Og:=wu JC.eq_1
def zx:CC:=(.dreg 12 [(0,0,(qq DO (.ld1 z5))),(1,0,(qq DP (.ld1 z1))),(2,0,(qq um (.ld1 z7))),(3,4,(qq DQ (.bi .add Pd (x6 1)))),(4,0,(qq FS (.ld1 z7))),(5,16,(qq FT (.bi .add Sd (x6 1)))),(6,0,(qq FU (.mv z8))),(7,112,(qq FV (.bi .add Se Sf))),(8,254,(qq FW (.slS Pb (some Pe) (some Sg)))),(9,511,(ee OO (.app 5 1 1 Sc Si))),(10,1023,(ez (.st 1 z5 Zl))),(11,2047,(ez (.st 1 z6 xT)))])
def aw1:=wu zx.eq_1
def JD:CC:=(.reg [(qq OP (.ld1 z7)),(qq OQ (.mv z8)),(qq OR (.bi .add z97 (x6 2))),(qq OS (.bi .add z96 z98)),(ez (.st 1 z7 z99))])
def aw2:=wu JD.eq_1
def JE:CC:=(.reg [(qq qt (.mv z9)),(ee qw (.cv vM []))])
def aw3:=wu JE.eq_1
def JF:CC:=(.dreg 5 [(0,0,(qq so (.ld1 z4))),(1,1,(qq sq (.bld [.l0] [(0,1,Bw)]))),(2,0,(qq su (.ld1 z7))),(3,3,(ez (.st 1 z2 Bx))),(4,15,(qq a3 (.mv Bz)))])
def aw4:=wu JF.eq_1
def JG:CC:=(.seq (.goto 1) (.seq .skip (.seq JE (.seq JF .ret))))
def aw5:=wu JG.eq_1
def zy:CC:=(.seq (.seq Jz JC) (.seq zx (.seq JD JG)))
def Oh:=wu zy.eq_1
def zz:CC:=(.reg [(qq qt (.mv z9)),(ee qw (.cv vM []))])
def Oi:=wu zz.eq_1
def uB:CC:=(.dreg 5 [(0,0,(qq so (.ld1 z4))),(1,1,(qq sq (.bld [.l0] [(0,1,Bw)]))),(2,0,(qq su (.ld1 z7))),(3,3,(ez (.st 1 z2 Bx))),(4,15,(qq a3 (.mv Bz)))])
def aw6:=wu uB.eq_1
def JH:CC:=(.tab 0 (.seq .skip (.seq zz (.seq uB .ret))) .skip)
def aw7:=wu JH.eq_1
def JI:CC:=(.tab 1 (.seq .skip (.seq uz uA)) (.tab 2 (.seq .skip (.seq zw zy)) JH))
def aw8:=wu JI.eq_1
def c56:CF:= .mk 7 [.cn a2 1,.t a3] (.seq UU (.scope Jc JI))
theorem e56(v0:V):bA 7 [v0]=(.n Nk (some v0) Nk):=rfl
def Gf:=ai @e56 (ai @b64 (ai @YL (ai @YM (ai @YN (ai @b65 (ai @b66 (ai @b67 (ai @b68 (ai @b69 (ai @as4 (ai @as5 (ai @as6 (ai @as7 (ai @as8 (ai @as9 (ai @at2 (ai @at3 (ai @at4 (ai @at5 (ai @at6 (ai @at7 (ai @at8 (ai @at9 (ai @au0 (ai @au1 (ai @au2 (ai @au3 (ai @au4 (ai @au5 (ai @O7 (ai @O8 (ai @O9 (ai @ml (ai @mm (ai @Bm (ai @Bn (ai @Oa (ai @Ob (ai @au6 (ai @Oc (ai @au7 (ai @au8 (ai @au9 (ai @Od (ai @Bo (ai @Bp (ai @av0 (ai @av1 (ai @av2 (ai @av3 (ai @av4 (ai @av5 (ai @av6 (ai @av7 (ai @av8 (ai @av9 (ai @Bq (ai @Oe (ai @Of (ai @aw0 (ai @Og (ai @aw1 (ai @aw2 (ai @aw3 (ai @aw4 (ai @aw5 (ai @Oh (ai @Oi (ai @aw6 (ai @aw7 (@aw8)))))))))))))))))))))))))))))))))))))))))))))))))))))))))))))))))))))))
theorem d41(Φ:Nat→Option CF){F:RO}{M0 M:Mem}{b c1 i:Nat}{s text:List UInt8}{w:List Pc}{sm:Bool}(ok0:cU F M0 b)(hi:i<s.length)(hs:s.length≤400000)(hw:w.length≤1000000)(ht:text.length≤1000000)(hW:WS M0 b s M c1 w text sm i)(fv:V)(u:List (Option V))(Q:Ex→St→Prop)(hQ:∀(u:List (Option V)) M' c',WS M0 b s M' c' w (text++[s[i]]) true i→Q .nrm (.mk ((iX u (.p b 0) (.p (b+1) 0) (.p (b+2) 0) (.p (b+3) 0) (.p (b+4) 0) (.p (b+5) 0) fv)) [] M' c')):
 Wp zu (K Φ none 56 F) (.mk ((iX u (.p b 0) (.p (b+1) 0) (.p (b+2) 0) (.p (b+3) 0) (.p (b+4) 0) (.p (b+5) 0) fv)) [] M c1) Q:=by
 obtain⟨v,tv,p1,p0,gr,h6,m0,m1,m2,m3,m4,m5,hA,hT0⟩:=hW
 obtain⟨p2,hT,hne⟩:∃p,bm M (b+6) c1 p 5 1 tv (bE text)∧(p1≠p∨(v= .l0∧w=[])):=by
  rcases yX hA hT0 with⟨rfl,rfl⟩|⟨rfl,rfl⟩|hn
  ·exact⟨p1+1,bm.nil,.inl (by omega)⟩
  ·exact⟨p0,hT0,.inr ⟨rfl,rfl⟩⟩
  ·exact⟨p0,hT0,.inl hn⟩
 have ok1:=gr.ok ok0
 have hfr:=ok1.free
 have l0:load1 F M b 0=some (sV s):=aq m0 0
 have l2:load1 F M (b+2) 0=some v:=aq m2 0
 have l3:load1 F M (b+3) 0=some tv:=aq m3 0
 have l4:load1 F M (b+4) 0=some (.b sm):=aq m4 0
 have l5:load1 F M (b+5) 0=some (.i .i64 (i:Int)):=aq m5 0
 have hix:uW (sV s) (.i .i64 (i:Int))=some (.i .u8 ((s[i]).toNat:Int)):=EG s .i64 i hi
 have lk:(look F M (c1+4)).isNone=true:=by rw[ok1.look (by omega)];rfl
 have fb:∀x,flatten (bV x)=[bV x]:=fun _=>rfl
 have ob:∀x,bD (bV x)=true:=fun _=>rfl
 have rf:bQ (c1+4) [(2,b+5),(1,b),(0,b+3)]=true:=by rw[bv _ _ _ _ (by omega),bv _ _ _ _ (by omega),bv _ _ _ _ (by omega),cI]
 simp only[WX,Nat.reducePow,Nat.reduceDiv,Nat.reduceMod,Nat.reduceBEq,Gf,l3,l0,l5,hix,lk,rf,vF,ng,rV]
 have grY:Gr (b+6) M (c1+8) (M.set (c1+4) (bK [V.i .u8 0] 5 [V.i .u8 ((s[i]).toNat:Int)])):=⟨by omega,fun x hx=>ag _ _ (by omega),fun x hx=>by rw[ag _ _ (by omega)];exact ok1.hiM x (by omega)⟩
 have hy:cB F (M.set (c1+4) (bK [V.i .u8 0] 5 [V.i .u8 ((s[i]).toNat:Int)])) (c1+8) 1 (.l (c1+4) 0 1 1) (bE [s[i]]):=Nl (d:=[V.i .u8 0]) (ty:=5) (by rw[am];rfl) (by omega) (fun e he=>by obtain⟨x,_,rfl⟩:=List.mem_map.1 he;rfl) rfl
 refine fe ((j5 (bytes:=1) (hT.up (show c1≤c1+8 by omega) (fun hx=>ag _ _ (by omega))) grY Nat.one_pos hy rfl (gk (by rw[lP,lP,List.length_singleton];omega) (by rw[lP,lP,List.length_singleton];omega))).mono ?_)
 rintro v' M2 c2 ⟨b3,hA2,gr2,hle2,hold,_⟩
 have ok2:cU F M2 c2:=(show Gr b M0 c2 M2 from⟨by omega,fun x hx=>(gr2.old x (by omega)).trans (gr.old x hx),gr2.new⟩).ok ok0
 have w3:bD v'=true∧flatten v'=[v']∧aE [v']=true:=by
  rcases hA2 with⟨_,⟨_,rfl⟩|⟨_,_,rfl,_⟩⟩<;>exact⟨rfl,rfl,rfl⟩
 obtain⟨w1,w2,w3⟩:=w3
 have st3:=aK ((gr2.old (b+3) (by omega)).trans m3) 0 [v'] (by simp) w3
 have st4:=aK ((ag M2 (af 96 [v']) (show b+4≠b+3 by omega)).trans ((gr2.old (b+4) (by omega)).trans m4)) 0 [V.b true] (by simp) rfl
 have f3:bH (M2.set (b+3) (af 96 [v'])) F=true:=((show Gr b M0 c2 (M2.set (b+3) (af 96 [v']))from⟨by omega,fun x hx=>by rw[ag _ _ (by omega)];exact(gr2.old x (by omega)).trans (gr.old x hx),fun x hx=>by rw[ag _ _ (by omega)];exact gr2.new x hx⟩).ok ok0).free
 have f4:bH ((M2.set (b+3) (af 96 [v'])).set (b+4) (af 4 [V.b true])) F=true:=((show Gr b M0 c2 ((M2.set (b+3) (af 96 [v'])).set (b+4) (af 4 [V.b true]))from⟨by omega,fun x hx=>by rw[ag _ _ (by omega),ag _ _ (by omega)];exact(gr2.old x (by omega)).trans (gr.old x hx),fun x hx=>by rw[ag _ _ (by omega),ag _ _ (by omega)];exact gr2.new x hx⟩).ok ok0).free
 refine⟨ok2.free,?_⟩
 have hA1:bm M2 (b+6) c2 p1 64 2 v (kW w):=by
  rcases hne with hne|⟨rfl,rfl⟩
  ·rcases hA with⟨h0,hh|⟨h1,h2,h3,h4⟩⟩
   ·exact⟨h0,.inl hh⟩
   ·exact⟨h0,.inr ⟨h1,by omega,h3,by rw[hold p1 (by omega) hne,ag _ _ (by omega)];exact h4⟩⟩
  ·exact bm.nil
 have fin:WS M0 b s ((M2.set (b+3) (af 96 [v'])).set (b+4) (af 4 [V.b true])) c2 w (text++[s[i]]) true i:=by
  refine⟨v,v',p1,b3,?_,by omega,?_,?_,?_,?_,am _ _ _,?_,cq (cq hA1 (by omega)) (by omega),cq (cq ?_ (by omega)) (by omega)⟩
  ·exact⟨by omega,fun x hx=>by rw[ag _ _ (by omega),ag _ _ (by omega)];exact(gr2.old x (by omega)).trans (gr.old x hx),fun x hx=>by rw[ag _ _ (by omega),ag _ _ (by omega)];exact gr2.new x hx⟩
  ·rw[ag _ _ (by omega),ag _ _ (by omega)];exact(gr2.old b (by omega)).trans m0
  ·rw[ag _ _ (by omega),ag _ _ (by omega)];exact(gr2.old (b+1) (by omega)).trans m1
  ·rw[ag _ _ (by omega),ag _ _ (by omega)];exact(gr2.old (b+2) (by omega)).trans m2
  ·rw[ag _ _ (by omega)];exact am _ _ _
  ·rw[ag _ _ (by omega),ag _ _ (by omega)];exact(gr2.old (b+5) (by omega)).trans m5
  ·have:bE (text++[s[i]])=bE text++bE [s[i]]:=by unfold bE;rw[List.map_append]
   rw[this];exact hA2
 simp only[WX,Nat.reducePow,Nat.reduceDiv,Nat.reduceMod,Nat.reduceBEq,kC,kC,w2,st3,st4,f3,f4]
 exact hQ (X1 (G2 (X1 (G4 (X1 (G1 (cF (cH (ce (X4 (X1 []))))))))))) _ _ fin
def Ff(t:List UInt8):Option Nat:=if(t.drop (qn t)).head?=some 39 then some (qn t)else none
theorem Fg(x:UInt8)(t:List UInt8):Ff (x::t)=if mw x=true then(Ff t).map (· +1)else if x=39 then some 0 else none:=by
 unfold Ff
 rw[Rl]
 cases hq:mw x with
 |true=>
  rw[ac rfl,ac rfl,List.drop_succ_cons];split<;>rfl
 |false=>
  rw[ab (show¬(false=true) by decide),ab (show¬(false=true) by decide),List.drop_zero];show(if some x=some 39 then some 0 else none)=_;by_cases h:x=39
  ·subst h;rfl
  ·rw[ab (fun e=>h (ae e)),ab h]
theorem aZ8:mw 39=false:=by decide
theorem nj:∀(t:List UInt8) (i:Nat),Ff t=match sE 39 t i with|none=>none|some k=>if(t.take (k-i)).all mw=true then some (k-i)else none
 |[],i=>rfl
 |x::t,i=>by
  rw[Fg,sE];by_cases hx:x=39
  ·subst hx;rw[ac rfl,aZ8];simp
  ·rw[ab hx,ab hx,nj t (i+1)];cases hf:sE 39 t (i+1)with
   |none=>simp
   |some k=>
    have hk:=(zY hf).1;have e1:k-i=(k-(i+1))+1:=by omega
    dsimp only;rw[e1,List.take_succ_cons,List.all_cons];cases mw x with
    |true=>
     rw[ac rfl,Bool.true_and];split<;>rfl
    |false=>
     rw[ab (by decide),Bool.false_and,ab (by decide)]
theorem Nt{t:List UInt8}:iW (39::t)=match Ff t with|none=>some none|some k=>some (some (k+1,t.take k,false)):=by
 have h0:cP (39::t)=[]:=by
  cases t with
  |nil=>rfl
  |cons b r=>rw[vu];simp
 rw[aj2 (by rw[h0];simp)]
 unfold Ff
 split<;>rfl
theorem Fy{t:List UInt8}(h:sE 39 t 0=none):iW (39::t)=some none:=by
 rw[Nt,nj t 0,h]
theorem Nu{t:List UInt8}{k:Nat}(h:sE 39 t 0=some k)(ha:(t.take k).all mw=false):iW (39::t)=some none:=by
 rw[Nt,nj t 0,h]
 dsimp only
 rw[Nat.sub_zero,ha]
 rfl
theorem RF{t:List UInt8}{k:Nat}(h:sE 39 t 0=some k)(ha:(t.take k).all mw=true):iW (39::t)=some (some (k+1,t.take k,false)):=by
 rw[Nt,nj t 0,h]
 dsimp only
 rw[Nat.sub_zero,ha]
 rfl
theorem B9{t:List UInt8}:iW (36::t)≠none:=by
 have h0:cP (36::t)=[]:=by
  cases t with
  |nil=>rfl
  |cons b r=>rw[vu];simp
 rw[B6 (by rw[h0];simp)]
 split<;>simp
theorem Qv{w:List Pc}{text:List UInt8}{sm:Bool}{s:List UInt8}{i:Nat}(h:iW (s.drop i)=none):LG w text sm (decide (s[i]?=some 36))=nn w text sm:=by
 have:decide (s[i]?=some 36)=false:=by
  apply ak;intro e;obtain⟨hi,he⟩:=List.getElem?_eq_some_iff.1 e;rw[cQ hi,he]at h;exact B9 h
 unfold LG nn
 rw[this]
 simp
theorem Qw{w:List Pc}{text:List UInt8}{sm:Bool}{s:List UInt8}{i:Nat}(h:s[i]?=some 36):LG w text sm (decide (s[i]?=some 36))++[([],true)]=ko w text:=by
 unfold LG ko
 rw[aj h]
 simp
def h77:List V→Option V
 |[v,.f 78 [] []]=>(sA v).bind fun l=>if l.length≤1000000 then some (.b (l.all mw))else none
 |[v,.f 75 [] []]=>(sA v).bind fun l=>if l.length≤1000000 then some (.b (l.all nb))else none
 |_=>none
theorem ae1(l:List UInt8)(hl:l.length≤1000000):h77 [sV l,.f 78 [] []]=some (.b (l.all mw)):=by
 show(sA (sV l)).bind (fun l=>if l.length≤1000000 then some (V.b (l.all mw))else none)=_
 rw[mH,Option.bind_some];exact ac hl
theorem aT8(l:List UInt8)(hl:l.length≤1000000):h77 [sV l,.f 75 [] []]=some (.b (l.all nb)):=by
 show(sA (sV l)).bind (fun l=>if l.length≤1000000 then some (V.b (l.all nb))else none)=_
 rw[mH,Option.bind_some];exact ac hl
abbrev Yo(u:List (Option V))(x1 x2 x4 x5 x6 x7 x8 x9:V):T:=(.n (.n (.n (.n (aJ u 63 31 95 15 79 47 111) (some x7) (aJ u 71 39 103 23 87 55 119)) (uO u 3) (.n (aJ u 67 35 99 19 83 51 115) (uO u 11) (aJ u 75 43 107 27 91 59 123))) (some x1) (.n (.n (aJ u 65 33 97 17 81 49 113) (some x9) (aJ u 73 41 105 25 89 57 121)) (some x5) (.n (aJ u 69 37 101 21 85 53 117) (uO u 13) (aJ u 77 45 109 29 93 61 125)))) (uO u 0) (.n (.n (.n (aJ u 64 32 96 16 80 48 112) (some x8) (aJ u 72 40 104 24 88 56 120)) (some x4) (.n (aJ u 68 36 100 20 84 52 116) (uO u 12) (aJ u 76 44 108 28 92 60 124))) (some x2) (.n (.n (aJ u 66 34 98 18 82 50 114) (uO u 10) (aJ u 74 42 106 26 90 58 122)) (some x6) (.n (aJ u 70 38 102 22 86 54 118) (uO u 14) (aJ u 78 46 110 30 94 62 126)))))
abbrev tY(u:List (Option V))(x2 x3:V):T:=(.n (.n (.n (.n (aJ u 63 31 95 15 79 47 111) (uO u 7) (aJ u 71 39 103 23 87 55 119)) (some x3) (.n (aJ u 67 35 99 19 83 51 115) (uO u 11) (aJ u 75 43 107 27 91 59 123))) (uO u 1) (.n (.n (aJ u 65 33 97 17 81 49 113) (uO u 9) (aJ u 73 41 105 25 89 57 121)) (uO u 5) (.n (aJ u 69 37 101 21 85 53 117) (uO u 13) (aJ u 77 45 109 29 93 61 125)))) (uO u 0) (.n (.n (.n (aJ u 64 32 96 16 80 48 112) (uO u 8) (aJ u 72 40 104 24 88 56 120)) (uO u 4) (.n (aJ u 68 36 100 20 84 52 116) (uO u 12) (aJ u 76 44 108 28 92 60 124))) (some x2) (.n (.n (aJ u 66 34 98 18 82 50 114) (uO u 10) (aJ u 74 42 106 26 90 58 122)) (uO u 6) (.n (aJ u 70 38 102 22 86 54 118) (uO u 14) (aJ u 78 46 110 30 94 62 126)))))
theorem Lk{F:RO}(zero:List V)(ps:List (Nat×Nat×X))(M:Mem)(t:T):jL (.bld zero ps) F M t=oV ((p6 zero (XS t ps)).map .g):=by
 refine(eX ?_).trans (congrArg oV (Yz (F:=F) zero ps M t))
 intro F' M'
 refine iT ?_
 show(qg (fillParts t zero ps)= .f∨ ∃y,qg (fillParts t zero ps)= .v y)
 cases fillParts t zero ps with
 |none=>exact .inl rfl
 |some x=>exact .inr ⟨_,rfl⟩
theorem d62(Φ:Nat→Option CF){F:RO}{M0 M:Mem}{b c1 i k:Nat}{s text:List UInt8}{w:List Pc}{sm:Bool}(ok0:cU F M0 b)(hi:i+1+k≤s.length)(hs:s.length≤400000)(hw:w.length≤1000000)(ht:text.length≤1000000)(hW:WS M0 b s M c1 w text sm i)(fv:V)(u:List (Option V))(Q:Ex→St→Prop)(hQ:∀(u:List (Option V)) M' c',WS M0 b s M' c' w (text++(s.drop (i+1)).take k) true i→Q .nrm (.mk ((Yo u (.p b 0) (.p (b+1) 0) (.p (b+2) 0) (.p (b+3) 0) (.p (b+4) 0) (.p (b+5) 0) (.i .i64 (k:Int)) fv)) [] M' c')):
 Wp zx (K Φ none 56 F) (.mk ((Yo u (.p b 0) (.p (b+1) 0) (.p (b+2) 0) (.p (b+3) 0) (.p (b+4) 0) (.p (b+5) 0) (.i .i64 (k:Int)) fv)) [] M c1) Q:=by
 obtain⟨v,tv,p1,p0,gr,h6,m0,m1,m2,m3,m4,m5,hA,hT0⟩:=hW
 obtain⟨p2,hT,hne⟩:∃p,bm M (b+6) c1 p 5 1 tv (bE text)∧(p1≠p∨(v= .l0∧w=[])):=by
  rcases yX hA hT0 with⟨rfl,rfl⟩|⟨rfl,rfl⟩|hn
  ·exact⟨p1+1,bm.nil,.inl (by omega)⟩
  ·exact⟨p0,hT0,.inr ⟨rfl,rfl⟩⟩
  ·exact⟨p0,hT0,.inl hn⟩
 have ok1:=gr.ok ok0
 have hfr:=ok1.free
 have l0:load1 F M b 0=some (sV s):=aq m0 0
 have l3:load1 F M (b+3) 0=some tv:=aq m3 0
 have l5:load1 F M (b+5) 0=some (.i .i64 (i:Int)):=aq m5 0
 have q1:cZ .add (.i .i64 (i:Int)) (.i .i64 1)=some (.i .i64 ((i+1:Nat):Int)):=by rw[bF _ _ (by omega) (by omega)];simp
 obtain⟨j,hj⟩:∃j,j=i+1+k:=⟨_,rfl⟩
 have q2:cZ .add (.i .i64 ((i+1:Nat):Int)) (.i .i64 (k:Int))=some (.i .i64 (j:Int)):=by rw[bF _ _ (by omega) (by omega),hj];simp
 have hsl:=Yi s .i64 .i64 (i+1) j (by omega) (by omega)
 have hX:(s.take j).drop (i+1)=(s.drop (i+1)).take k:=by rw[List.drop_take];congr 1;omega
 rw[hX]at hsl
 have hXl:((s.drop (i+1)).take k).length≤400000:=by rw[List.length_take];omega
 generalize(s.drop (i+1)).take k=X at hsl hXl hQ
 simp only[WX,Nat.reducePow,Nat.reduceDiv,Nat.reduceMod,Nat.reduceBEq,kC,Gf,l3,l0,l5,q1,q2,ac8,hsl,kC]
 refine fe ((GB (l:=X) (bytes:=1) (hT.up (show c1≤c1+12 by omega) (fun _=>rfl)) (show Gr (b+6) M (c1+12) M from⟨by omega,fun _ _=>rfl,fun x hx=>ok1.hiM x (by omega)⟩) (gk (by rw[lP];omega) (by rw[lP];omega))).mono ?_)
 rintro v' M2 c2 ⟨b3,hA2,gr2,hle2,hold,_⟩
 have ok2:cU F M2 c2:=(show Gr b M0 c2 M2 from⟨by omega,fun x hx=>(gr2.old x (by omega)).trans (gr.old x hx),gr2.new⟩).ok ok0
 have w3:bD v'=true∧flatten v'=[v']∧aE [v']=true:=by
  rcases hA2 with⟨_,⟨_,rfl⟩|⟨_,_,rfl,_⟩⟩<;>exact⟨rfl,rfl,rfl⟩
 obtain⟨w1,w2,w3⟩:=w3
 have st3:=aK ((gr2.old (b+3) (by omega)).trans m3) 0 [v'] (by simp) w3
 have st4:=aK ((ag M2 (af 96 [v']) (show b+4≠b+3 by omega)).trans ((gr2.old (b+4) (by omega)).trans m4)) 0 [V.b true] (by simp) rfl
 have f3:bH (M2.set (b+3) (af 96 [v'])) F=true:=((show Gr b M0 c2 (M2.set (b+3) (af 96 [v']))from⟨by omega,fun x hx=>by rw[ag _ _ (by omega)];exact(gr2.old x (by omega)).trans (gr.old x hx),fun x hx=>by rw[ag _ _ (by omega)];exact gr2.new x hx⟩).ok ok0).free
 have f4:bH ((M2.set (b+3) (af 96 [v'])).set (b+4) (af 4 [V.b true])) F=true:=((show Gr b M0 c2 ((M2.set (b+3) (af 96 [v'])).set (b+4) (af 4 [V.b true]))from⟨by omega,fun x hx=>by rw[ag _ _ (by omega),ag _ _ (by omega)];exact(gr2.old x (by omega)).trans (gr.old x hx),fun x hx=>by rw[ag _ _ (by omega),ag _ _ (by omega)];exact gr2.new x hx⟩).ok ok0).free
 refine⟨ok2.free,?_⟩
 have hA1:bm M2 (b+6) c2 p1 64 2 v (kW w):=by
  rcases hne with hne|⟨rfl,rfl⟩
  ·rcases hA with⟨h0,hh|⟨h1,h2,h3,h4⟩⟩
   ·exact⟨h0,.inl hh⟩
   ·exact⟨h0,.inr ⟨h1,by omega,h3,by rw[hold p1 (by omega) hne];exact h4⟩⟩
  ·exact bm.nil
 have fin:WS M0 b s ((M2.set (b+3) (af 96 [v'])).set (b+4) (af 4 [V.b true])) c2 w (text++X) true i:=by
  refine⟨v,v',p1,b3,?_,by omega,?_,?_,?_,?_,am _ _ _,?_,cq (cq hA1 (by omega)) (by omega),cq (cq ?_ (by omega)) (by omega)⟩
  ·exact⟨by omega,fun x hx=>by rw[ag _ _ (by omega),ag _ _ (by omega)];exact(gr2.old x (by omega)).trans (gr.old x hx),fun x hx=>by rw[ag _ _ (by omega),ag _ _ (by omega)];exact gr2.new x hx⟩
  ·rw[ag _ _ (by omega),ag _ _ (by omega)];exact(gr2.old b (by omega)).trans m0
  ·rw[ag _ _ (by omega),ag _ _ (by omega)];exact(gr2.old (b+1) (by omega)).trans m1
  ·rw[ag _ _ (by omega),ag _ _ (by omega)];exact(gr2.old (b+2) (by omega)).trans m2
  ·rw[ag _ _ (by omega)];exact am _ _ _
  ·rw[ag _ _ (by omega),ag _ _ (by omega)];exact(gr2.old (b+5) (by omega)).trans m5
  ·have:bE (text++X)=bE text++bE X:=by unfold bE;rw[List.map_append]
   rw[this];exact hA2
 simp only[WX,Nat.reducePow,Nat.reduceDiv,Nat.reduceMod,Nat.reduceBEq,kC,kC,w2,st3,st4,f3,f4]
 exact hQ (X1 (G2 (X1 (G4 (G2 (cF (cH (ce (X4 (X1 [])))))))))) _ _ fin
theorem b86{Φ:Nat→Option CF}{rd:Option Nat}{fn:Nat}{F:RO}(base i mask j b0:Nat)(blk:bw)(dst:Option ay)(o:EO)(r:List (Nat×Nat×CO))(t:T)(M:Mem)(c:Nat)(reads:List (Nat×Nat))(R:DS→Prop){v:V}{M':Mem}{c':Nat}(hj:(mask/2^j%2==1)=false)(hb:ww mask reads=true)(hM:M.get b0=some blk)(h:ew o (K Φ rd fn ((b0,blk)::F)) (M.del b0) c t= .k v M' c')(hf:bH M' ((b0,blk)::F)=true):
 jM base ((i,mask,.mk dst (.e o) none)::r) (K Φ rd fn F) (.mk t M c [] ((j,b0)::reads)) R=jM base r (K Φ rd fn F) (.mk (setT t dst v) (M'.set b0 blk) c' [] ((j,b0)::reads)) R:=by
 have hj':testBit mask j=false:=by
  show Nat.beq (Nat.mod (Nat.div mask (Nat.pow 2 j)) 2) 1=false;rw[bI];exact ak (show¬mask/2^j%2=1 by simpa using hj)
 have hp:bC mask ((j,b0)::reads) F M []=Pr.mk ((b0,blk)::F) (M.del b0) [(b0,blk)]:=by
  rw[bC,hj'];show(match M.get b0 with|none=>bC mask reads F M []|some blk=>(M.del b0).force fun M=>bC mask reads ((b0,blk)::F) M [(b0,blk)])=_;rw[hM];show(M.del b0).force (fun M=>bC mask reads ((b0,blk)::F) M [(b0,blk)])=_;rw[Tr.force_eq];exact gc hb _ _ _
 have he:px (K Φ rd fn F) base (i,mask,.mk dst (.e o) none) (.mk t M c [] ((j,b0)::reads))=some (.mk (setT t dst v) (M'.set b0 blk) c' [] ((j,b0)::reads)):=by
  show nU o (K Φ rd fn F) dst t c [] ((j,b0)::reads) (bC mask ((j,b0)::reads) F M [])=_;rw[hp];show lu ((b0,blk)::F) dst t [] ((j,b0)::reads) [(b0,blk)] (ew o (K Φ rd fn ((b0,blk)::F)) (M.del b0) c t)=_;rw[h];show(bif bH M' ((b0,blk)::F)&&bX ((b0,blk)::F) M' []then(aU [(b0,blk)] M').force fun M=>(setT t dst v).force fun t=>some (DS.mk t M c' [] ((j,b0)::reads))else none)=_;rw[hf];show((aU [(b0,blk)] M').force fun M=>(setT t dst v).force fun t=>some (DS.mk t M c' [] ((j,b0)::reads)))=_;rw[Tr.force_eq,Tr.force_eq];show some (DS.mk _ ((M'.set b0 blk).force fun M=>aU [] M) c' [] _)=_;rw[Tr.force_eq];rfl
 apply propext
 rw[ea,he]
 constructor
 ·rintro⟨s',h,q⟩;obtain rfl:=ae h;exact q
 ·exact fun q=>⟨_,rfl,q⟩
theorem aS5(Φ:Nat→Option CF){F:RO}{M0 M:Mem}{b c1 i:Nat}{s text:List UInt8}{w:List Pc}{sm:Bool}(ok0:cU F M0 b)(hW:WS M0 b s M c1 w text sm i)(fv:V)(u:List (Option V))(Q:Ex→St→Prop)(hQ:∀(u:List (Option V)) M' c' v p,Gr b M0 c' M'→b+6≤c'→M'.get (b+1)=some (af 36 [v])→bm M' (b+6) c' p 64 2 v (kW w)→Q .nrm (.mk ((tY u (.p (b+1) 0) (.i .i64 (i:Int)))) [] M' c')):
 Wp uB (K Φ none 56 F) (.mk ((iX u (.p b 0) (.p (b+1) 0) (.p (b+2) 0) (.p (b+3) 0) (.p (b+4) 0) (.p (b+5) 0) fv)) [] M c1) Q:=by
 obtain⟨v,tv,p1,p0,gr,h6,m0,m1,m2,m3,m4,m5,hA,hT0⟩:=hW
 have ok1:=gr.ok ok0
 have hfr:=ok1.free
 obtain⟨w1,w2,w3⟩:=j4 hA
 have hG1:flatten (V.g [v])=[v]:=rfl
 have l2:load1 F M (b+2) 0=some v:=aq m2 0
 have l5:load1 F M (b+5) 0=some (.i .i64 (i:Int)):=aq m5 0
 have md1:(M.del (b+5)).get (b+1)=some (af 36 [.l0]):=by rw[Tr.get_del,ab (by omega)];exact m1
 have st1:=aK md1 0 [v] (by simp) w3
 have grd:Gr b M0 c1 ((M.del (b+5)).set (b+1) (af 36 [v])):=(gr.del (b+5) (by omega)).set (b+1) _ (by omega) (by omega) (ah _)
 have f1:=(grd.ok ok0).free
 have f2:bH ((M.del (b+5)).set (b+1) (af 36 [v])) ((b+5,af 3 [.i .i64 (i:Int)])::F)=true:=by
  rw[dB,f1,ag _ _ (by omega),Tr.get_del,ac rfl];rfl
 have grE:Gr b M0 c1 (((M.del (b+5)).set (b+1) (af 36 [v])).set (b+5) (af 3 [.i .i64 (i:Int)])):=grd.set (b+5) _ (by omega) (by omega) (ah _)
 simp only[WX,Nat.reduceLeDiff,Gf,l2,l5,Lk,w2]
 rw[b86 (v:=undef) (M':=(M.del (b+5)).set (b+1) (af 36 [v])) (c':=c1+5) _ _ _ _ _ (af 3 [.i .i64 (i:Int)]) _ _ _ _ _ _ _ _ rfl rfl m5 ?_ f2]
 ·simp only[WX];refine hQ (X2 (G2 (cF (cH (ce (X8 (X2 (X1 [])))))))) _ _ v p1 (grE.up (by omega)) (by omega) ?_ ?_
  ·rw[ag _ _ (by omega)];exact am _ _ _
  ·rcases hA with⟨h0,hh|⟨h1,h2,h3,h4⟩⟩
   ·exact⟨h0,.inl hh⟩
   ·exact⟨h0,.inr ⟨h1,by omega,h3,by rw[ag _ _ (by omega),ag _ _ (by omega),Tr.get_del,ab (by omega)];exact h4⟩⟩
 ·rw[uJ];simp only[WX,hG1,st1]
abbrev P0(b:Nat):V:= .f 74 [] [.p (b+3) 0,.p (b+4) 0,.p (b+2) 0,.p (b+5) 0,.p b 0]
theorem Zk{M0 M:Mem}{b c1 i j:Nat}{s text:List UInt8}{w:List Pc}{sm:Bool}(hW:WS M0 b s M c1 w text sm i):WS M0 b s (M.set (b+5) (af 3 [.i .i64 (j:Int)])) c1 w text sm j:=by
 obtain⟨v,tv,p1,p0,gr,h6,m0,m1,m2,m3,m4,m5,hA,hT0⟩:=hW
 exact⟨v,tv,p1,p0,gr.set (b+5) _ (by omega) (by omega) (ah _),h6,by rw[ag _ _ (by omega)];exact m0,by rw[ag _ _ (by omega)];exact m1,by rw[ag _ _ (by omega)];exact m2,by rw[ag _ _ (by omega)];exact m3,by rw[ag _ _ (by omega)];exact m4,am _ _ _,cq hA (by omega),cq hT0 (by omega)⟩
theorem aV9(Φ:Nat→Option CF)(h74:Φ 74=some PV){F:RO}{M0 M:Mem}{b c1 i:Nat}{s text:List UInt8}{w:List Pc}{sm:Bool}(ok0:cU F M0 b)(hi:i≤s.length)(hs:s.length≤400000)(hw:w.length≤1000000)(ht:text.length≤1000000)(hst:iW (s.drop i)=none)(hW:WS M0 b s M c1 w text sm i)(u:List (Option V))(Q:Ex→St→Prop)
 (hQ:∀(u:List (Option V)) M' c' v p,Gr b M0 c' M'→b+6≤c'→M'.get (b+1)=some (af 36 [v])→bm M' (b+6) c' p 64 2 v (kW (nn w text sm))→Q .ret (.mk ((tY u (.p (b+1) 0) (.i .i64 (i:Int)))) [] M' c')):
 Wp (.seq .skip (.seq zz (.seq uB .ret))) (K Φ none 56 F) (.mk ((iX u (.p b 0) (.p (b+1) 0) (.p (b+2) 0) (.p (b+3) 0) (.p (b+4) 0) (.p (b+5) 0) (P0 b))) [] M c1) Q:=by
 simp only[WX,Oi]
 refine av ((r74 Φ h74 ok0 hi hs hw ht hW).mono ?_)
 rintro r M' c' ⟨hW',hle⟩
 rw[Qv hst]at hW'
 simp only[WX]
 refine aS5 Φ ok0 hW' _ (X1 (G2 (X1 (G4 (X1 (G1 (cF (cH (ce (X4 (X1 []))))))))))) _ ?_
 intro u M2 c2 v p g h6 hm hA
 simp only[WX]
 exact hQ (X2 (G2 (cF (cH (ce (X8 (X2 (X1 [])))))))) _ _ v p g h6 hm hA
theorem aW1(Φ:Nat→Option CF)(h76:Φ 76=some (.orc (bh h88)))(h77:Φ 77=some (.orc (bh h77))){F:RO}{M0 M:Mem}{b c1 i:Nat}{s text:List UInt8}{w:List Pc}{sm:Bool}(ok0:cU F M0 b)(hi:i<s.length)(hs:s.length≤400000)(hw:w.length≤1000000)(ht:text.length≤1000000)(h39:s[i]=39)(hW:WS M0 b s M c1 w text sm i)(u:List (Option V))(Q:Ex→St→Prop)
 (hQ1:∀(u:List (Option V)) M' c' k,iW (s.drop i)=some (some (k+1,(s.drop (i+1)).take k,false))→i+(k+2)≤s.length→WS M0 b s M' c' w (text++(s.drop (i+1)).take k) true (i+(k+2))→Q (.gto 1) (.mk ((iX u (.p b 0) (.p (b+1) 0) (.p (b+2) 0) (.p (b+3) 0) (.p (b+4) 0) (.p (b+5) 0) (P0 b))) [] M' c'))
 (hQ2:iW (s.drop i)=some none→ ∀(u:List (Option V)) M' c',Gr b M0 c' M'→b+6≤c'→M'.get (b+1)=some (af 36 [.l0])→Q .ret (.mk ((tY u (.p (b+1) 0) (.i .i64 0))) [] M' c')):
 Wp (.seq .skip (.seq zw zy)) (K Φ none 56 F) (.mk ((iX u (.p b 0) (.p (b+1) 0) (.p (b+2) 0) (.p (b+3) 0) (.p (b+4) 0) (.p (b+5) 0) (P0 b))) [] M c1) Q:=by
 have hW':=hW
 obtain⟨v,tv,p1,p0,gr,h6,m0,m1,m2,m3,m4,m5,hA,hT0⟩:=hW
 have l0:load1 F M b 0=some (sV s):=aq m0 0
 have l5:load1 F M (b+5) 0=some (.i .i64 (i:Int)):=aq m5 0
 have q1:cZ .add (.i .i64 (i:Int)) (.i .i64 1)=some (.i .i64 ((i+1:Nat):Int)):=by rw[bF _ _ (by omega) (by omega)];simp
 have hsl:=Np s .i64 (i+1) hi
 have hdr:s.drop i=39::s.drop (i+1):=by rw[←h39];exact cQ hi
 have hf:h88 [sV (s.drop (i+1)),.i .u8 39]=some (.i .i64 (sF (sE 39 (s.drop (i+1)) 0))):=A7 (s.drop (i+1)) 39
 have st1:=aK m1 0 [V.l0] (by simp) rfl
 have hG0:flatten (V.g [V.l0])=[V.l0]:=rfl
 have BAD:=fun h=>hQ2 h
 cases hk:sE 39 (s.drop (i+1)) 0 with
 |none=>
  rw[hk]at hf;have hst:iW (s.drop i)=some none:=by rw[hdr];exact Fy hk
  have d1:decide ((-1:Int)<0)=true:=rfl;have hz:sF none= -1:=rfl;simp only[WX,Int.reduceLT,Gf,l0,l5,q1,hsl,h76,hf,hz,hG0,st1];exact hQ2 hst (X2 (G2 (cF (cH (ce (X8 (X2 (X1 [])))))))) _ _ (gr.set (b+1) _ (by omega) (by omega) (ah _)) h6 (am _ _ _)
 |some k=>
  rw[hk]at hf;have hkl:=(zY hk).2;rw[bu]at hkl;have d1:decide ((k:Int)<0)=false:=ak (by omega);have hz:sF (some k)=(k:Int):=rfl;obtain⟨j,hj⟩:∃j,j=i+1+k:=⟨_,rfl⟩
  have q2:cZ .add (.i .i64 ((i+1:Nat):Int)) (.i .i64 (k:Int))=some (.i .i64 (j:Int)):=by rw[bF _ _ (by omega) (by omega),hj];simp
  have hsl2:=Yi s .i64 .i64 (i+1) j (by omega) (by omega);have hX:(s.take j).drop (i+1)=(s.drop (i+1)).take k:=by rw[List.drop_take];congr 1;omega
  rw[hX]at hsl2;have hall:=ae1 ((s.drop (i+1)).take k) (by rw[List.length_take,bu];omega);cases ha:((s.drop (i+1)).take k).all mw with
  |false=>
   rw[ha]at hall;have hst:iW (s.drop i)=some none:=by rw[hdr];exact Nu hk ha
   simp only[WX,Gf,l0,l5,q1,q2,hsl,hsl2,h76,hf,hz,d1,h77,hall,hG0,st1];exact hQ2 hst (X2 (G2 (cF (cH (ce (X8 (X2 (X1 [])))))))) _ _ (gr.set (b+1) _ (by omega) (by omega) (ah _)) h6 (am _ _ _)
  |true=>
   rw[ha]at hall;have hst:iW (s.drop i)=some (some (k+1,(s.drop (i+1)).take k,false)):=by rw[hdr];exact RF hk ha
   simp only[WX,Oe,Of,Og,Oh,l0,l5,q1,q2,hsl,hsl2,h76,hf,hz,d1,h77,hall];refine d62 Φ ok0 (show i+1+k≤s.length by omega) hs hw ht hW' _ (X1 (G2 (X1 (G4 (G2 (cF (cH (ce (X4 (X1 [])))))))))) _ ?_;intro u M' c' hW2;have hW3:=Zk (j:=i+(k+2)) hW2;obtain⟨v,tv,p1,p0,gr,h6,m0,m1,m2,m3,m4,m5,hA,hT0⟩:=hW2;have l5:load1 F M' (b+5) 0=some (.i .i64 (i:Int)):=aq m5 0;obtain⟨k2,hk2⟩:∃k2,k2=k+2:=⟨_,rfl⟩
   obtain⟨j2,hj2⟩:∃j2,j2=i+(k+2):=⟨_,rfl⟩
   have q3:cZ .add (.i .i64 (k:Int)) (.i .i64 2)=some (.i .i64 (k2:Int)):=by rw[bF _ _ (by omega) (by omega),hk2];simp
   have q4:cZ .add (.i .i64 (i:Int)) (.i .i64 (k2:Int))=some (.i .i64 (j2:Int)):=by rw[bF _ _ (by omega) (by omega),hj2,hk2];simp
   have st5:=aK m5 0 [V.i .i64 (j2:Int)] (by simp) rfl;rw[←hj2]at hW3;simp only[WX,Gf,l5,q3,q4,st5,iu,fP];exact hQ1 (X1 (G2 (X1 (G4 (X1 (G1 (cF (cH (ce (X4 (X1 []))))))))))) _ _ k hst (by omega) (by rw[←hj2];exact hW3)
theorem aW0(Φ:Nat→Option CF)(h55:Φ 55=some (.orc (bh h55)))(h73:Φ 73=some (.orc (bh h73)))(h75:Φ 75=some (.orc (bh h75)))(h74:Φ 74=some PV){F:RO}{M0 M:Mem}{b c1 i:Nat}{s text:List UInt8}{w:List Pc}{sm:Bool}(ok0:cU F M0 b)(hi:i≤s.length)(hs:s.length≤400000)(hw:w.length≤900000)(ht:text.length≤900000)(hW:WS M0 b s M c1 w text sm i)(u:List (Option V))(Q:Ex→St→Prop)
 (hQ0:iW (s.drop i)=none→ ∀(u:List (Option V)),Q (.gto 0) (.mk ((iX u (.p b 0) (.p (b+1) 0) (.p (b+2) 0) (.p (b+3) 0) (.p (b+4) 0) (.p (b+5) 0) (P0 b))) [] M c1))
 (hQ2:∀h:i<s.length,s[i]=39→ ∀(u:List (Option V)),Q (.gto 2) (.mk ((iX u (.p b 0) (.p (b+1) 0) (.p (b+2) 0) (.p (b+3) 0) (.p (b+4) 0) (.p (b+5) 0) (P0 b))) [] M c1))
 (hQ1:∀(u:List (Option V)) M' c' j w' text' sm',i<j→j≤s.length→w'.length≤w.length+2→text'.length≤text.length+1→jN (s.drop i) w text sm i=jN (s.drop j) w' text' sm' j→WS M0 b s M' c' w' text' sm' j→Q (.gto 1) (.mk ((iX u (.p b 0) (.p (b+1) 0) (.p (b+2) 0) (.p (b+3) 0) (.p (b+4) 0) (.p (b+5) 0) (P0 b))) [] M' c'))
 (hQ3:iW (s.drop i)=some none→ ∀(u:List (Option V)) M' c',Gr b M0 c' M'→b+6≤c'→M'.get (b+1)=some (af 36 [.l0])→Q .ret (.mk ((tY u (.p (b+1) 0) (.i .i64 0))) [] M' c')):
 Wp (.seq .skip (.seq uz uA)) (K Φ none 56 F) (.mk ((iX u (.p b 0) (.p (b+1) 0) (.p (b+2) 0) (.p (b+3) 0) (.p (b+4) 0) (.p (b+5) 0) (P0 b))) [] M c1) Q:=by
 have hW':=hW
 obtain⟨v,tv,p1,p0,gr,h6,m0,m1,m2,m3,m4,m5,hA,hT0⟩:=hW
 have l0:load1 F M b 0=some (sV s):=aq m0 0
 have l5:load1 F M (b+5) 0=some (.i .i64 (i:Int)):=aq m5 0
 have st1:=aK m1 0 [V.l0] (by simp) rfl
 have hG0:flatten (V.g [V.l0])=[V.l0]:=rfl
 by_cases hlt:i<s.length
 ·have d0:decide ((i:Int)=(s.length:Int))=false:=ak (by omega);have hix:uW (sV s) (.i .i64 (i:Int))=some (.i .u8 ((s[i]).toNat:Int)):=EG s .i64 i hlt;have hdr:s.drop i=s[i]::s.drop (i+1):=cQ hlt;have hsl:xW (sV s) (some (.i .i64 (i:Int))) none=some (sV (s[i]::s.drop (i+1))):=by rw[←hdr];exact Np s .i64 i hi
  have hgt:s[i]?=some s[i]:=List.getElem?_eq_getElem hlt;have hsg:=LI (s[i]::s.drop (i+1));rw[Nf]at hsg;have hxn:∀k:UInt8,decide (((s[i]).toNat:Int)=(k.toNat:Int))=decide (s[i]=k):=fun k=>by congr 1;exact propext ⟨fun e=>UInt8.toNat_inj.1 (by omega),fun e=>by rw[e]⟩
  have x32:=hxn 32;have x38:=hxn 38;have x39:=hxn 39;simp only[UInt8.reduceToNat,Int.cast_ofNat_Int]at x32 x38 x39;have qsg:=qD (cP (s[i]::s.drop (i+1))) [];have e0:V.s 0 0=sV []:=rfl;rw[←e0]at qsg;clear hxn;rw[hdr]at hQ0 hQ1 hQ3;have hpf:Ev.h73 [sV (s[i]::s.drop (i+1)),.s 2 16164]=some (V.b (yE [36,63] (s[i]::s.drop (i+1)))):=LJ _ [36,63];have hh75:Ev.h75 [.i .u8 ((s[i]).toNat:Int)]=some (V.b (nb s[i])):=LL s[i];by_cases hst:s[i]=32∨cP (s[i]::s.drop (i+1))≠[]∨s[i]=38
  ·have hno:=aj4 hst;by_cases h1:s[i]=32
   ·rw[aj h1]at x32;simp only[WX,ml,mm,l0,l5,d0,hix,x32,iu,fP];exact hQ0 hno (X1 (G2 (X1 (G4 (X1 (G1 (cF (cH (ce (X4 (X1 [])))))))))))
   ·rw[ak h1]at x32;by_cases h2:s[i]=38
    ·rw[aj h2]at x38;simp only[WX,ml,mm,l0,l5,d0,hix,x32,x38,iu,fP];exact hQ0 hno (X1 (G2 (X1 (G4 (X1 (G1 (cF (cH (ce (X4 (X1 [])))))))))))
    ·rw[ak h2]at x38;have h3:cP (s[i]::s.drop (i+1))≠[]:=by
      rcases hst with h|h|h
      ·exact absurd h h1
      ·exact h
      ·exact absurd h h2
     rw[ak h3]at qsg;simp only[WX,ml,mm,l0,l5,d0,hix,x32,x38,hsl,h55,hsg,qsg,iu,fP];exact hQ0 hno (X1 (G2 (X1 (G4 (X1 (G1 (cF (cH (ce (X4 (X1 [])))))))))))
  ·obtain⟨n32,n2,n38⟩:s[i]≠32∧cP (s[i]::s.drop (i+1))=[]∧s[i]≠38:=⟨fun e=>hst (.inl e),Classical.byContradiction fun e=>hst (.inr (.inl e)),fun e=>hst (.inr (.inr e))⟩
   rw[ak n32]at x32;rw[ak n38]at x38;rw[aj n2]at qsg;by_cases h39:s[i]=39
   ·rw[aj h39]at x39;simp only[WX,Gf,l0,l5,d0,hix,x32,x38,hsl,h55,hsg,qsg,x39,iu,fP,zE];exact hQ2 hlt h39 (X1 (G2 (X1 (G4 (X1 (G1 (cF (cH (ce (X4 (X1 [])))))))))))
   ·rw[ak h39]at x39;by_cases hpx:yE [36,63] (s[i]::s.drop (i+1))=true
    ·rw[hpx]at hpf;obtain⟨h36,t2,ht2⟩:s[i]=36∧ ∃t2,s.drop (i+1)=63::t2:=by
      cases hd:s.drop (i+1)with
      |nil=>rw[hd,Y9]at hpx;cases hpx
      |cons y t2=>
       rw[hd,ag6,aX]at hpx;exact⟨bL hpx.1,t2,by rw[bL hpx.2]⟩
     have hl2:i+2≤s.length:=by
      have:=congrArg List.length ht2;rw[bu,aw]at this;omega
     have hstat:iW (s[i]::s.drop (i+1))=some (some (1,[],true)):=by
      rw[h36]at hst⊢;rw[B6 hst,ht2];rfl
     have hnext:jN (s[i]::s.drop (i+1)) w text sm i=jN (s.drop (i+2)) (ko w text) [] false (i+2):=by
      rw[MQ hstat,List.drop_succ_cons,List.drop_drop]
     simp only[WX,ml,mm,Bm,Bn,Oa,Bo,Bp,Bq,l0,l5,d0,hix,x32,x38,hsl,h55,hsg,qsg,x39,h73,hpf];refine av ((r74 Φ h74 ok0 hi hs (by omega) (by omega) hW').mono ?_);rintro r M2 c2 ⟨hW2,hle⟩;obtain⟨v2,tv2,q1,q2,gr2,h62,n0,n1,n2',n3,n4,n5,hA2,hT2⟩:=hW2;obtain⟨q1,hA2,hne⟩:∃q,bm M2 (b+6) c2 q 64 2 v2 (kW (LG w text sm (decide (s[i]?=some 36))))∧(q≠q2∨tv2= .l0):=by
      rcases yX (text:=[]) hA2 hT2 with⟨rfl,_⟩|⟨rfl,e2⟩|hn
      ·exact⟨q1,hA2,.inr rfl⟩
      ·rw[e2];exact⟨q2+1,bm.nil,.inl (by omega)⟩
      ·exact⟨q1,hA2,.inl hn⟩
     have ok2:=gr2.ok ok0;have l2:load1 F M2 (b+2) 0=some v2:=aq n2' 0;have hFb:flatten (V.b true)=[V.b true]:=rfl;have hR1:eA [V.s 0 0,V.b false] 1 [V.b true]=some [V.s 0 0,V.b true]:=rfl;have hG2:flatten (V.g [V.s 0 0,V.b true])=[V.s 0 0,V.b true]:=rfl;have hfl:(LG w text sm (decide (s[i]?=some 36))).length≤w.length+1:=by unfold LG;split<;>simp
     simp only[WX,Nat.reduceAdd,Ob,l2,hFb,hR1,hG2];refine av ((pS ([],true) hA2 ok2 h62 (by omega)).mono ?_);rintro v3 M3 c3 ⟨q3,hA3,gr3,hle3,hold⟩;obtain⟨w1,w2,w3⟩:=j4 hA3;have k2:=(gr3.old (b+2) (by omega)).trans n2';have k5:=(gr3.old (b+5) (by omega)).trans n5;have st2:=aK k2 0 [v3] (by simp) w3;have k5':(M3.set (b+2) (af 34 [v3])).get (b+5)=some (af 3 [.i .i64 (i:Int)]):=(ag _ _ (by omega)).trans k5;have l5':load1 F (M3.set (b+2) (af 34 [v3])) (b+5) 0=some (.i .i64 (i:Int)):=aq k5' 0;have q2':cZ .add (.i .i64 (i:Int)) (.i .i64 2)=some (.i .i64 ((i+2:Nat):Int)):=by rw[bF _ _ (by omega) (by omega)];simp
     have st5:=aK k5' 0 [V.i .i64 ((i+2:Nat):Int)] (by simp) rfl;have grF:Gr b M0 c3 M3:=⟨by omega,fun x hx=>(gr3.old x (by omega)).trans (gr2.old x hx),gr3.new⟩
     have hT3:bm M3 (b+6) c3 q2 5 1 tv2 (bE []):=by
      rcases hT2 with⟨h0,hh|⟨h1,h2,h3,h4⟩⟩
      ·exact⟨h0,.inl hh⟩
      ·rcases hne with hne|hne
       ·exact⟨h0,.inr ⟨h1,by omega,h3,by rw[hold q2 (by omega) (fun e=>hne e.symm)];exact h4⟩⟩
       ·rw[hne];exact bm.nil
     rw[Qw (by rw[hgt,h36])]at hA3;simp only[WX,Gf,w2,st2,l5',q2',st5,iu,fP];refine hQ1 (X1 (G2 (X1 (G4 (X1 (G1 (cF (cH (ce (X4 (X1 []))))))))))) _ _ (i+2) (ko w text) [] false (by omega) hl2 (by unfold ko;split<;>simp) (az _) hnext ?_;exact⟨v3,tv2,q3,q2,(grF.set (b+2) _ (by omega) (by omega) (ah _)).set (b+5) _ (by omega) (by omega) (ah _),by omega,by rw[ag _ _ (by omega),ag _ _ (by omega)];exact(gr3.old b (by omega)).trans n0,by rw[ag _ _ (by omega),ag _ _ (by omega)];exact(gr3.old (b+1) (by omega)).trans n1,by rw[ag _ _ (by omega)];exact am _ _ _,by rw[ag _ _ (by omega),ag _ _ (by omega)];exact(gr3.old (b+3) (by omega)).trans n3,by rw[ag _ _ (by omega),ag _ _ (by omega)];exact(gr3.old (b+4) (by omega)).trans n4,am _ _ _,cq (cq hA3 (by omega)) (by omega),cq (cq hT3 (by omega)) (by omega)⟩
    ·rw[show yE [36,63] (s[i]::s.drop (i+1))=false by simpa using hpx]at hpf;have hnx:nb s[i]=true→iW (s[i]::s.drop (i+1))=some (some (0,[s[i]],false)):=by
      intro hp;have h36:s[i]≠36:=fun e=>by rw[e]at hp;exact absurd hp (by decide)
      rw[Ym hst h39 h36,ac hp]
     have hbad:nb s[i]=false→iW (s[i]::s.drop (i+1))=some none:=by
      intro hp;by_cases h36:s[i]=36
      ·have hh:(s.drop (i+1)).head?≠some 63:=by
        intro e;apply hpx;cases hd:s.drop (i+1)with
        |nil=>rw[hd]at e;cases e
        |cons y t2=>
         rw[hd]at e;rw[ag6,h36,show y=63 from ae e];rfl
       rw[h36]at hst⊢;rw[B6 hst,ab hh]
      ·rw[Ym hst h39 h36,ab (by rw[hp];decide)]
     cases hp:nb s[i]with
     |true=>
      rw[hp]at hh75;simp only[WX,ml,mm,Bm,Bn,Oc,Od,Bo,Bp,Bq,l0,l5,d0,hix,x32,x38,hsl,h55,hsg,qsg,x39,h73,hpf,h75,hh75];refine d41 Φ ok0 hlt hs (by omega) (by omega) hW' _ (X1 (G2 (X1 (G4 (X1 (G1 (cF (cH (ce (X4 (X1 []))))))))))) _ ?_;intro u M' c' hW2;have hW3:=Zk (j:=i+1) hW2;obtain⟨v,tv,p1,p0,gr,h6,m0,m1,m2,m3,m4,m5,hA,hT0⟩:=hW2;have l5:load1 F M' (b+5) 0=some (.i .i64 (i:Int)):=aq m5 0;have q3:cZ .add (.i .i64 (i:Int)) (.i .i64 1)=some (.i .i64 ((i+1:Nat):Int)):=by rw[bF _ _ (by omega) (by omega)];simp
      have st5:=aK m5 0 [V.i .i64 ((i+1:Nat):Int)] (by simp) rfl;simp only[WX,Gf,l5,q3,st5,iu,fP];refine hQ1 (X1 (G2 (X1 (G4 (X1 (G1 (cF (cH (ce (X4 (X1 []))))))))))) _ _ (i+1) w (text++[s[i]]) true (by omega) hlt (by omega) (by simp) ?_ hW3;rw[rC (hnx hp)];rfl
     |false=>
      rw[hp]at hh75;simp only[WX,Gf,l0,l5,d0,hix,x32,x38,hsl,h55,hsg,qsg,x39,h73,hpf,h75,hh75,hG0,st1];exact hQ3 (hbad hp) (X2 (G2 (cF (cH (ce (X8 (X2 (X1 [])))))))) _ _ (gr.set (b+1) _ (by omega) (by omega) (ah _)) h6 (am _ _ _)
 ·obtain rfl:i=s.length:=by omega
  have d0:decide ((s.length:Int)=(s.length:Int))=true:=aj rfl;have hno:iW (s.drop s.length)=none:=by rw[dG];rfl
  simp only[WX,ml,mm,l0,l5,iu,fP];exact hQ0 hno (X1 (G2 (X1 (G4 (X1 (G1 (cF (cH (ce (X4 (X1 [])))))))))))
end
end Go.Proofs.YtmbpllipombieaaDoor.Ev
