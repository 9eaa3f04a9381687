/- What is proved here: pieces of the evaluator's soundness: if the evaluator comes to a value, the model's run comes to it, for every world and tape; no conditions beyond the hypotheses of each theorem. -/
import Derived.Test.YtmbpllipombieaaDoorEv4
set_option linter.unusedSimpArgs false
set_option linter.unusedVariables false
set_option linter.defProp false
set_option maxRecDepth 10000
set_option maxHeartbeats 16000000
namespace Go.Proofs.YtmbpllipombieaaDoor.Ev
open Go
noncomputable section
theorem Ao:∀(e p q:List V),q.length=e.length→over (p++q) p.length e=p++e
 |[],p,q,h=>by
  obtain rfl:q=[]:=List.eq_nil_of_length_eq_zero h;rfl
 |v::e,p,[],h=>by cases h
 |v::e,p,a::q,h=>by
  rw[over,List.set_append_right _ _ (aj _),Nat.sub_self,List.set_cons_zero];have:=Ao e (p++[v]) q (by simpa using h);rw[aG,List.length_singleton,aQ,aQ]at this;exact this
theorem tS{z e:List V}(h:z.length=e.length):over z 0 e=e:=by
 have:=Ao e [] z h
 simpa using this
theorem kA{b:Nat}(mask:Nat):∀(reads:List (Nat×Nat)) (F:RO) (M:Mem) (s:List (Nat×bJ)),bU b reads=true→bQ M F=true→(M.get b).isSome=true→
 ∃F' M' s2,bN mask reads F M s=Pr.mk F' M' (s2++s)∧M'.get b=M.get b∧bQ M' F'=true∧(∀y,bQ (M'.set b y) F'=true)∧ ∀y x,(b8 s2 (M'.set b y)).get x=(M.set b y).get x
 |[],F,M,s,h1,h2,h3=>by
  refine⟨F,M,[],rfl,rfl,h2,fun y=>?_,fun y x=>rfl⟩;refine ql _ F fun b' hb'=>?_;have:∃blk,(b',blk)∈F:=by
   clear h1 h2 h3
   induction F with
   |nil=>cases hb'
   |cons a F ih=>
    obtain⟨k,z⟩:=a;rw[cI]at hb';split at hb'
    ·rename_i e;have e:k=b':=e;exact⟨z,by rw[e];exact bG ..⟩
    ·obtain⟨blk,hm⟩:=ih hb';exact⟨blk,bq _ hm⟩
  obtain⟨blk,hm⟩:=this;have hn:=gp F h2 b' blk hm;have:b'≠b:=by intro e;subst e;rw[hn]at h3;cases h3
  rw[ak _ _ this];exact hn
 |(i,x)::r,F,M,s,h1,h2,h3=>by
  have hx:x≠b∧bU b r=true:=by
   have h1':(bif Nat.beq x b then false else bU b r)=true:=h1;rw[bR]at h1';by_cases e:x=b
   ·rw[ah e]at h1';cases h1'
   ·rw[ag e]at h1';exact⟨e,h1'⟩
  rw[bN];cases ht:testBit mask i with
  |true=>exact kA mask r F M s hx.2 h2 h3
  |false=>
   show∃F' M' s2,(match M.get x with|none=>bN mask r F M s|some blk=>(M.del x).force fun M=>bN mask r ((x,blk)::F) M ((x,blk)::s))=_∧_;cases hb:M.get x with
   |none=>exact kA mask r F M s hx.2 h2 h3
   |some blk=>
    have hfr:bQ (M.del x) ((x,blk)::F)=true:=by
     rw[dP,Tr.get_del,ac rfl,kD x h2];rfl
    have hgb:(M.del x).get b=M.get b:=by rw[Tr.get_del,ab (fun e=>hx.1 e.symm)]
    obtain⟨F',M',s2,g1,g2,g3,g4,g5⟩:=kA mask r ((x,blk)::F) (M.del x) ((x,blk)::s) hx.2 hfr (by rw[hgb];exact h3);refine⟨F',M',s2++[(x,blk)],?_,g2.trans hgb,g3,g4,fun y z=>?_⟩
    ·show((M.del x).force fun M=>bN mask r ((x,blk)::F) M ((x,blk)::s))=_;rw[Tr.force_eq,g1,aQ];rfl
    ·have key:∀(s2:List (Nat×bJ)) (N:Mem),b8 (s2++[(x,blk)]) N=(b8 s2 N).set x blk:=by
      intro s2
      induction s2 with
      |nil=>intro N;show(N.set x blk).force (fun M=>M)=_;rw[Tr.force_eq];rfl
      |cons a s2 ih=>intro N;show(N.set a.1 a.2).force (fun M=>b8 (s2++[(x,blk)]) M)=_;rw[Tr.force_eq,ih];show _=((N.set a.1 a.2).force fun M=>b8 s2 M).set x blk;rw[Tr.force_eq]
     rw[key,Tr.get_set,g5,Tr.get_set,Tr.get_set,Tr.get_del];by_cases e1:z=x
     ·rw[ac e1,ab (by rw[e1];exact hx.1),e1,hb]
     ·rw[ab e1,ab e1]
theorem we(mask:Nat):∀(pend:List (Nat×Nat×bJ)) (M:Mem),(pend.all fun e=>testBit mask e.1)=true→eb mask pend M=(d9 pend M,[])
 |[],M,_=>rfl
 |(i,b,blk)::r,M,h=>by
  rw[List.all_cons,aC]at h;rw[eb,h.1,eW];show((M.set b blk).force fun M=>eb mask r M)=_;rw[Tr.force_eq,we mask r _ h.2]
section
variable{Φ:Nat→Option CF}{rd:Option Nat}{fn:Nat}{F:RO}
theorem UV(base i mask n:Nat)(p v:X)(r:List (Nat×Nat×CO))(t:T)(M:Mem)(c:Nat)(pend:List (Nat×Nat×bJ))(reads:List (Nat×Nat))(R:DS→Prop){M1:Mem}{b ty:Nat}{z e:List V}
 (hm:(pend.all fun e=>testBit mask e.1)=true) (hM:d9 pend M=M1) (hb:M1.get b=some (af ty z)) (hp:p.ev t= .p b 0) (hv:flatten (v.ev t)=e) (ha:aL e=true) (hl:e.length=n) (hz:z.length=n) (hr:bU b reads=true) (hf:bQ M1 F=true)
 (h:∀M',(∀x,M'.get x=(M1.set b (af ty e)).get x)→ly base r (K Φ rd fn F) (.mk t M' c [] reads) R):
 ly base ((i,mask,.mk none (.e (.st n p v)) none)::r) (K Φ rd fn F) (.mk t M c pend reads) R:=by
 obtain⟨F',M',s2,g1,g2,g3,g4,g5⟩:=kA mask reads F M1 [] hr hf (by rw[hb];rfl)
 have hov:over z 0 e=e:=tS (hz.trans hl.symm)
 have hst:bS M' b 0 e=some (M'.set b (af ty e)):=by
  have:=aJ (g2.trans hb) 0 e (by omega) ha
  rwa [hov]at this
 have hd:eU (.st n p v) (K Φ rd fn F') M' c t= .k undef (M'.set b (af ty e)) c:=by
  rw[xR,hp];show(if(flatten (v.ev t)).length=n then er c (bS M' b 0 (flatten (v.ev t)))else .f)=_;rw[hv,ac hl,hst];rfl
 have he:rG (K Φ rd fn F) base (i,mask,.mk none (.e (.st n p v)) none) (.mk t M c pend reads)=some (.mk t (b8 s2 (M'.set b (af ty e))) c [] reads):=by
  show uZ (.st n p v) (K Φ rd fn F) mask none t c reads (eb mask pend M)=_;rw[we mask pend M hm,hM];show pO (.st n p v) (K Φ rd fn F) none t c [] reads (bN mask reads F M1 [])=_;rw[g1];show nj F' none t [] reads (s2++[]) (eU (.st n p v) (K Φ rd fn F') M' c t)=_;rw[hd,bF];show(bif bQ (M'.set b (af ty e)) F'&&true then(b8 s2 (M'.set b (af ty e))).force fun M=>(setT t none undef).force fun t=>some (DS.mk t M c [] reads)else none)=_;rw[g4];show((b8 s2 (M'.set b (af ty e))).force fun M=>(setT t none undef).force fun t=>some (DS.mk t M c [] reads))=_;rw[Tr.force_eq,Tr.force_eq];rfl
 rw[eM]
 exact⟨_,he,h _ (fun x=>g5 _ x)⟩
theorem iO{c:Nat}(mask:Nat):∀(reads:List (Nat×Nat)) (F:RO) (M:Mem) (s:List (Nat×bJ)),bQ M F=true→(∀x,c≤x→M.get x=none)→
 ∃F' M' s2,bN mask reads F M s=Pr.mk F' M' (s2++s)∧bQ M' F'=true∧(∀b,look F' M' b=look F M b)∧(∀x,c≤x→M'.get x=none)∧ ∀N:Mem,(∀x,x<c→N.get x=M'.get x)→ ∀x,(b8 s2 N).get x=if x<c then M.get x else N.get x
 |[],F,M,s,h2,h3=>⟨F,M,[],rfl,h2,fun _=>rfl,h3,fun N hN x=>by
  show N.get x=_;split
  ·rename_i h;exact hN x h
  ·rfl⟩
 |(i,x)::r,F,M,s,h2,h3=>by
  rw[bN];cases ht:testBit mask i with
  |true=>exact iO mask r F M s h2 h3
  |false=>
   show∃F' M' s2,(match M.get x with|none=>bN mask r F M s|some blk=>(M.del x).force fun M=>bN mask r ((x,blk)::F) M ((x,blk)::s))=_∧_;cases hb:M.get x with
   |none=>exact iO mask r F M s h2 h3
   |some blk=>
    have hxc:x<c:=by
     apply Classical.byContradiction;intro hx;rw[h3 x (by omega)]at hb;cases hb
    have hfr:bQ (M.del x) ((x,blk)::F)=true:=by
     rw[dP,Tr.get_del,ac rfl,kD x h2];rfl
    obtain⟨F',M',s2,g1,g2,g3,g4,g5⟩:=iO mask r ((x,blk)::F) (M.del x) ((x,blk)::s) hfr (fun y hy=>by rw[Tr.get_del];split<;>first|rfl|exact h3 y hy);refine⟨F',M',s2++[(x,blk)],?_,g2,fun b=>?_,g4,fun N hN z=>?_⟩
    ·show((M.del x).force fun M=>bN mask r ((x,blk)::F) M ((x,blk)::s))=_;rw[Tr.force_eq,g1,aQ];rfl
    ·rw[g3];by_cases e:b=x
     ·subst e;rw[az hb,b5 (by rw[Tr.get_del,ac rfl]),cI,ac rfl]
     ·cases hM:M.get b with
      |some y=>rw[az hM,az (by rw[Tr.get_del,ab e];exact hM)]
      |none=>rw[b5 hM,b5 (by rw[Tr.get_del,ab e];exact hM),cI,ab (fun h=>e h.symm)]
    ·have key:∀(s2:List (Nat×bJ)) (N:Mem),b8 (s2++[(x,blk)]) N=(b8 s2 N).set x blk:=by
      intro s2
      induction s2 with
      |nil=>intro N;show(N.set x blk).force (fun M=>M)=_;rw[Tr.force_eq];rfl
      |cons a s2 ih=>intro N;show(N.set a.1 a.2).force (fun M=>b8 (s2++[(x,blk)]) M)=_;rw[Tr.force_eq,ih];show _=((N.set a.1 a.2).force fun M=>b8 s2 M).set x blk;rw[Tr.force_eq]
     rw[key,Tr.get_set,g5 N hN];by_cases e1:z=x
     ·subst e1;rw[ac rfl,ac hxc,hb]
     ·rw[ab e1,Tr.get_del,ab e1]
theorem nJ(base i mask:Nat)(dst:Option aR)(o:EO)(r:List (Nat×Nat×CO))(t:T)(M:Mem)(c:Nat)(reads:List (Nat×Nat))(R:DS→Prop)(ok:cK F M c)
 (h:∀F' M',cK F' M' c→(∀b,look F' M' b=look F M b)→lw (eU o (K Φ rd fn F') M' c t) fun v M2 c2=>Gr c M' c2 M2∧ ∀M3,Gr c M c2 M3→(∀x,c≤x→M3.get x=M2.get x)→ly base r (K Φ rd fn F) (.mk (setT t dst v) M3 c2 [] reads) R):
 ly base ((i,mask,.mk dst (.e o) none)::r) (K Φ rd fn F) (.mk t M c [] reads) R:=by
 obtain⟨F',M',s2,g1,g2,g3,g4,g5⟩:=iO (c:=c) mask reads F M [] ok.free ok.hiM
 have ok':cK F' M' c:=by
  refine⟨g4,fun b hb=>?_,fun b hb=>?_,ok.ge⟩
  ·have:=g3 b;rw[b5 (g4 b hb),ok.look hb]at this;exact this
  ·have:∃blk,(b,blk)∈F':=by
    clear g1 g2 g3 g5 h
    induction F' with
    |nil=>cases hb
    |cons a F' ih=>
     obtain⟨k,z⟩:=a;rw[cI]at hb;split at hb
     ·rename_i e;have e:k=b:=e;exact⟨z,by rw[e];exact bG ..⟩
     ·obtain⟨blk,hm⟩:=ih hb;exact⟨blk,bq _ hm⟩
   obtain⟨blk,hm⟩:=this;exact gp F' g2 b blk hm
 obtain⟨v,M2,c2,hd,hg,hR⟩:=h F' M' ok' g3
 have hun:=g5 M2 hg.old
 have he:rG (K Φ rd fn F) base (i,mask,.mk dst (.e o) none) (.mk t M c [] reads)=some (.mk (setT t dst v) (b8 s2 M2) c2 [] reads):=by
  show pO o (K Φ rd fn F) dst t c [] reads (bN mask reads F M [])=_;rw[g1];show nj F' dst t [] reads (s2++[]) (eU o (K Φ rd fn F') M' c t)=_;rw[hd,bF];show(bif bQ M2 F'&&true then(b8 s2 M2).force fun M=>(setT t dst v).force fun t=>some (DS.mk t M c2 [] reads)else none)=_;rw[(hg.ok ok').free];show((b8 s2 M2).force fun M=>(setT t dst v).force fun t=>some (DS.mk t M c2 [] reads))=_;rw[Tr.force_eq,Tr.force_eq]
 rw[eM]
 have hle:=hg.le
 exact⟨_,he,hR _ ⟨hle,fun b hb=>by rw[hun,ac hb],fun b hb=>by rw[hun,ab (by omega)];exact hg.new b hb⟩ (fun x hx=>by rw[hun,ab (by omega)])⟩
theorem S4{F':RO}{M M':Mem}(h:∀b,look F' M' b=look F M b)(b o:Nat):load1 F' M' b o=load1 F M b o:=by
 show kg (look F' M' b) none (fun m d c=>cell m d c o)=kg (look F M b) none fun m d c=>cell m d c o
 rw[h]
theorem cA.lk{F':RO}{M M':Mem}{c sz:Nat}{v:V}{es:List (List V)}(h:∀b,look F' M' b=look F M b)(hs:cA F M c sz v es):cA F' M' c sz v es:=by
 obtain⟨h0,h1|⟨b,o,h1,h2,h3⟩⟩:=hs
 ·exact⟨h0,.inl h1⟩
 ·exact⟨h0,.inr ⟨b,o,h1,h2,fun k hk=>by rw[S4 h];exact h3 k hk⟩⟩
end
section
variable{Φ:Nat→Option CF}{rd:Option Nat}{fn:Nat}{F:RO}
theorem mh{F:RO}{M:Mem}:∀{pend:List (Nat×Nat×bJ)},(∀e∈pend,look F M e.2.1=none)→cq F M pend=true
 |[],_=>rfl
 |e::r,h=>by
  show(bif (look F M e.2.1).isNone then cq F M r else false)=true;rw[h e (bG ..)];exact mh fun x hx=>h x (bq _ hx)
theorem tN{mask:Nat}{M:Mem}:∀{pend:List (Nat×Nat×bJ)},(pend.all fun e=> !testBit mask e.1)=true→eb mask pend M=(M,pend)
 |[],_=>rfl
 |(i,b,blk)::r,h=>by
  rw[List.all_cons,aC]at h;have h1:testBit mask i=false:=by have:=h.1;revert this;cases testBit mask i<;>simp
  show(bif testBit mask i then(M.set b blk).force fun M=>eb mask r M else match eb mask r M with|(M,p)=>(M,(i,b,blk)::p))=_;rw[h1,tN h.2];rfl
theorem UU(base i mask:Nat)(dst:Option aR)(o:EO)(r:List (Nat×Nat×CO))(t:T)(M:Mem)(c:Nat)(pend:List (Nat×Nat×bJ))(reads:List (Nat×Nat))(R:DS→Prop)(ok:cK F M c)
 (hm:(pend.all fun e=> !testBit mask e.1)=true) (hp:∀e∈pend,e.2.1<c∧look F M e.2.1=none)
 (h:∀F' M',cK F' M' c→(∀b,look F' M' b=look F M b)→lw (eU o (K Φ rd fn F') M' c t) fun v M2 c2=>Gr c M' c2 M2∧ ∀M3,Gr c M c2 M3→(∀x,c≤x→M3.get x=M2.get x)→ly base r (K Φ rd fn F) (.mk (setT t dst v) M3 c2 pend reads) R):
 ly base ((i,mask,.mk dst (.e o) none)::r) (K Φ rd fn F) (.mk t M c pend reads) R:=by
 obtain⟨F',M',s2,g1,g2,g3,g4,g5⟩:=iO (c:=c) mask reads F M [] ok.free ok.hiM
 have ok':cK F' M' c:=by
  refine⟨g4,fun b hb=>?_,fun b hb=>?_,ok.ge⟩
  ·have:=g3 b;rw[b5 (g4 b hb),ok.look hb]at this;exact this
  ·have:∃blk,(b,blk)∈F':=by
    clear g1 g2 g3 g5 h
    induction F' with
    |nil=>cases hb
    |cons a F' ih=>
     obtain⟨k,z⟩:=a;rw[cI]at hb;split at hb
     ·rename_i e;have e:k=b:=e;exact⟨z,by rw[e];exact bG ..⟩
     ·obtain⟨blk,hm⟩:=ih hb;exact⟨blk,bq _ hm⟩
   obtain⟨blk,hm⟩:=this;exact gp F' g2 b blk hm
 obtain⟨v,M2,c2,hd,hg,hR⟩:=h F' M' ok' g3
 have hun:=g5 M2 hg.old
 have hf1:cq F' M' pend=true:=mh fun e he=>(g3 _).trans (hp e he).2
 have hf2:cq F' M2 pend=true:=mh fun e he=>by
  have h1:=(hp e he).1;have h2:=(g3 e.2.1).trans (hp e he).2;obtain⟨h3,h4⟩:=gj h2;exact ig ((hg.old _ h1).trans h3) h4
 have he:rG (K Φ rd fn F) base (i,mask,.mk dst (.e o) none) (.mk t M c pend reads)=some (.mk (setT t dst v) (b8 s2 M2) c2 pend reads):=by
  show uZ o (K Φ rd fn F) mask dst t c reads (eb mask pend M)=_;rw[tN hm];show pO o (K Φ rd fn F) dst t c pend reads (bN mask reads F M [])=_;rw[g1];show(bif cq F' M' pend then nj F' dst t pend reads (s2++[]) (eU o (K Φ rd fn F') M' c t)else none)=_;rw[hf1,cond_true,hd,bF];show(bif bQ M2 F'&&cq F' M2 pend then(b8 s2 M2).force fun M=>(setT t dst v).force fun t=>some (DS.mk t M c2 pend reads)else none)=_;rw[(hg.ok ok').free,hf2];show((b8 s2 M2).force fun M=>(setT t dst v).force fun t=>some (DS.mk t M c2 pend reads))=_;rw[Tr.force_eq,Tr.force_eq]
 rw[eM]
 have hle:=hg.le
 exact⟨_,he,hR _ ⟨hle,fun b hb=>by rw[hun,ac hb],fun b hb=>by rw[hun,ab (by omega)];exact hg.new b hb⟩ (fun x hx=>by rw[hun,ab (by omega)])⟩
end
section
variable{Φ:Nat→Option CF}{rd:Option Nat}{fn:Nat}{F:RO}
structure jq(h:Nat→Prop)(c:Nat)(M:Mem)(c':Nat)(M':Mem):Prop where
 le:c≤c'
 old:∀b,b<c→ ¬h b→M'.get b=M.get b
 new:∀b,c'≤b→M'.get b=none
theorem jq.of{h:Nat→Prop}{c c':Nat}{M M':Mem}(g:Gr c M c' M'):jq h c M c' M':=⟨g.le,fun b hb _=>g.old b hb,g.new⟩
theorem jq.trans{h:Nat→Prop}{M M1 M2:Mem}{c c1 c2:Nat}(g:jq h c M c1 M1)(g2:jq h c1 M1 c2 M2):jq h c M c2 M2:=
 ⟨bc g.le g2.le,fun b hb hn=>(g2.old b (Nat.lt_of_lt_of_le hb g.le) hn).trans (g.old b hb hn),g2.new⟩
theorem jq.wk{h h':Nat→Prop}{M M1:Mem}{c c1:Nat}(g:jq h c M c1 M1)(hh:∀b,b<c→h b→h' b):jq h' c M c1 M1:=
 ⟨g.le,fun b hb hn=>g.old b hb fun hx=>hn (hh b hb hx),g.new⟩
theorem jq.gr{h:Nat→Prop}{M M1:Mem}{c0 c c1:Nat}(g:jq h c M c1 M1)(h0:c0≤c)(hh:∀b,b<c0→ ¬h b):Gr c0 M c1 M1:=
 ⟨bc h0 g.le,fun b hb=>g.old b (by omega) (hh b hb),g.new⟩
theorem jq.set{h:Nat→Prop}{M:Mem}{c b:Nat}(ok:cK F M c)(hb:b<c)(hh:h b)(x:bJ):jq h c M c (M.set b x):=
 ⟨aj _,fun b' _ hn=>ak _ _ fun e=>hn (by rw[e];exact hh),fun b' hb'=>by rw[ak _ _ (by omega)];exact ok.hiM b' hb'⟩
theorem jq.ok{h:Nat→Prop}{M M1:Mem}{c c1:Nat}(g:jq h c M c1 M1)(ho:cK F M c)(hh:∀b,b<c→h b→ ∃x,M.get b=some x):cK F M1 c1:=by
 refine⟨g.new,fun b hb=>ho.hiF b (bc g.le hb),fun b hb=>?_,bc ho.ge g.le⟩
 have hlt:b<c:=by
  by_cases hc:b<c
  ·exact hc
  ·rw[ho.hiF b (by omega)]at hb;cases hb
 rw[g.old b hlt fun hx=>?_]
 ·exact ho.ap b hb
 ·obtain⟨x,hx⟩:=hh b hlt hx;rw[ho.ap b hb]at hx;cases hx
theorem jc{c:Nat}{h:Nat→Prop}(mask:Nat):∀(reads:List (Nat×Nat)) (F:RO) (M:Mem) (s:List (Nat×bJ)),(∀e∈reads,¬h e.2)→bQ M F=true→(∀x,c≤x→M.get x=none)→
 ∃F' M' s2,bN mask reads F M s=Pr.mk F' M' (s2++s)∧bQ M' F'=true∧(∀b,look F' M' b=look F M b)∧(∀x,c≤x→M'.get x=none)∧(∀x,(∀e∈reads,e.2≠x)→M'.get x=M.get x)∧ ∀N:Mem,(∀x,x<c→ ¬h x→N.get x=M'.get x)→ ∀x,(x<c→ ¬h x→(b8 s2 N).get x=M.get x)∧(c≤x∨h x→(b8 s2 N).get x=N.get x)
 |[],F,M,s,_,h2,h3=>⟨F,M,[],rfl,h2,fun _=>rfl,h3,fun _ _=>rfl,fun N hN x=>⟨fun h1 h2=>hN x h1 h2,fun _=>rfl⟩⟩
 |(i,x)::r,F,M,s,hr,h2,h3=>by
  have hr':∀e∈r,¬h e.2:=fun e he=>hr e (bq _ he);rw[bN];cases ht:testBit mask i with
  |true=>
   obtain⟨F',M',s2,g1,g2,g3,g4,g6,g5⟩:=jc mask r F M s hr' h2 h3;exact⟨F',M',s2,g1,g2,g3,g4,fun y hy=>g6 y fun e he=>hy e (bq _ he),g5⟩
  |false=>
   show∃F' M' s2,(match M.get x with|none=>bN mask r F M s|some blk=>(M.del x).force fun M=>bN mask r ((x,blk)::F) M ((x,blk)::s))=_∧_;cases hb:M.get x with
   |none=>
    obtain⟨F',M',s2,g1,g2,g3,g4,g6,g5⟩:=jc mask r F M s hr' h2 h3;exact⟨F',M',s2,g1,g2,g3,g4,fun y hy=>g6 y fun e he=>hy e (bq _ he),g5⟩
   |some blk=>
    have hxc:x<c:=by
     apply Classical.byContradiction;intro hx;rw[h3 x (by omega)]at hb;cases hb
    have hxh:¬h x:=hr (i,x) (bG ..);have hfr:bQ (M.del x) ((x,blk)::F)=true:=by
     rw[dP,Tr.get_del,ac rfl,kD x h2];rfl
    obtain⟨F',M',s2,g1,g2,g3,g4,g6,g5⟩:=jc mask r ((x,blk)::F) (M.del x) ((x,blk)::s) hr' hfr (fun y hy=>by rw[Tr.get_del];split<;>first|rfl|exact h3 y hy);refine⟨F',M',s2++[(x,blk)],?_,g2,fun b=>?_,g4,fun y hy=>?_,fun N hN z=>?_⟩
    ·show((M.del x).force fun M=>bN mask r ((x,blk)::F) M ((x,blk)::s))=_;rw[Tr.force_eq,g1,aQ];rfl
    ·rw[g3];by_cases e:b=x
     ·subst e;rw[az hb,b5 (by rw[Tr.get_del,ac rfl]),cI,ac rfl]
     ·cases hM:M.get b with
      |some y=>rw[az hM,az (by rw[Tr.get_del,ab e];exact hM)]
      |none=>rw[b5 hM,b5 (by rw[Tr.get_del,ab e];exact hM),cI,ab (fun h=>e h.symm)]
    ·rw[g6 y fun e he=>hy e (bq _ he),Tr.get_del,ab (fun e=>hy (i,x) (bG ..) e.symm)]
    ·have key:∀(s2:List (Nat×bJ)) (N:Mem),b8 (s2++[(x,blk)]) N=(b8 s2 N).set x blk:=by
      intro s2
      induction s2 with
      |nil=>intro N;show(N.set x blk).force (fun M=>M)=_;rw[Tr.force_eq];rfl
      |cons a s2 ih=>intro N;show(N.set a.1 a.2).force (fun M=>b8 (s2++[(x,blk)]) M)=_;rw[Tr.force_eq,ih];show _=((N.set a.1 a.2).force fun M=>b8 s2 M).set x blk;rw[Tr.force_eq]
     obtain⟨k1,k2⟩:=g5 N hN z;rw[key,Tr.get_set];refine⟨fun a1 a2=>?_,fun a1=>?_⟩
     ·by_cases e1:z=x
      ·subst e1;rw[ac rfl,hb]
      ·rw[ab e1,k1 a1 a2,Tr.get_del,ab e1]
     ·have e1:¬z=x:=by
       intro e;rcases a1 with a1|a1
       ·omega
       ·exact hxh (by rw[←e];exact a1)
      rw[ab e1,k2 a1]
theorem bl5{hx:Nat→Prop}(base i mask:Nat)(dst:Option aR)(o:EO)(r:List (Nat×Nat×CO))(t:T)(M:Mem)(c:Nat)(reads:List (Nat×Nat))(R:DS→Prop)(ok:cK F M c)(hr:∀e∈reads,¬hx e.2)(hs:∀b,b<c→hx b→ ∃x,M.get b=some x)
 (h:∀F' M',cK F' M' c→(∀b,look F' M' b=look F M b)→(∀b,(∀e∈reads,e.2≠b)→M'.get b=M.get b)→lw (eU o (K Φ rd fn F') M' c t) fun v M2 c2=>jq hx c M' c2 M2∧ ∀M3,jq hx c M c2 M3→(∀x,c≤x∨hx x→M3.get x=M2.get x)→ly base r (K Φ rd fn F) (.mk (setT t dst v) M3 c2 [] reads) R):
 ly base ((i,mask,.mk dst (.e o) none)::r) (K Φ rd fn F) (.mk t M c [] reads) R:=by
 obtain⟨F',M',s2,g1,g2,g3,g4,g6,g5⟩:=jc (c:=c) (h:=hx) mask reads F M [] hr ok.free ok.hiM
 have ok':cK F' M' c:=by
  refine⟨g4,fun b hb=>?_,fun b hb=>?_,ok.ge⟩
  ·have:=g3 b;rw[b5 (g4 b hb),ok.look hb]at this;exact this
  ·have:∃blk,(b,blk)∈F':=by
    clear g1 g2 g3 g5 h
    induction F' with
    |nil=>cases hb
    |cons a F' ih=>
     obtain⟨k,z⟩:=a;rw[cI]at hb;split at hb
     ·rename_i e;have e:k=b:=e;exact⟨z,by rw[e];exact bG ..⟩
     ·obtain⟨blk,hm⟩:=ih hb;exact⟨blk,bq _ hm⟩
   obtain⟨blk,hm⟩:=this;exact gp F' g2 b blk hm
 obtain⟨v,M2,c2,hd,hg,hR⟩:=h F' M' ok' g3 g6
 have hun:=g5 M2 hg.old
 have ok2:cK F' M2 c2:=hg.ok ok' fun b hb hxb=>by rw[g6 b fun e he e1=>hr e he (by rw[e1];exact hxb)];exact hs b hb hxb
 have he:rG (K Φ rd fn F) base (i,mask,.mk dst (.e o) none) (.mk t M c [] reads)=some (.mk (setT t dst v) (b8 s2 M2) c2 [] reads):=by
  show pO o (K Φ rd fn F) dst t c [] reads (bN mask reads F M [])=_;rw[g1];show nj F' dst t [] reads (s2++[]) (eU o (K Φ rd fn F') M' c t)=_;rw[hd,bF];show(bif bQ M2 F'&&true then(b8 s2 M2).force fun M=>(setT t dst v).force fun t=>some (DS.mk t M c2 [] reads)else none)=_;rw[ok2.free];show((b8 s2 M2).force fun M=>(setT t dst v).force fun t=>some (DS.mk t M c2 [] reads))=_;rw[Tr.force_eq,Tr.force_eq]
 rw[eM]
 have hle:=hg.le
 refine⟨_,he,hR _ ⟨hle,fun b hb hn=>(hun b).1 hb hn,fun b hb=>?_⟩ fun x hx=>(hun x).2 hx⟩
 rw[(hun b).2 (.inl (by omega))];exact hg.new b hb
theorem VY{M:Mem}{c b n ty sz bytes:Nat}{y:V}{es ns:List (List V)}(h:cA F M c sz (.l b 0 n n) es)(hn:es.length=n)(hsz:0<sz)(hy:cA F M c sz y ns)(hne:ns≠[])(h1:aL ns.flatten=true)(hr:mA (es.length+ns.length) bytes=true):
 lw (rB F M c ty sz bytes (.l b 0 n n) y) fun v' M' c'=>c'=c+1∧M'=M.set c (qo ty (es++ns).flatten)∧v'= .u c 0 (es++ns).length 0 (es++ns).length:=by
 unfold rB
 rw[AK hsz hy]
 have hnl:=eV hy.1
 have hn0:ns.length≠0:=fun e=>hne (List.length_eq_zero_iff.1 e)
 have e1:nT F M c ty sz bytes (.l b 0 n n) (some (ns.length,ns.flatten))=vH F M c ty sz bytes b 0 n n ns.length ns.flatten:=by
  show(bif aL ns.flatten&&Nat.beq ns.flatten.length (Nat.mul ns.length sz)then app F M c ty sz bytes (.l b 0 n n) ns.length ns.flatten else _)=_;rw[h1,bR,ah (show ns.flatten.length=Nat.mul ns.length sz from hnl)];show(bif Nat.beq ns.length 0 then _ else _)=_;rw[bR,ag hn0];rfl
 have hcl:cZ F M b 0 es.flatten:=by
  obtain⟨h0,⟨rfl,h2⟩|⟨b',o',hv,hb,hc⟩⟩:=h
  ·intro k hk;cases hk
  ·rcases hv with⟨cap,_,hv⟩|⟨el,kn,_,hv⟩
   ·injection hv with e1 e2;subst e1 e2;exact hc
   ·cases hv
 obtain⟨r,hrd⟩:=mq hsz h.1 hcl
 rw[hn]at hrd
 have e2:vH F M c ty sz bytes b 0 n n ns.length ns.flatten=gO M c ty bytes (es.length+ns.length) 0 false (es.flatten++ns.flatten):=by
  unfold vH;rw[cB,ag (show¬Nat.add n ns.length≤n by show¬n+ns.length≤n;omega),cond_false,hrd,←hn];rfl
 refine⟨_,_,_,(e1.trans e2).trans (oP M c ty bytes _ _ hr),rfl,by rw[List.flatten_append],by rw[aG]⟩
theorem Gc{M:Mem}{c sz:Nat}{v:V}{es:List (List V)}(h:cA F M c sz v es)(hne:es≠[]):∃v',vh sz v (some (.i .i64 1)) none none=some v'∧cA F M c sz v' es.tail:=by
 have hl:1≤es.length:=by
  cases es with
  |nil=>exact absurd rfl hne
  |cons a r=>simp
 obtain⟨v',_,_,e3,_,hs⟩:=XM (lo:=1) (hi:=es.length) h hl (aj _)
 exact⟨v',e3 rfl .i64,by rwa [List.take_length,List.drop_one]at hs⟩
end
theorem aS7{F:RO}{M:Mem}{c:Nat}{vs:List V}{x:(Ty.int .i64).D}(h:Rp F M c (.int .i64) vs x):∃z:Int,vs=[.i .i64 z]∧ -9223372036854775808≤z∧z≤9223372036854775807:=by
 have key:∀z:Int,vs=[.i .i64 z]∧IntKind.i64.min≤z∧z≤IntKind.i64.max→ ∃z:Int,vs=[.i .i64 z]∧ -9223372036854775808≤z∧z≤9223372036854775807:=fun z h=>⟨z,h⟩
 exact key x h
def ax3:CC:=(.reg [(qq a4 (.mv (x6 0)))])
def ax4:CC:=(.reg [(qq a5 (.mv z0)),(qq a6 (.mv z1)),(qq a7 (.xib z5 z6)),(qq a4 (.mv z7))])
def c88:CF:= .mk 4 [.t a4] (.seq ax3 (.seq ax4 .ret))
theorem e88(v0 v1:V):bz 4 [v0,v1]=(.n (.n re (some v1) re) (some v0) jp):=rfl
def B88:=ai @e88 (ai (wu ax3.eq_1) (wu ax4.eq_1))
def ax1:CC:=(.reg [(qq a4 (.mv xF))])
def ax2:CC:=(.reg [(qq a5 (.mv z0)),(qq a6 (.ln .str z5)),(qq a7 (.mv z1)),(qq a8 (.ln .str z7)),(qq a9 (.bi .geq z6 z8)),(qq dT (.mv z9)),(aF eP (.mv z0) dT),(aF fg (.mv z1) dT),(aF eQ (.ln .str eN) dT),(aF fh (.slS dL none (some ed)) dT),(aF dM (.mv z1) dT),(aF fu (.bi .eql gb gK) dT),(qq gL (.pk ft iA xF)),(qq a4 (.mv iB))])
def c87:CF:= .mk 5 [.t a4] (.seq ax1 (.seq ax2 .ret))
theorem e87(v0 v1:V):bz 5 [v0,v1]=(.n (.n jp (some v1) jp) (some v0) ow):=rfl
def B87:=ai @e87 (ai (wu ax1.eq_1) (wu ax2.eq_1))
def qM:V→Option (List UInt8)
 | .s n x=>if ce (bl n x)=x then some (bl n x)else none
 |_=>none
theorem lJ(l:List UInt8):qM (sV l)=some l:=by
 show(if ce (bl l.length (ce l))=ce l then some (bl l.length (ce l))else none)=_
 rw[kI,ac rfl]
theorem aU4{v:V}{l:List UInt8}(h:qM v=some l):v=sV l:=by
 unfold qM at h
 split at h
 ·rename_i n x;split at h
  ·rename_i hx;obtain rfl:=ae h;show V.s n x=V.s (bl n x).length (ce (bl n x));rw[hx,iq]
  ·cases h
 ·cases h
def v7(c:UInt8):List UInt8→Nat→Option Nat
 |[],_=>none
 |x::r,i=>if x=c then some i else v7 c r (i+1)
theorem Dc{c:UInt8}:∀{l:List UInt8} {i k:Nat},v7 c l i=some k→i≤k∧k<i+l.length
 |[],i,k,h=>by cases h
 |x::r,i,k,h=>by
  unfold v7 at h;split at h
  ·obtain rfl:=ae h;simp
  ·have:=Dc h;rw[av];omega
theorem Fi(c:UInt8):∀(l:List UInt8) (i:Nat),lT c.toNat l.length (ce l) i=v7 c l i
 |[],i=>rfl
 |x::r,i=>by
  have hx:=UInt8.toNat_lt x;show(bif Nat.beq ((x.toNat+256*ce r)%256) c.toNat then some i else lT c.toNat r.length ((x.toNat+256*ce r)/256) (Nat.succ i))=_;rw[show(x.toNat+256*ce r)%256=x.toNat by omega,show(x.toNat+256*ce r)/256=ce r by omega,bR,v7];by_cases h:x=c
  ·subst h;rw[ah rfl,ac rfl];rfl
  ·rw[ag (fun e=>h (UInt8.toNat_inj.1 e)),ab h,cond_false];exact Fi c r (i+1)
def bQ6(x c:V):Option V:=(cS (.xib (.c x) (.c c)) [] .e .e).val
theorem bK0{F:RO}(x c:X)(M:Mem)(t:T):(cS (.xib x c) F M t).val=bQ6 (x.ev t) (c.ev t):=Eq.trans rfl (Eq.refl _)
def v8:Option Nat→Int
 |some k=>(k:Int)
 |none=> -1
theorem bm8(l:List UInt8)(c:UInt8):bQ6 (sV l) (bV c)=some (.i .i64 (v8 (v7 c l 0))):=by
 show(DN (lT (Nat.mod c.toNat 256) l.length (ce l) 0)).val=_
 have:=UInt8.toNat_lt c
 rw[show Nat.mod c.toNat 256=c.toNat from Nat.mod_eq_of_lt (by omega),Fi]
 cases v7 c l 0<;>rfl
theorem t88(Φ:Nat→Option CF)(h:Φ 88=some c88)(l:List UInt8)(b:UInt8)(ct:Nat):To Φ 88 [sV l,bV b] ct (.i .i64 (v8 (v7 b l 0))):=by
 refine eL h ?_
 simp only[WX,B88,bK0,bm8]
def Vk:V→Option UInt8
 | .i .u8 (.ofNat n)=>if n<256 then some (UInt8.ofNat n)else none
 |_=>none
theorem JB(b:UInt8):Vk (bV b)=some b:=by
 have:=UInt8.toNat_lt b
 show(if b.toNat<256 then some (UInt8.ofNat b.toNat)else none)=_
 rw[ac (by omega),UInt8.ofNat_toNat]
theorem aU3{v:V}{b:UInt8}(h:Vk v=some b):v=bV b:=by
 unfold Vk at h
 split at h
 ·rename_i n;split at h
  ·obtain rfl:=ae h;show V.i .u8 (n:Int)=V.i .u8 ((UInt8.ofNat n).toNat:Int);rw[UInt8.toNat_ofNat',Nat.mod_eq_of_lt (by omega)]
  ·cases h
 ·cases h
def h88:List V→Option V
 |[v,w]=>(qM v).bind fun l=>(Vk w).bind fun b=>some (.i .i64 (v8 (v7 b l 0)))
 |_=>none
theorem Dg(l:List UInt8)(b:UInt8):h88 [sV l,bV b]=some (.i .i64 (v8 (v7 b l 0))):=by
 show(qM (sV l)).bind (fun l=>(Vk (bV b)).bind fun b=>some (V.i .i64 (v8 (v7 b l 0))))=_
 rw[lJ,Option.bind_some,JB,Option.bind_some]
theorem aQ9{F:RO}(x:X)(lo hi:Option X)(M:Mem)(t:T):lq (.slS x lo hi) F M t=oV (yH (x.ev t) (lo.map fun x=>x.ev t) (hi.map fun x=>x.ev t)):=by
 refine(fE ?_).trans (congrArg oV (aG0 (F:=F) x lo hi M t))
 intro F' M'
 refine jJ ?_
 show((wh (x.ev t) QR.f fun n s=>jn n s (optN t 0 lo) (optN t n hi))= .f∨ ∃y,(wh (x.ev t) QR.f fun n s=>jn n s (optN t 0 lo) (optN t n hi))= .v y)
 cases x.ev t with
 |s n s=>
  show QV (jn n s (optN t 0 lo) (optN t n hi));generalize optN t 0 lo=a;generalize optN t n hi=b;cases a with
  |none=>exact .inl rfl
  |some a=>
   cases b with
   |none=>exact .inl rfl
   |some b=>
    show QV (Bool.rec (motive:=fun _=>QR) .f (Bool.rec (motive:=fun _=>QR) .f (vS (b-a) (s/256^a%256^(b-a))) (Nat.ble b n)) (Nat.ble a b));cases Nat.ble a b with
    |false=>exact .inl rfl
    |true=>
     cases Nat.ble b n with
     |false=>exact .inl rfl
     |true=>exact .inr ⟨_,by show vS _ _=_;unfold vS;rw[bA,bA]⟩
 |_=>exact .inl rfl
theorem t87(Φ:Nat→Option CF)(h:Φ 87=some c87)(l p:List UInt8)(ct:Nat):To Φ 87 [sV l,sV p] ct (.b (decide (p.length≤l.length∧l.take p.length=p))):=by
 refine eL h ?_
 by_cases h1:p.length≤l.length
 ·have d1:decide ((p.length:Int)≤(l.length:Int))=true:=ah (by omega);have s1:=Tb l .i64 p.length h1;have e:decide (p.length≤l.length∧l.take p.length=p)=decide (l.take p.length=p):=by simp[h1]
  rw[e];simp only[WX,B87,d1,s1]
 ·have d1:decide ((p.length:Int)≤(l.length:Int))=false:=ag (by omega);have e:decide (p.length≤l.length∧l.take p.length=p)=false:=ag (fun hh=>h1 hh.1);rw[e];simp only[WX,B87,d1]
def RG:List V→Option V
 |[v,w]=>(qM v).bind fun l=>(qM w).bind fun p=>some (.b (decide (p.length≤l.length∧l.take p.length=p)))
 |_=>none
theorem aS6(l p:List UInt8):RG [sV l,sV p]=some (.b (decide (p.length≤l.length∧l.take p.length=p))):=by
 show(qM (sV l)).bind (fun l=>(qM (sV p)).bind fun p=>some (V.b (decide (p.length≤l.length∧l.take p.length=p))))=_
 rw[lJ,Option.bind_some,lJ,Option.bind_some]
def as1:CC:=(.reg [(qq a4 (.mv xF))])
def as2:CC:=(.reg [(qq a5 (.mv z0)),(qq a6 (.mv z1)),(ee a7 (.call 87 [z5,z6])),(qq a4 (.mv z7))])
def c73:CF:= .mk 4 [.t a4] (.seq as1 (.seq as2 .ret))
theorem e73(v0 v1:V):bz 4 [v0,v1]=(.n (.n re (some v1) re) (some v0) jp):=rfl
def B73:=ai @e73 (ai (wu as1.eq_1) (wu as2.eq_1))
def as9:CC:=(.reg [(qq a4 (.mv (x6 0)))])
def at2:CC:=(.reg [(qq a5 (.mv z0)),(qq a6 (.mv z1)),(ee a7 (.call 88 [z5,z6])),(qq a4 (.mv z7))])
def c76:CF:= .mk 4 [.t a4] (.seq as9 (.seq at2 .ret))
theorem e76(v0 v1:V):bz 4 [v0,v1]=(.n (.n re (some v1) re) (some v0) jp):=rfl
def B76:=ai @e76 (ai (wu as9.eq_1) (wu at2.eq_1))
def as7:CC:=(.reg [(qq a3 (.mv z0)),(qq a4 (.bi .gtr z3 (.c (.i .u8 32)))),(qq a5 (.mv z4)),(aF a6 (.mv z0) a5),(aF a7 (.bi .lss z6 (.c (.i .u8 127))) a5),(qq a8 (.pk z5 z7 xF)),(qq a9 (.mv z8)),(aF dT (.mv z0) a9),(lW eP (.call 76 [(.c (.s 8 2603404095485934631)),ft]) a9),(aF fg (.bi .lss dL (x6 0)) a9),(qq eQ (.pk z9 eN xF)),(qq a2 (.mv ed))])
def as8:CC:=(.seq (.reg [(qq a2 (.mv xF))]) (.seq as7 .ret))
def c75:CF:= .mk 4 [.t a2] as8
theorem e75(v0:V):bz 4 [v0]=(.n jp (some v0) jp):=rfl
def B75:=ai @e75 (ai (wu as7.eq_1) (wu as8.eq_1))
def au2:CC:=(.reg [(qq a3 (.mv z0)),(qq a4 (.bi .geq z3 (.c (.i .u8 32)))),(qq a5 (.mv z4)),(aF a6 (.mv z0) a5),(aF a7 (.bi .lss z6 (.c (.i .u8 127))) a5),(qq a8 (.pk z5 z7 xF)),(qq a9 (.mv z8)),(aF dT (.mv z0) a9),(aF eP (.bi .neq ft (.c (.i .u8 39))) a9),(qq fg (.pk z9 dL xF)),(qq a2 (.mv eN))])
def au3:CC:=(.seq (.reg [(qq a2 (.mv xF))]) (.seq au2 .ret))
def c78:CF:= .mk 4 [.t a2] au3
theorem e78(v0:V):bz 4 [v0]=(.n jp (some v0) jp):=rfl
def B78:=ai @e78 (ai (wu au2.eq_1) (wu au3.eq_1))
def aq6:CC:=(.reg [(qq a5 (.bi .eql z3 (.c (.i .u8 39)))),(qq a4 (.mv z5))])
def aq7:CC:=(.reg [(qq a6 (.bi .eql z3 (.c (.i .u8 124)))),(qq a4 (.mv z6))])
def aq8:CC:=(.reg [(qq a7 (.bi .eql z3 (.c (.i .u8 60)))),(qq a4 (.mv z7))])
def aq9:CC:=(.reg [(qq a8 (.bi .eql z3 (.c (.i .u8 62)))),(qq a4 (.mv z8))])
def ar0:CC:=(.reg [(qq a9 (.bi .eql z3 (.c (.i .u8 59)))),(qq a4 (.mv z9))])
def ar1:CC:=(.reg [(qq dT (.bi .eql z3 (.c (.i .u8 38)))),(qq a4 (.mv ft))])
def ar2:CC:=(.reg [(qq eP (.bi .eql z3 (.c (.i .u8 33)))),(qq a4 (.mv dL))])
def ar3:CC:=(.reg [(qq fg (.bi .eql z3 (.c (.i .u8 36)))),(qq a4 (.mv eN))])
def ar4:CC:=(.cond z4 .skip (.seq ar2 (.cond z4 .skip ar3)))
def Qo:CC:=(.seq ar0 (.cond z4 .skip (.seq ar1 ar4)))
def Qp:CC:=(.cond z4 .skip (.seq aq9 (.cond z4 .skip Qo)))
def Qq:CC:=(.seq aq7 (.cond z4 .skip (.seq aq8 Qp)))
def Qr:CC:=(.seq (.reg [(qq a2 (.mv xF))]) .ret)
def Qs:CC:=(.seq (.seq aq6 (.cond z4 .skip Qq)) (.cond z4 Qr .skip))
def Qt:CC:=(.seq (.reg [(qq a3 (.mv z0))]) (.block 0 Qs))
def Qu:CC:=(.reg [(qq eQ (.mv z0)),(qq fh (.bi .geq ed (.c (.i .u8 33)))),(qq dM (.mv gb)),(aF fu (.mv z0) dM),(aF gL (.bi .leq iA (.c (.i .u8 126))) dM),(qq fy (.pk gK iB xF)),(qq a2 (.mv iC))])
def Qv:CC:=(.seq (.reg [(qq a2 (.mv xF))]) (.seq Qt (.seq Qu .ret)))
def c68:CF:= .mk 5 [.t a2] Qv
theorem e68(v0:V):bz 5 [v0]=(.n ow (some v0) ow):=rfl
def Vj:=ai @e68 (ai (wu aq6.eq_1) (ai (wu aq7.eq_1) (ai (wu aq8.eq_1) (ai (wu aq9.eq_1) (ai (wu ar0.eq_1) (ai (wu ar1.eq_1) (ai (wu ar2.eq_1) (ai (wu ar3.eq_1) (ai (wu ar4.eq_1) (ai (wu Qo.eq_1) (ai (wu Qp.eq_1) (ai (wu Qq.eq_1) (ai (wu Qr.eq_1) (ai (wu Qs.eq_1) (ai (wu Qt.eq_1) (ai (wu Qu.eq_1) (wu Qv.eq_1)))))))))))))))))
def ar5:CC:=(.reg [(qq a3 (.mv z0)),(qq a4 (.bi .geq z3 (.c (.i .u8 32)))),(qq a5 (.mv z4)),(aF a6 (.mv z0) a5),(aF a7 (.bi .leq z6 (.c (.i .u8 126))) a5),(qq a8 (.pk z5 z7 xF)),(qq a9 (.mv z8)),(aF dT (.mv z0) a9),(aF eP (.bi .neq ft (.c (.i .u8 39))) a9),(qq fg (.pk z9 dL xF)),(qq a2 (.mv eN))])
def ar6:CC:=(.seq (.reg [(qq a2 (.mv xF))]) (.seq ar5 .ret))
def c69:CF:= .mk 4 [.t a2] ar6
theorem e69(v0:V):bz 4 [v0]=(.n jp (some v0) jp):=rfl
def B69:=ai @e69 (ai (wu ar5.eq_1) (wu ar6.eq_1))
def Bt(p l:List UInt8):Bool:=decide (p.length≤l.length∧l.take p.length=p)
theorem t73(Φ:Nat→Option CF)(h:Φ 73=some c73)(RG:Φ 87=some (.orc (aO RG)))(l p:List UInt8)(ct:Nat):To Φ 73 [sV l,sV p] ct (.b (Bt p l)):=by
 refine eL h ?_
 have h1:=aS6 l p
 simp only[WX,B73,RG,h1]
 rfl
def h73:List V→Option V
 |[v,w]=>(qM v).bind fun l=>(qM w).bind fun p=>some (V.b (Bt p l))
 |_=>none
theorem RE(l p:List UInt8):h73 [sV l,sV p]=some (V.b (Bt p l)):=by
 show(qM (sV l)).bind (fun l=>(qM (sV p)).bind fun p=>some (V.b (Bt p l)))=_
 rw[lJ,Option.bind_some,lJ,Option.bind_some]
theorem t76(Φ:Nat→Option CF)(h:Φ 76=some c76)(h88:Φ 88=some (.orc (aO h88)))(l:List UInt8)(b:UInt8)(ct:Nat):To Φ 76 [sV l,bV b] ct (.i .i64 (v8 (v7 b l 0))):=by
 refine eL h ?_
 have h1:=Dg l b
 simp only[WX,B76,h88,h1]
def mi(b:UInt8):Bool:=decide (32<b.toNat)&&(decide (b.toNat<127)&&decide (v8 (v7 b [39,124,60,62,59,38,33,36] 0)<0))
def ka(b:UInt8):Bool:=decide (32≤b.toNat)&&(decide (b.toNat<127)&&decide (b.toNat≠39))
theorem aX6:V.s 8 2603404095485934631=sV [39,124,60,62,59,38,33,36]:=rfl
theorem t75(Φ:Nat→Option CF)(h:Φ 75=some c75)(h76:Φ 76=some (.orc (aO h88)))(b:UInt8)(ct:Nat):To Φ 75 [bV b] ct (.b (mi b)):=by
 refine eL h ?_
 have h1:=Dg [39,124,60,62,59,38,33,36] b
 rw[←aX6]at h1
 have hb:bV b= .i .u8 (b.toNat:Int):=rfl
 have hlt:=UInt8.toNat_lt b
 have d1:decide ((32:Int)<(b.toNat:Int))=decide (32<b.toNat):=by congr 1;exact propext (by omega)
 have d2:decide ((b.toNat:Int)<127)=decide (b.toNat<127):=by congr 1;exact propext (by omega)
 unfold mi
 rw[hb]at h1⊢
 cases x1:decide (32<b.toNat)with
 |false=>simp only[WX,B75,d1,x1,Bool.false_and]
 |true=>
  cases x2:decide (b.toNat<127)with
  |false=>simp only[WX,B75,d1,d2,x1,x2,Bool.false_and]
  |true=>simp only[WX,B75,h76,h1,d1,d2,x1,x2]
theorem t78(Φ:Nat→Option CF)(h:Φ 78=some c78)(b:UInt8)(ct:Nat):To Φ 78 [bV b] ct (.b (ka b)):=by
 refine eL h ?_
 have hb:bV b= .i .u8 (b.toNat:Int):=rfl
 have hlt:=UInt8.toNat_lt b
 have d1:decide ((32:Int)≤(b.toNat:Int))=decide (32≤b.toNat):=by congr 1;exact propext (by omega)
 have d2:decide ((b.toNat:Int)<127)=decide (b.toNat<127):=by congr 1;exact propext (by omega)
 have d3:decide ((b.toNat:Int)≠39)=decide (b.toNat≠39):=by congr 1;exact propext (by omega)
 unfold ka
 rw[hb]
 cases x1:decide (32≤b.toNat)with
 |false=>simp only[WX,B78,d1,x1,Bool.false_and]
 |true=>
  cases x2:decide (b.toNat<127)with
  |false=>simp only[WX,B78,d1,d2,x1,x2,Bool.false_and]
  |true=>simp only[WX,B78,d1,d2,d3,x1,x2]
theorem t69(Φ:Nat→Option CF)(h:Φ 69=some c69)(b:UInt8)(ct:Nat):To Φ 69 [bV b] ct (.b (ka b)):=by
 refine eL h ?_
 have hb:bV b= .i .u8 (b.toNat:Int):=rfl
 have hlt:=UInt8.toNat_lt b
 have d1:decide ((32:Int)≤(b.toNat:Int))=decide (32≤b.toNat):=by congr 1;exact propext (by omega)
 have d2:decide ((b.toNat:Int)≤126)=decide (b.toNat<127):=by congr 1;exact propext (by omega)
 have d3:decide ((b.toNat:Int)≠39)=decide (b.toNat≠39):=by congr 1;exact propext (by omega)
 unfold ka
 rw[hb]
 cases x1:decide (32≤b.toNat)with
 |false=>simp only[WX,B69,d1,x1,Bool.false_and]
 |true=>
  cases x2:decide (b.toNat<127)with
  |false=>simp only[WX,B69,d1,d2,x1,x2,Bool.false_and]
  |true=>simp only[WX,B69,d1,d2,d3,x1,x2]
theorem aV4(b:UInt8):mi b=(!(decide (b.toNat=39)||(decide (b.toNat=124)||(decide (b.toNat=60)||(decide (b.toNat=62)||(decide (b.toNat=59)||(decide (b.toNat=38)||(decide (b.toNat=33)||decide (b.toNat=36))))))))&&(decide (33≤b.toNat)&&decide (b.toNat≤126))):=by
 have key:∀n,n<256→mi (UInt8.ofNat n)=(!(decide ((UInt8.ofNat n).toNat=39)||(decide ((UInt8.ofNat n).toNat=124)||(decide ((UInt8.ofNat n).toNat=60)||(decide ((UInt8.ofNat n).toNat=62)||(decide ((UInt8.ofNat n).toNat=59)||(decide ((UInt8.ofNat n).toNat=38)||(decide ((UInt8.ofNat n).toNat=33)||decide ((UInt8.ofNat n).toNat=36))))))))&&(decide (33≤(UInt8.ofNat n).toNat)&&decide ((UInt8.ofNat n).toNat≤126))):=by decide+kernel
 have:=key b.toNat (UInt8.toNat_lt b)
 rwa [UInt8.ofNat_toNat]at this
theorem t68(Φ:Nat→Option CF)(h:Φ 68=some c68)(b:UInt8)(ct:Nat):To Φ 68 [bV b] ct (.b (mi b)):=by
 refine eL h ?_
 have hb:bV b= .i .u8 (b.toNat:Int):=rfl
 have q:∀k:Nat,decide ((b.toNat:Int)=(k:Int))=decide (b.toNat=k):=fun k=>by congr 1;exact propext (by omega)
 have q1:=q 39;have q2:=q 124;have q3:=q 60;have q4:=q 62;have q5:=q 59;have q6:=q 38;have q7:=q 33;have q8:=q 36
 have d1:decide ((33:Int)≤(b.toNat:Int))=decide (33≤b.toNat):=by congr 1;exact propext (by omega)
 have d2:decide ((b.toNat:Int)≤126)=decide (b.toNat≤126):=by congr 1;exact propext (by omega)
 simp only[Int.cast_ofNat_Int]at q1 q2 q3 q4 q5 q6 q7 q8
 rw[aV4,hb]
 generalize decide (b.toNat=39)=y1 at q1⊢
 generalize decide (b.toNat=124)=y2 at q2⊢
 generalize decide (b.toNat=60)=y3 at q3⊢
 generalize decide (b.toNat=62)=y4 at q4⊢
 generalize decide (b.toNat=59)=y5 at q5⊢
 generalize decide (b.toNat=38)=y6 at q6⊢
 generalize decide (b.toNat=33)=y7 at q7⊢
 generalize decide (b.toNat=36)=y8 at q8⊢
 generalize decide (33≤b.toNat)=z1 at d1⊢
 generalize decide (b.toNat≤126)=z2 at d2⊢
 cases y1 with
 |true=>simp only[WX,Vj,q1,Bool.true_or,Bool.false_and]
 |false=>
  cases y2 with
  |true=>simp only[WX,Vj,q1,q2,Bool.true_or,Bool.false_or,Bool.false_and]
  |false=>
   cases y3 with
   |true=>simp only[WX,Vj,q1,q2,q3,Bool.true_or,Bool.false_or,Bool.false_and]
   |false=>
    cases y4 with
    |true=>simp only[WX,Vj,q1,q2,q3,q4,Bool.true_or,Bool.false_or,Bool.false_and]
    |false=>
     cases y5 with
     |true=>simp only[WX,Vj,q1,q2,q3,q4,q5,Bool.true_or,Bool.false_or,Bool.false_and]
     |false=>
      cases y6 with
      |true=>simp only[WX,Vj,q1,q2,q3,q4,q5,q6,Bool.true_or,Bool.false_or,Bool.false_and]
      |false=>
       cases y7 with
       |true=>simp only[WX,Vj,q1,q2,q3,q4,q5,q6,q7,Bool.true_or,Bool.false_or,Bool.false_and]
       |false=>
        cases y8 with
        |true=>simp only[WX,Vj,q1,q2,q3,q4,q5,q6,q7,q8,Bool.false_or,Bool.false_and]
        |false=>
         cases z1 with
         |false=>simp only[WX,Vj,q1,q2,q3,q4,q5,q6,q7,q8,d1,Bool.false_or,Bool.false_and]
         |true=>simp only[WX,Vj,q1,q2,q3,q4,q5,q6,q7,q8,d1,d2,Bool.false_or]
abbrev aD4(u:List (Option V))(x0 x1 x7 x8:V):T:=(.n (.n (.n (.n (gq u 15) (some x7) (gq u 23)) (uO u 3) (fq u 19 11 27)) (some x1) (aq u 17 9 25 5 21 13 29)) (some x0) (.n (.n (.n (gq u 16) (some x8) (gq u 24)) (uO u 4) (fq u 20 12 28)) (uO u 2) (aq u 18 10 26 6 22 14 30)))
abbrev bG2(u:List (Option V))(x0 x5 x6 x7:V):T:=(.n (.n (.n (.n (gq u 15) (some x7) (gq u 23)) (uO u 3) (fq u 19 11 27)) (uO u 1) (.n (fq u 17 9 25) (some x5) (fq u 21 13 29))) (some x0) (.n (aq u 16 8 24 4 20 12 28) (uO u 2) (.n (fq u 18 10 26) (some x6) (fq u 22 14 30))))
def at3:CC:=(.reg [(qq a4 (.mv xF))])
def at4:CC:=(.reg [(qq a6 (.mv z0)),(qq a7 (.ln .str z6)),(qq a8 (.mv (x6 0)))])
def at5:CC:=(.reg [(qq a9 (.bi .lss z8 z7))])
def at6:CC:=(.reg [(qq dT (.mv z8)),(qq a5 (.mv ft))])
def at7:CC:=(.reg [(qq eP (.mv z1)),(qq fg (.mv z0)),(qq eQ (.mv z5)),(qq fh (.ixS eN ed)),(ee dM (.cv dL [gb])),(qq fu (.un .not gK))])
def at8:CC:=(.reg [(qq a4 (.mv xF))])
def at9:CC:=(.seq at7 (.cond iA (.seq at8 .ret) .skip))
def au0:CC:=(.reg [(qq gL (.bi .add z8 (x6 1))),(qq a8 (.mv iB))])
def au1:CC:=(.seq (.cond z9 .skip (.exit 0)) (.seq (.block 1 (.seq at6 at9)) au0))
def Qw:CC:=(.reg [(qq a4 (.mv xT))])
def Qx:CC:=(.seq (.seq at4 (.block 0 (.loop (.seq at5 au1)))) (.seq Qw .ret))
def c77:CF:= .mk 5 [.t a4] (.seq at3 Qx)
theorem e77(v0 v1:V):bz 5 [v0,v1]=(.n (.n jp (some v1) jp) (some v0) ow):=rfl
def Yp:=ai @e77 (ai (wu at3.eq_1) (ai (wu at4.eq_1) (ai (wu at5.eq_1) (ai (wu at6.eq_1) (ai (wu at7.eq_1) (ai (wu at8.eq_1) (ai (wu at9.eq_1) (ai (wu au0.eq_1) (ai (wu au1.eq_1) (ai (wu Qw.eq_1) (wu Qx.eq_1)))))))))))
def ai4:CC:=(.reg [(aa a5 (.bsl 9 8 1 [(.s 0 0)] [(0,(.c (.s 2 15934))),(1,(.c (.s 2 9766))),(2,(.c (.s 2 31868))),(3,(.c (.s 1 124))),(4,(.c (.s 1 60))),(5,(.c (.s 1 62))),(6,(.c (.s 1 59))),(7,(.c (.s 1 33)))])),(qq a6 (.ln .slice z5)),(qq a7 (.mv (x6 0)))])
def ai5:CC:=(.reg [(qq a8 (.bi .lss z7 z6))])
def ai6:CC:=(.reg [(qq a9 (.iaS 1 z5 z7)),(qq dT (.ld1 z9)),(qq a4 (.mv ft))])
def ai7:CC:=(.reg [(qq eP (.mv z0)),(qq fg (.mv z4)),(ee eQ (.call 73 [dL,eN]))])
def ai8:CC:=(.reg [(qq fh (.mv z4)),(qq a2 (.mv gb))])
def ai9:CC:=(.seq ai7 (.cond ed (.seq ai8 .ret) .skip))
def aj0:CC:=(.reg [(qq dM (.bi .add z7 (x6 1))),(qq a7 (.mv gK))])
def aj1:CC:=(.seq (.cond z8 .skip (.exit 0)) (.seq (.block 1 (.seq ai6 ai9)) aj0))
def aj2:CC:=(.seq (.reg [(qq a2 (.mv (.c (.s 0 0))))]) .ret)
def O3:CC:=(.seq (.seq ai4 (.block 0 (.loop (.seq ai5 aj1)))) aj2)
def O4:CC:=(.seq (.reg [(qq a2 (.mv (.c (.s 0 0))))]) O3)
def c55:CF:= .mk 5 [.t a2] O4
theorem e55(v0:V):bz 5 [v0]=(.n ow (some v0) ow):=rfl
def B55:=ai @e55 (ai (wu ai4.eq_1) (ai (wu ai5.eq_1) (ai (wu ai6.eq_1) (ai (wu ai7.eq_1) (ai (wu ai8.eq_1) (ai (wu ai9.eq_1) (ai (wu aj0.eq_1) (ai (wu aj1.eq_1) (ai (wu aj2.eq_1) (ai (wu O3.eq_1) (wu O4.eq_1)))))))))))
def ag1:CC:=(.reg [(qq a3 (.mv z0)),(qq a4 (.ln .str z3)),(qq a5 (.bi .geq z4 (x6 2))),(qq a6 (.mv z5)),(aF a7 (.mv z0) a6),(aF a8 (.slS z7 none (some (x6 2))) a6),(aF a9 (.bi .eql z8 (.c (.s 2 15934))) a6),(aF dT (.mv z9) a6),(aA eP (.mv z0) dT),(aA fg (.slS dL none (some (x6 2))) dT),(aA eQ (.bi .eql eN (.c (.s 2 9766))) dT),(aF fh (.pk ft xT ed) a6),(aF dM (.mv gb) a6),(aA fu (.mv z0) dM),(aA gL (.slS iA none (some (x6 2))) dM),(aA fy (.bi .eql iB (.c (.s 2 31868))) dM),(aF jr (.pk gK xT iC) a6),(qq gH (.pk z6 l8 xF))])
def ag2:CC:=(.reg [(qq fY (.mv z0)),(qq jt (.slS kL none (some (x6 2)))),(qq a2 (.mv lA))])
def ag3:CC:=(.seq ag1 (.cond la (.seq ag2 .ret) .skip))
def ag4:CC:=(.reg [(qq gU (.mv z0)),(qq jX (.ixS lg (x6 0)))])
def ag5:CC:=(.reg [(qq kd (.bi .eql kM (.c (.i .u8 124)))),(qq gv (.mv nl))])
def ag6:CC:=(.reg [(qq gV (.bi .eql kM (.c (.i .u8 60)))),(qq gv (.mv nn))])
def ag7:CC:=(.reg [(qq lE (.bi .eql kM (.c (.i .u8 62)))),(qq gv (.mv nK))])
def ag8:CC:=(.reg [(qq ip (.bi .eql kM (.c (.i .u8 59)))),(qq gv (.mv ot))])
def ag9:CC:=(.reg [(qq ke (.bi .eql kM (.c (.i .u8 33)))),(qq gv (.mv oz))])
def NT:CC:=(.seq ag8 (.cond lB .skip ag9))
def NU:CC:=(.seq ag7 (.cond lB .skip NT))
def NW:CC:=(.seq ag6 (.cond lB .skip NU))
def NX:CC:=(.seq ag5 (.cond lB .skip NW))
def NY:CC:=(.reg [(qq lj (.mv z0)),(qq np (.slS pq none (some (x6 1)))),(qq a2 (.mv pz))])
def NZ:CC:=(.cond lB (.seq NY .ret) .skip)
def O0:CC:=(.seq (.reg [(qq a2 (.mv (.c (.s 0 0))))]) .ret)
def O1:CC:=(.seq ag3 (.seq (.seq ag4 (.block 0 (.seq NX NZ))) O0))
def O2:CC:=(.seq (.reg [(qq a2 (.mv (.c (.s 0 0))))]) O1)
def c44:CF:= .mk 6 [.t a2] O2
theorem e44(v0:V):bz 6 [v0]=(.n qw (some v0) qw):=rfl
def BG:=ai @e44 (ai (wu ag1.eq_1) (ai (wu ag2.eq_1) (ai (wu ag3.eq_1) (ai (wu ag4.eq_1) (ai (wu ag5.eq_1) (ai (wu ag6.eq_1) (ai (wu ag7.eq_1) (ai (wu ag8.eq_1) (ai (wu ag9.eq_1) (ai (wu NT.eq_1) (ai (wu NU.eq_1) (ai (wu NW.eq_1) (ai (wu NX.eq_1) (ai (wu NY.eq_1) (ai (wu NZ.eq_1) (ai (wu O0.eq_1) (ai (wu O1.eq_1) (wu O2.eq_1))))))))))))))))))
def h75:List V→Option V
 |[v]=>(Vk v).bind fun b=>some (V.b (mi b))
 |_=>none
theorem Df(b:UInt8):h75 [bV b]=some (V.b (mi b)):=by
 show(Vk (bV b)).bind (fun b=>some (V.b (mi b)))=_
 rw[JB,Option.bind_some]
def h78:List V→Option V
 |[v]=>(Vk v).bind fun b=>some (V.b (ka b))
 |_=>none
theorem RF(b:UInt8):h78 [bV b]=some (V.b (ka b)):=by
 show(Vk (bV b)).bind (fun b=>some (V.b (ka b)))=_
 rw[JB,Option.bind_some]
theorem t77(Φ:Nat→Option CF)(h:Φ 77=some c77)(h78:Φ 78=some (.orc (aO h78)))(l:List UInt8)(hl:l.length≤1000000)(ct:Nat):To Φ 77 [sV l,.f 78 [] []] ct (.b (l.all ka)):=by
 refine eL h ?_
 simp only[WX,Yp]
 obtain⟨I1,hI1⟩:∃I:Nat→St→Prop,∀n s',I n s'↔(∃(i:Nat) (u:List (Option V)),n=l.length-i∧i≤l.length∧s'= .mk ((aD4 u (sV l) (.f 78 [] []) (.i .i64 (l.length:Int)) (.i .i64 (i:Int)))) [] .e ct∧l.all ka=(l.drop i).all ka):=⟨fun n s'=>_,fun _ _=>Iff.rfl⟩
 refine bw I1 ?_ l.length _ ((hI1 _ _).2 ⟨0,(G2 (X4 (X1 (G2 (bB (X4 (X2 []))))))),rfl,ax _,rfl,by rw[List.drop_zero]⟩)
 intro n s' hIs
 obtain⟨i,u,rfl,hi,rfl,hb⟩:=(hI1 _ _).1 hIs
 clear hIs
 have q8:cz .add (.i .i64 (i:Int)) (.i .i64 1)=some (.i .i64 ((i+1:Nat):Int)):=by rw[aX _ _ (by omega) (by omega)];simp
 by_cases hlt:i<l.length
 ·have d1:decide ((i:Int)<(l.length:Int))=true:=ah (by omega);have hix:rK (sV l) (.i .i64 (i:Int))=some (bV l[i]):=ye l .i64 i hlt;have hd:l.drop i=l[i]::l.drop (i+1):=bX hlt;have hh:=RF l[i];cases ho:ka l[i]with
  |true=>
   rw[ho]at hh;simp only[WX,Yp,d1,hix,h78,hh,q8];exact⟨l.length-(i+1),by omega,(hI1 _ _).2 ⟨i+1,(G2 (X4 (X1 (G2 (bB (X4 (X2 []))))))),rfl,by omega,rfl,by rw[hb,hd,List.all_cons,ho,Bool.true_and]⟩⟩
  |false=>
   rw[ho]at hh;rw[show l.all ka=false by rw[hb,hd,List.all_cons,ho,Bool.false_and]];simp only[WX,Yp,d1,hix,h78,hh]
 ·obtain rfl:i=l.length:=by omega
  have d1:decide ((l.length:Int)<(l.length:Int))=false:=ag (by omega);rw[show l.all ka=true by rw[hb,cm];rfl];simp only[WX,Yp,d1]
theorem ce8(Φ:Nat→Option CF)(h:Φ 77=some c77)(h75:Φ 75=some (.orc (aO h75)))(l:List UInt8)(hl:l.length≤1000000)(ct:Nat):To Φ 77 [sV l,.f 75 [] []] ct (.b (l.all mi)):=by
 refine eL h ?_
 simp only[WX,Yp]
 obtain⟨I1,hI1⟩:∃I:Nat→St→Prop,∀n s',I n s'↔(∃(i:Nat) (u:List (Option V)),n=l.length-i∧i≤l.length∧s'= .mk ((aD4 u (sV l) (.f 75 [] []) (.i .i64 (l.length:Int)) (.i .i64 (i:Int)))) [] .e ct∧l.all mi=(l.drop i).all mi):=⟨fun n s'=>_,fun _ _=>Iff.rfl⟩
 refine bw I1 ?_ l.length _ ((hI1 _ _).2 ⟨0,(G2 (X4 (X1 (G2 (bB (X4 (X2 []))))))),rfl,ax _,rfl,by rw[List.drop_zero]⟩)
 intro n s' hIs
 obtain⟨i,u,rfl,hi,rfl,hb⟩:=(hI1 _ _).1 hIs
 clear hIs
 have q8:cz .add (.i .i64 (i:Int)) (.i .i64 1)=some (.i .i64 ((i+1:Nat):Int)):=by rw[aX _ _ (by omega) (by omega)];simp
 by_cases hlt:i<l.length
 ·have d1:decide ((i:Int)<(l.length:Int))=true:=ah (by omega);have hix:rK (sV l) (.i .i64 (i:Int))=some (bV l[i]):=ye l .i64 i hlt;have hd:l.drop i=l[i]::l.drop (i+1):=bX hlt;have hh:=Df l[i];cases ho:mi l[i]with
  |true=>
   rw[ho]at hh;simp only[WX,Yp,d1,hix,h75,hh,q8];exact⟨l.length-(i+1),by omega,(hI1 _ _).2 ⟨i+1,(G2 (X4 (X1 (G2 (bB (X4 (X2 []))))))),rfl,by omega,rfl,by rw[hb,hd,List.all_cons,ho,Bool.true_and]⟩⟩
  |false=>
   rw[ho]at hh;rw[show l.all mi=false by rw[hb,hd,List.all_cons,ho,Bool.false_and]];simp only[WX,Yp,d1,hix,h75,hh]
 ·obtain rfl:i=l.length:=by omega
  have d1:decide ((l.length:Int)<(l.length:Int))=false:=ag (by omega);rw[show l.all mi=true by rw[hb,cm];rfl];simp only[WX,Yp,d1]
def gG(l:List (List UInt8)):List (List V):=l.map fun w=>[sV w]
theorem qz{F:RO}{M:Mem}{c:Nat}{v:V}{l:List (List UInt8)}(hs:cA F M c 1 v (gG l))(i:Nat)(hi:i<l.length):
 ∃b o,b<c∧(∀k,fF 1 v (.i k (i:Int))=some (.p b o))∧load1 F M b o=some (sV l[i]):=
 cA.one hs i (by simpa [gG]using hi) (by simp[gG])
def IZ:List (List UInt8):=[[62,62],[38,38],[124,124],[124],[60],[62],[59],[33]]
def yG(l:List UInt8):List UInt8:=(IZ.find? fun x=>Bt x l).getD []
theorem r55(Φ:Nat→Option CF)(h:Φ 55=some c55)(h73:Φ 73=some (.orc (aO h73))){F:RO}{M:Mem}{c:Nat}(ok:cK F M c)(l:List UInt8):
 Calls Φ F 55 [sV l] M c fun r _ _=>r=sV (yG l):=by
 refine aN h ?_
 simp only[WX,Nat.reduceAdd,B55]
 have hs:cA F (M.set c (d7 [V.s 0 0] 9 [V.s 2 15934,V.s 2 9766,V.s 2 31868,V.s 1 124,V.s 1 60,V.s 1 62,V.s 1 59,V.s 1 33])) (c+1) 1 (.l c 0 8 8) (gG IZ):=J0 (d:=[V.s 0 0]) (ty:=9) ((am _ _ _).trans (by rfl)) (by omega) (by intro e he;obtain⟨x,_,rfl⟩:=List.mem_map.1 he;rfl) rfl
 generalize M.set c (d7 [V.s 0 0] 9 [V.s 2 15934,V.s 2 9766,V.s 2 31868,V.s 1 124,V.s 1 60,V.s 1 62,V.s 1 59,V.s 1 33])=M1 at hs⊢
 have h8:((8:Nat):Int)=8:=rfl
 obtain⟨I1,hI1⟩:∃I:Nat→St→Prop,∀n s',I n s'↔(∃(i:Nat) (u:List (Option V)),n=8-i∧i≤8∧s'= .mk ((bG2 u (sV l) (.l c 0 8 8) (.i .i64 ((8:Nat):Int)) (.i .i64 (i:Int)))) [] M1 (c+1)∧yG l=((IZ.drop i).find? fun x=>Bt x l).getD []):=⟨fun n s'=>_,fun _ _=>Iff.rfl⟩
 refine bw I1 ?_ 8 _ ((hI1 _ _).2 ⟨0,(G1 (X4 (G2 (G1 (bB (X4 (X2 (X1 [])))))))),rfl,ax _,rfl,rfl⟩)
 intro n s' hIs
 obtain⟨i,u,rfl,hi,rfl,hb⟩:=(hI1 _ _).1 hIs
 clear hIs
 have q8:cz .add (.i .i64 (i:Int)) (.i .i64 1)=some (.i .i64 ((i+1:Nat):Int)):=by rw[aX _ _ (by omega) (by omega)];simp
 by_cases hlt:i<8
 ·have d1:decide ((i:Int)<((8:Nat):Int))=true:=ah (by omega);have hlt':i<IZ.length:=hlt;obtain⟨bb,oo,_,hia,hld⟩:=qz hs i hlt';have hia:=hia .i64;have hd:IZ.drop i=IZ[i]::IZ.drop (i+1):=bX hlt';have hh:=RE l IZ[i];rw[hd,List.find?_cons]at hb;cases ho:Bt IZ[i] l with
  |true=>
   rw[ho]at hh hb;simp only[WX,B55,d1,hia,hld,h73,hh];rw[hb];rfl
  |false=>
   rw[ho]at hh hb;simp only[WX,B55,d1,hia,hld,h73,hh,q8];exact⟨8-(i+1),by omega,(hI1 _ _).2 ⟨i+1,(G1 (X4 (G2 (G1 (bB (X4 (X2 (X1 [])))))))),rfl,by omega,rfl,hb⟩⟩
 ·obtain rfl:i=8:=by omega
  have d1:decide (((8:Nat):Int)<((8:Nat):Int))=false:=ag (by omega);simp only[WX,B55,d1];rw[hb];rfl
def h55:List V→Option V
 |[v]=>(qM v).bind fun l=>some (sV (yG l))
 |_=>none
theorem RD(l:List UInt8):h55 [sV l]=some (sV (yG l)):=by
 show(qM (sV l)).bind (fun l=>some (sV (yG l)))=_
 rw[lJ,Option.bind_some]
def cL:List UInt8→List UInt8
 |[]=>[]
 |[a]=>if a=124∨a=60∨a=62∨a=59∨a=33 then[a]else[]
 |a::b::_=>if(a=62∧b=62)∨(a=38∧b=38)∨(a=124∧b=124)then[a,b]else if a=124∨a=60∨a=62∨a=59∨a=33 then[a]else[]
theorem aV2(x y a b:UInt8)(l:List UInt8):Bt [x,y] (a::b::l)=(decide (a=x)&&decide (b=y)):=by
 unfold Bt
 rw[←Bool.decide_and]
 congr 1
 simp
theorem bD7(x a:UInt8)(l:List UInt8):Bt [x] (a::l)=decide (a=x):=by
 unfold Bt
 congr 1
 simp
theorem aC0(x y a:UInt8):Bt [x,y] [a]=false:=ag (by simp)
theorem Xh(x:UInt8)(p:List UInt8):Bt (x::p) []=false:=ag (by simp)
theorem T3:∀l:List UInt8,yG l=cL l
 |[]=>by unfold yG IZ;simp only[List.find?,Xh];rfl
 |[a]=>by
  unfold yG IZ cL;simp only[List.find?,aC0,bD7];by_cases e1:a=124
  ·subst e1;rfl
  ·by_cases e2:a=60
   ·subst e2;rfl
   ·by_cases e3:a=62
    ·subst e3;rfl
    ·by_cases e4:a=59
     ·subst e4;rfl
     ·by_cases e5:a=33
      ·subst e5;rfl
      ·simp[e1,e2,e3,e4,e5]
 |a::b::r=>by
  unfold yG IZ cL;simp only[List.find?,aV2,bD7];by_cases e1:a=124
  ·subst e1;by_cases f:b=124
   ·subst f;rfl
   ·simp[f]
  ·by_cases e3:a=62
   ·subst e3;by_cases f:b=62
    ·subst f;rfl
    ·simp[f]
   ·by_cases e6:a=38
    ·subst e6;by_cases f:b=38
     ·subst f;rfl
     ·simp[f]
    ·by_cases e2:a=60
     ·subst e2;rfl
     ·by_cases e4:a=59
      ·subst e4;rfl
      ·by_cases e5:a=33
       ·subst e5;rfl
       ·simp[e1,e2,e3,e4,e5,e6]
def sg1(n:Nat):Bool:=decide (n=124)||(decide (n=60)||(decide (n=62)||(decide (n=59)||decide (n=33))))
theorem G7(a:UInt8):cL [a]=if a=124∨a=60∨a=62∨a=59∨a=33 then[a]else[]:=rfl
theorem pl(a b:UInt8)(r:List UInt8):cL (a::b::r)=if(a=62∧b=62)∨(a=38∧b=38)∨(a=124∧b=124)then[a,b]else if a=124∨a=60∨a=62∨a=59∨a=33 then[a]else[]:=rfl
theorem ud{a b:UInt8}{r:List UInt8}(h:(decide ([a,b]=[62,62])||(decide ([a,b]=[38,38])||decide ([a,b]=[124,124])))=true):cL (a::b::r)=[a,b]:=by
 rw[pl,ac (by simpa using h)]
theorem G6(a:UInt8):sg1 a.toNat=true↔a=124∨a=60∨a=62∨a=59∨a=33:=by
 have q:∀k:UInt8,(a.toNat=k.toNat)↔a=k:=fun k=>UInt8.toNat_inj
 have q1:=q 124;have q2:=q 60;have q3:=q 62;have q4:=q 59;have q5:=q 33
 simp only[UInt8.reduceToNat]at q1 q2 q3 q4 q5
 unfold sg1
 simp only[Bool.or_eq_true,decide_eq_true_eq,q1,q2,q3,q4,q5]
theorem AG{a:UInt8}{t:List UInt8}(h:t=[]∨ ∃b r,t=b::r∧(decide ([a,b]=[62,62])||(decide ([a,b]=[38,38])||decide ([a,b]=[124,124])))=false):cL (a::t)=if sg1 a.toNat=true then[a]else[]:=by
 have key:(if a=124∨a=60∨a=62∨a=59∨a=33 then[a]else[])=if sg1 a.toNat=true then[a]else[]:=by
  by_cases hs:sg1 a.toNat=true
  ·rw[ac hs,ac ((G6 a).1 hs)]
  ·rw[ab hs,ab (fun e=>hs ((G6 a).2 e))]
 rcases h with rfl|⟨b,r,rfl,h⟩
 ·rw[G7,key]
 ·rw[pl,ab (by intro hh;rw[←Bool.not_eq_true]at h;exact h (by simpa using hh)),key]
theorem t44(Φ:Nat→Option CF)(h:Φ 44=some c44)(a:UInt8)(t:List UInt8)(ht:t.length≤1000000)(ct:Nat):To Φ 44 [sV (a::t)] ct (sV (cL (a::t))):=by
 refine eL h ?_
 have hix:rK (sV (a::t)) (.i .i64 0)=some (.i .u8 (a.toNat:Int)):=ye (a::t) .i64 0 (by simp)
 have s1:yH (sV (a::t)) none (some (.i .i64 1))=some (sV [a]):=Tb (a::t) .i64 1 (by simp)
 have q:∀k:Nat,decide ((a.toNat:Int)=(k:Int))=decide (a.toNat=k):=fun k=>by congr 1;exact propext (by omega)
 have q1:=q 124;have q2:=q 60;have q3:=q 62;have q4:=q 59;have q5:=q 33
 simp only[Int.cast_ofNat_Int]at q1 q2 q3 q4 q5
 clear q
 have e1:V.s 2 15934=sV [62,62]:=rfl
 have e2:V.s 2 9766=sV [38,38]:=rfl
 have e3:V.s 2 31868=sV [124,124]:=rfl
 cases t with
 |nil=>
  obtain⟨n,hn⟩:∃n,n=([a]:List UInt8).length:=⟨_,rfl⟩
  have ln:=@aT5 [] [a];rw[←hn]at ln;have x0:decide ((2:Int)≤(n:Int))=false:=by rw[hn];rfl
  rw[AG (.inl rfl)];unfold sg1;generalize decide (a.toNat=124)=w1 at q1⊢;generalize decide (a.toNat=60)=w2 at q2⊢;generalize decide (a.toNat=62)=w3 at q3⊢;generalize decide (a.toNat=59)=w4 at q4⊢;generalize decide (a.toNat=33)=w5 at q5⊢;cases w1 with
  |true=>simp only[WX,BG,ln,x0,hix,s1,q1,Bool.true_or]
  |false=>
   cases w2 with
   |true=>simp only[WX,BG,ln,x0,hix,s1,q1,q2,Bool.true_or,Bool.or_true]
   |false=>
    cases w3 with
    |true=>simp only[WX,BG,ln,x0,hix,s1,q1,q2,q3,Bool.true_or,Bool.or_true]
    |false=>
     cases w4 with
     |true=>simp only[WX,BG,ln,x0,hix,s1,q1,q2,q3,q4,Bool.true_or,Bool.or_true]
     |false=>
      cases w5 with
      |true=>simp only[WX,BG,ln,x0,hix,s1,q1,q2,q3,q4,q5,Bool.or_true]
      |false=>
       simp only[WX,BG,ln,x0,hix,q1,q2,q3,q4,q5,Bool.or_false];rfl
 |cons b r=>
  obtain⟨n,hn⟩:∃n,n=(a::b::r).length:=⟨_,rfl⟩
  have ln:=@aT5 [] (a::b::r);rw[←hn]at ln;have x0:decide ((2:Int)≤(n:Int))=true:=ah (by rw[hn,av,av];omega);have s2:yH (sV (a::b::r)) none (some (.i .i64 2))=some (sV [a,b]):=Tb (a::b::r) .i64 2 (by simp);have p1:=cG [a,b] [62,62];have p2:=cG [a,b] [38,38];have p3:=cG [a,b] [124,124];rw[←e1]at p1;rw[←e2]at p2;rw[←e3]at p3;cases y1:decide ([a,b]=[62,62])with
  |true=>
   rw[y1]at p1;rw[ud (by rw[y1];rfl)];simp only[WX,BG,ln,x0,s2,p1]
  |false=>
   rw[y1]at p1;cases y2:decide ([a,b]=[38,38])with
   |true=>
    rw[y2]at p2;rw[ud (by rw[y1,y2];rfl)];simp only[WX,BG,ln,x0,s2,p1,p2]
   |false=>
    rw[y2]at p2;cases y3:decide ([a,b]=[124,124])with
    |true=>
     rw[y3]at p3;rw[ud (by rw[y1,y2,y3];rfl)];simp only[WX,BG,ln,x0,s2,p1,p2,p3]
    |false=>
     rw[y3]at p3;rw[AG (.inr ⟨b,r,rfl,by rw[y1,y2,y3];rfl⟩)];unfold sg1;generalize decide (a.toNat=124)=w1 at q1⊢;generalize decide (a.toNat=60)=w2 at q2⊢;generalize decide (a.toNat=62)=w3 at q3⊢;generalize decide (a.toNat=59)=w4 at q4⊢;generalize decide (a.toNat=33)=w5 at q5⊢;cases w1 with
     |true=>simp only[WX,BG,ln,x0,s2,p1,p2,p3,hix,s1,q1,Bool.true_or]
     |false=>
      cases w2 with
      |true=>simp only[WX,BG,ln,x0,s2,p1,p2,p3,hix,s1,q1,q2,Bool.true_or,Bool.or_true]
      |false=>
       cases w3 with
       |true=>simp only[WX,BG,ln,x0,s2,p1,p2,p3,hix,s1,q1,q2,q3,Bool.true_or,Bool.or_true]
       |false=>
        cases w4 with
        |true=>simp only[WX,BG,ln,x0,s2,p1,p2,p3,hix,s1,q1,q2,q3,q4,Bool.true_or,Bool.or_true]
        |false=>
         cases w5 with
         |true=>simp only[WX,BG,ln,x0,s2,p1,p2,p3,hix,s1,q1,q2,q3,q4,q5,Bool.or_true]
         |false=>
          simp only[WX,BG,ln,x0,s2,p1,p2,p3,hix,q1,q2,q3,q4,q5,Bool.or_false];rfl
abbrev Pc:=List UInt8×Bool
def ve(p:Pc):List V:=[sV p.1,.b p.2]
def jm(w:List Pc):List (List V):=w.map ve
def qn(t:List UInt8):Nat:=(t.takeWhile ka).length
theorem yy(x:UInt8)(t:List UInt8):qn (x::t)=if ka x=true then qn t+1 else 0:=by
 unfold qn
 rw[List.takeWhile_cons]
 split<;>rfl
def stW:List UInt8→Option (Option (Nat×List UInt8×Bool))
 |[]=>none
 |c::t=>if c=32∨cL (c::t)≠[]∨c=38 then none
  else if c=39 then(if(t.drop (qn t)).head?=some 39 then some (some (qn t+1,t.take (qn t),false))else some none)
  else if c=36 then(if t.head?=some 63 then some (some (1,[],true))else some none)
  else if mi c=true then some (some (0,[c],false))else some none
theorem Ec{r:List UInt8}{x:Option (Nat×List UInt8×Bool)}(h:stW r=some x):0<r.length:=by
 cases r with
 |nil=>cases h
 |cons c t=>simp
def nF(w:List Pc)(text:List UInt8)(sm:Bool):List Pc:=if text≠[]∨(sm=true∧w=[])then w++[(text,false)]else w
def gQ(w:List Pc)(text:List UInt8):List Pc:=(if text≠[]then w++[(text,false)]else w)++[([],true)]
def Bu:Nat→List UInt8→List Pc→List UInt8→Bool→Nat→Option (List Pc×Nat)
 |0,_,_,_,_,_=>none
 |f+1,r,w,text,sm,n=>match stW r with
  |none=>some (nF w text sm,n)
  |some none=>none
  |some (some (k,bs,true))=>Bu f (r.drop (k+1)) (gQ w text) [] false (n+(k+1))
  |some (some (k,bs,false))=>Bu f (r.drop (k+1)) w (text++bs) true (n+(k+1))
theorem p8:∀(f g:Nat) (r:List UInt8) (w:List Pc) (text:List UInt8) (sm:Bool) (n:Nat),r.length<f→r.length<g→Bu f r w text sm n=Bu g r w text sm n
 |0,_,_,_,_,_,_,h,_=>by omega
 |_,0,_,_,_,_,_,_,h=>by omega
 |f+1,g+1,r,w,text,sm,n,h1,h2=>by
  unfold Bu;cases hs:stW r with
  |none=>rfl
  |some x=>
   have hr:=Ec hs
   match x with
   |none=>rfl
   |some (k,bs,true)=>exact p8 f g _ _ _ _ _ (by rw[bC];omega) (by rw[bC];omega)
   |some (k,bs,false)=>exact p8 f g _ _ _ _ _ (by rw[bC];omega) (by rw[bC];omega)
def iP(r:List UInt8)(w:List Pc)(text:List UInt8)(sm:Bool)(n:Nat):Option (List Pc×Nat):=Bu (r.length+1) r w text sm n
theorem u4{r:List UInt8}{w:List Pc}{text:List UInt8}{sm:Bool}{n:Nat}(h:stW r=none):iP r w text sm n=some (nF w text sm,n):=by
 unfold iP Bu;rw[h]
theorem FT{r:List UInt8}{w:List Pc}{text:List UInt8}{sm:Bool}{n:Nat}(h:stW r=some none):iP r w text sm n=none:=by
 unfold iP Bu;rw[h]
theorem Aw{r:List UInt8}{w:List Pc}{text bs:List UInt8}{sm:Bool}{n k:Nat}(h:stW r=some (some (k,bs,true))):iP r w text sm n=iP (r.drop (k+1)) (gQ w text) [] false (n+(k+1)):=by
 have hr:=Ec h
 unfold iP
 rw[Bu,h]
 exact p8 _ _ _ _ _ _ _ (by rw[bC];omega) (by omega)
theorem p9{r:List UInt8}{w:List Pc}{text bs:List UInt8}{sm:Bool}{n k:Nat}(h:stW r=some (some (k,bs,false))):iP r w text sm n=iP (r.drop (k+1)) w (text++bs) true (n+(k+1)):=by
 have hr:=Ec h
 unfold iP
 rw[Bu,h]
 exact p8 _ _ _ _ _ _ _ (by rw[bC];omega) (by omega)
def h44:List V→Option V
 |[v]=>(qM v).bind fun l=>match l with|[]=>none|a::t=>if t.length≤1000000 then some (sV (cL (a::t)))else none
 |_=>none
def WdP(F:RO)(s:List UInt8)(c:Nat)(r:V)(M':Mem)(c':Nat):Prop:=(∃ps n v,iP s [] [] false 0=some (ps,n)∧n≤s.length∧r= .t [.g [v],.i .i64 (n:Int)]∧ ∃b,bm M' c c' b 64 2 v (jm ps))∨(iP s [] [] false 0=none∧r= .t [.g [.l0],.i .i64 0])
theorem Xg(w:List Pc)(p:Pc):jm (w++[p])=jm w++[ve p]:=by unfold jm;rw[List.map_append];rfl
theorem dv(w:List Pc):(jm w).length=w.length:=List.length_map ..
theorem VT{M:Mem}{c0 c b:Nat}{v:V}{w:List Pc}(h:bm M c0 c b 64 2 v (jm w)):uK v=some (.i .i64 (w.length:Int)):=by
 have:=(h.sl (F:=[])).len;rwa [dv]at this
theorem kf{M:Mem}{c0 c b:Nat}{v:V}{w:List Pc}(h:bm M c0 c b 64 2 v (jm w)):bO v=true∧flatten v=[v]∧aL [v]=true:=by
 rcases h with⟨_,⟨_,rfl⟩|⟨_,_,rfl,_⟩⟩<;>exact⟨rfl,rfl,rfl⟩
theorem sj{F:RO}{M1:Mem}{c0 c1 b1:Nat}{v:V}{w:List Pc}(p:Pc)(hA:bm M1 c0 c1 b1 64 2 v (jm w))(ok1:cK F M1 c1)(h0:c0≤c1)(hw:w.length≤1000000):
 lw (rB F (M1.set c1 (d7 [V.s 0 0,V.b false] 64 [sV p.1,.b p.2])) (c1+1) 64 2 24 v (.l c1 0 1 1)) fun v' M' c'=>∃b',bm M' c0 c' b' 64 2 v' (jm (w++[p]))∧Gr c0 M1 c' M'∧c1+1≤c'∧(∀x,x<c1→x≠b1→M'.get x=M1.get x):=by
 have grY:Gr c0 M1 (c1+1) (M1.set c1 (d7 [V.s 0 0,V.b false] 64 [sV p.1,.b p.2])):=⟨by omega,fun b hb=>ak _ _ (by omega),fun b hb=>by rw[ak _ _ (by omega)];exact ok1.hiM b (by omega)⟩
 have hy:cA F (M1.set c1 (d7 [V.s 0 0,V.b false] 64 [sV p.1,.b p.2])) (c1+1) 2 (.l c1 0 1 1) (jm [p]):=J0 (d:=[V.s 0 0,V.b false]) (ty:=64) (by rw[am];rfl) (by omega) (fun e he=>by obtain⟨x,_,rfl⟩:=List.mem_map.1 he;rfl) rfl
 refine(hJ (bytes:=24) (hA.up (show c1≤c1+1 by omega) (fun hx=>ak _ _ (by omega))) (c0:=c0) (M0:=M1) grY (by decide) hy rfl (fP (by rw[dv,dv];simp;omega) (by rw[dv,dv];simp;omega))).mono ?_
 rintro v' M' c' ⟨b',h1,h2,h3,h4,_⟩
 exact⟨b',by rw[Xg];exact h1,h2,h3,fun x hx hb=>(h4 x (by omega) hb).trans (ak _ _ (by omega))⟩
theorem EX{M:Mem}{c0 c0' c b ty sz:Nat}{v:V}{es:List (List V)}(h:bm M c0 c b ty sz v es)(hx:c0'≤c0):bm M c0' c b ty sz v es:=by
 rcases h with⟨h0,h|⟨h1,h2,h3,h4⟩⟩
 ·exact⟨h0,.inl h⟩
 ·exact⟨h0,.inr ⟨by omega,h2,h3,h4⟩⟩
theorem lH{M:Mem}{c0 c1 b x ty sz:Nat}{y:bJ}{v:V}{es:List (List V)}(h:bm M c0 c1 b ty sz v es)(hx:x<c0):bm (M.set x y) c0 c1 b ty sz v es:=by
 rcases h with⟨h0,h|⟨h1,h2,h3,h4⟩⟩
 ·exact⟨h0,.inl h⟩
 ·exact⟨h0,.inr ⟨h1,h2,h3,by rw[ak _ _ (by omega)];exact h4⟩⟩
theorem Ge(c:UInt8)(t:List UInt8):stW (c::t)=if c=32∨cL (c::t)≠[]∨c=38 then none
 else if c=39 then(if(t.drop (qn t)).head?=some 39 then some (some (qn t+1,t.take (qn t),false))else some none)
 else if c=36 then(if t.head?=some 63 then some (some (1,[],true))else some none)
 else if mi c=true then some (some (0,[c],false))else some none:=rfl
theorem aY0{t:List UInt8}(h:¬((39:UInt8)=32∨cL (39::t)≠[]∨(39:UInt8)=38)):stW (39::t)=if(t.drop (qn t)).head?=some 39 then some (some (qn t+1,t.take (qn t),false))else some none:=by
 rw[Ge,ab h,ac rfl]
theorem Eb{t:List UInt8}(h:¬((36:UInt8)=32∨cL (36::t)≠[]∨(36:UInt8)=38)):stW (36::t)=if t.head?=some 63 then some (some (1,[],true))else some none:=by
 rw[Ge,ab h,ab (by decide),ac rfl]
theorem aD2{x:UInt8}{t:List UInt8}(h:¬(x=32∨cL (x::t)≠[]∨x=38))(h1:x≠39)(h2:x≠36):stW (x::t)=if mi x=true then some (some (0,[x],false))else some none:=by
 rw[Ge,ab h,ab h1,ab h2]
theorem aY2{x:UInt8}{t:List UInt8}(h:x=32∨cL (x::t)≠[]∨x=38):stW (x::t)=none:=by
 rw[Ge,ac h]
def as3:CC:=(.reg [(qq a5 (.ld1 z0)),(qq a6 (.ln .slice z5)),(qq a7 (.bi .gtr z6 (x6 0))),(qq a8 (.mv z7)),(aA a9 (.ld1 z1) a8),(aA dT (.mv z9) a8),(aF eP (.ld1 z2) dT),(aF fg (.ln .slice dL) dT),(aF eQ (.bi .eql eN (x6 0)) dT),(aA fh (.pk ft ed xF) a8),(aA dM (.mv gb) a8),(aF fu (.ld1 z3) dM),(aF gL (.ld1 z4) dM),(aF fy (.ln .str iB) dM),(aF jr (.bi .geq iA iC) dM),(aF gH (.mv l8) dM),(aA fY (.ld1 z4) gH),(aA jt (.ld1 z3) gH),(aA gU (.ixS kL lA) gH),(aA jX (.bi .neq lg (.c (.i .u8 36))) gH),(aF gv (.pk la xT kM) dM),(aA kd (.pk gK lB xF) a8),(qq gV (.pk z8 xT nl))])
def as4:CC:=(.reg [(qq lE (.ld1 z2)),(qq ip (.ld1 z0)),(qq ke (.bs ot)),(qq lj (.bld [(.s 0 0),(.b false)] [(0,1,oz)])),(aa np (.bsl 64 1 2 [(.s 0 0),(.b false)] [(0,pq)])),(ee nM (.app 64 2 24 nK pz)),(ez (.st 1 z2 ru))])
def as5:CC:=(.seq as3 (.cond nn as4 .skip))
def as6:CC:=(.reg [(ez (.st 1 z0 (.c .l0))),(ez (.st 1 z1 xF))])
def W6:CF:= .mk 6 [] (.seq as5 as6)
theorem e74(v0 v1 v2 v3 v4:V):bz 6 [v0,v1,v2,v3,v4]=(.n (.n (.n jp (some v3) jp) (some v1) ow) (some v0) (.n (.n jp (some v4) jp) (some v2) ow)):=rfl
def VB:=ai @e74 (ai (wu as3.eq_1) (ai (wu as4.eq_1) (ai (wu as5.eq_1) (wu as6.eq_1))))
def bE(l:List UInt8):List (List V):=l.map fun x=>[bV x]
theorem nP(l:List UInt8):(bE l).length=l.length:=List.length_map ..
def WS(M0:Mem)(b:Nat)(s:List UInt8)(M:Mem)(c1:Nat)(w:List Pc)(text:List UInt8)(sm:Bool)(i:Nat):Prop:=
 ∃(v tv:V) (p1 p2:Nat),Gr b M0 c1 M∧b+6≤c1∧M.get b=some (af 9 [sV s])∧M.get (b+1)=some (af 36 [.l0])∧M.get (b+2)=some (af 34 [v])∧M.get (b+3)=some (af 96 [tv])∧M.get (b+4)=some (af 4 [.b sm])∧M.get (b+5)=some (af 3 [.i .i64 (i:Int)])∧bm M (b+6) c1 p1 64 2 v (jm w)∧bm M (b+6) c1 p2 5 1 tv (bE text)
def RA(w:List Pc)(text:List UInt8)(sm:Bool)(d:Bool):List Pc:=if text≠[]∨(sm=true∧w=[]∧d=false)then w++[(text,false)]else w
theorem BN{M:Mem}{c0 c1 p1 p2:Nat}{v tv:V}{w:List Pc}{text:List UInt8}(h1:bm M c0 c1 p1 64 2 v (jm w))(h2:bm M c0 c1 p2 5 1 tv (bE text)):tv= .l0∧text=[]∨v= .l0∧w=[]∨p1≠p2:=by
 rcases h2 with⟨_,⟨e2,rfl⟩|⟨_,_,_,g2⟩⟩
 ·exact .inl ⟨rfl,List.map_eq_nil_iff.1 e2⟩
 ·rcases h1 with⟨_,⟨e1,rfl⟩|⟨_,_,_,g1⟩⟩
  ·exact .inr (.inl ⟨rfl,List.map_eq_nil_iff.1 e1⟩)
  ·refine .inr (.inr fun e=>?_);subst e;rw[g1]at g2;injection g2 with g2
   injection g2 with g3
   cases g3
theorem cN{M:Mem}{c0 c1 b x ty sz:Nat}{y:bJ}{v:V}{es:List (List V)}(h:bm M c0 c1 b ty sz v es)(hx:x<c0):bm (M.set x y) c0 c1 b ty sz v es:=by
 rcases h with⟨h0,h|⟨h1,h2,h3,h4⟩⟩
 ·exact⟨h0,.inl h⟩
 ·exact⟨h0,.inr ⟨h1,h2,h3,by rw[ak _ _ (by omega)];exact h4⟩⟩
theorem yT{M0 M3:Mem}{b c2 b2 i:Nat}{s:List UInt8}{W:List Pc}{v':V}(gr:Gr b M0 c2 M3)(h6:b+6≤c2)(m0:M3.get b=some (af 9 [sV s]))(m1:M3.get (b+1)=some (af 36 [.l0]))(m2:M3.get (b+2)=some (af 34 [v']))(m5:M3.get (b+5)=some (af 3 [.i .i64 (i:Int)]))(hA:bm M3 (b+6) c2 b2 64 2 v' (jm W)):
 WS M0 b s ((M3.set (b+3) (af 96 [.l0])).set (b+4) (af 4 [.b false])) c2 W [] false i:=
 ⟨v',.l0,b2,0,(gr.set (b+3) _ (by omega) (by omega) (aj _)).set (b+4) _ (by omega) (by omega) (aj _),h6,by rw[ak _ _ (by omega),ak _ _ (by omega)];exact m0,by rw[ak _ _ (by omega),ak _ _ (by omega)];exact m1,by rw[ak _ _ (by omega),ak _ _ (by omega)];exact m2,by rw[ak _ _ (by omega)];exact am _ _ _,am _ _ _,by rw[ak _ _ (by omega),ak _ _ (by omega)];exact m5,cN (cN hA (by omega)) (by omega),bm.nil⟩
theorem r74(Φ:Nat→Option CF)(h:Φ 74=some W6){F:RO}{M0 M:Mem}{b c1 i:Nat}{s text:List UInt8}{w:List Pc}{sm:Bool}(ok0:cK F M0 b)(hi:i≤s.length)(hs:s.length≤400000)(hw:w.length≤1000000)(ht:text.length≤1000000)(hW:WS M0 b s M c1 w text sm i):
 Calls Φ F 74 [.p (b+3) 0,.p (b+4) 0,.p (b+2) 0,.p (b+5) 0,.p b 0] M c1 fun r M' c'=>WS M0 b s M' c' (RA w text sm (decide (s[i]?=some 36))) [] false i∧c1≤c':=by
 refine aN h ?_
 obtain⟨v,tv,p1,p2,gr,h6,m0,m1,m2,m3,m4,m5,hA,hT⟩:=hW
 have ok1:=gr.ok ok0
 have l0:load1 F M b 0=some (sV s):=au m0 0
 have l2:load1 F M (b+2) 0=some v:=au m2 0
 have l3:load1 F M (b+3) 0=some tv:=au m3 0
 have l4:load1 F M (b+4) 0=some (.b sm):=au m4 0
 have l5:load1 F M (b+5) 0=some (.i .i64 (i:Int)):=au m5 0
 have hlt:uK tv=some (.i .i64 (text.length:Int)):=by have:=(hT.sl (F:=[])).len;rwa [nP]at this
 have hlv:=VT hA
 have st3:=aJ m3 0 [V.l0] (by simp) rfl
 have st4:=aJ ((ak M (af 96 [V.l0]) (show b+4≠b+3 by omega)).trans m4) 0 [V.b false] (by simp) rfl
 have NOP:∀W,W=w→WS M0 b s ((M.set (b+3) (af 96 [V.l0])).set (b+4) (af 4 [V.b false])) c1 W [] false i:=fun W e=>by rw[e];exact yT (b2:=p1) gr h6 m0 m1 m2 m5 hA
 by_cases htn:text=[]
 ·have d1:decide ((0:Int)<(text.length:Int))=false:=ag (by rw[htn];simp);cases sm with
  |false=>
   simp only[WX,VB,l3,hlt,d1,l4,st3,st4];exact⟨NOP _ (ab (by simp[htn])),aj _⟩
  |true=>
   by_cases hwn:w=[]
   ·have d2:decide ((w.length:Int)=0)=true:=ah (by rw[hwn];rfl);have hbs:bsV F M tv=some (sV text):=ay7 hT.sl;have hF:∀w,flatten (sV w)=[sV w]:=fun _=>rfl;have hO:∀w,bO (sV w)=true:=fun _=>rfl;have hR:∀t,eX [V.s 0 0,V.b false] 0 [sV t]=some [sV t,V.b false]:=fun _=>rfl;have hG:∀t,flatten (V.g [sV t,V.b false])=[sV t,V.b false]:=fun _=>rfl;by_cases hil:i<s.length
    ·have d3:decide ((s.length:Int)≤(i:Int))=false:=ag (by omega);have hix:rK (sV s) (.i .i64 (i:Int))=some (.i .u8 ((s[i]).toNat:Int)):=ye s .i64 i hil;have hg:s[i]?=some s[i]:=List.getElem?_eq_getElem hil;by_cases h36:s[i]=36
     ·have d4:decide (((s[i]).toNat:Int)≠36)=false:=ag (fun hh=>hh (by rw[h36];rfl));simp only[WX,VB,l3,hlt,d1,l4,l2,hlv,d2,l5,l0,d3,hix,d4,st3,st4];exact⟨NOP _ (ab (by rw[hg,h36];simp[htn])),aj _⟩
     ·have d4:decide (((s[i]).toNat:Int)≠36)=true:=ah (fun hh=>h36 (UInt8.toNat_inj.1 (by rw[show(36:UInt8).toNat=36 from rfl];omega)));simp only[WX,Nat.reduceAdd,VB,l3,hlt,d1,l4,l2,hlv,d2,l5,l0,d3,hix,d4,hbs,hF,hO,hR,hG];refine aD ((sj (text,false) hA ok1 h6 hw).mono ?_);rintro v' M2 c2 ⟨b2,hA2,gr2,hle2,hold⟩;obtain⟨w1,w2,w3⟩:=kf hA2;have n2:=(gr2.old (b+2) (by omega)).trans m2;have st2:=aJ n2 0 [v'] (by simp) w3;have st3:=aJ ((ak M2 (af 34 [v']) (show b+3≠b+2 by omega)).trans ((gr2.old (b+3) (by omega)).trans m3)) 0 [V.l0] (by simp) rfl;have st4:=aJ ((ak (M2.set (b+2) (af 34 [v'])) (af 96 [V.l0]) (show b+4≠b+3 by omega)).trans ((ak M2 (af 34 [v']) (show b+4≠b+2 by omega)).trans ((gr2.old (b+4) (by omega)).trans m4))) 0 [V.b false] (by simp) rfl;simp only[WX,VB,w2,st2,st3,st4];refine⟨?_,by omega⟩;rw[show RA w text true (decide (s[i]?=some 36))=w++[(text,false)]from ac (.inr ⟨rfl,hwn,by rw[hg];exact ag (fun hh=>h36 (ae hh))⟩)];exact yT (b2:=b2) ⟨by omega,fun x hx=>by rw[ak _ _ (by omega),gr2.old x (by omega),gr.old x hx],fun x hx=>by rw[ak _ _ (by omega)];exact gr2.new x hx⟩ (by omega) (by rw[ak _ _ (by omega)];exact(gr2.old b (by omega)).trans m0) (by rw[ak _ _ (by omega)];exact(gr2.old (b+1) (by omega)).trans m1) (am _ _ _) (by rw[ak _ _ (by omega)];exact(gr2.old (b+5) (by omega)).trans m5) (cN hA2 (by omega))
    ·have d3:decide ((s.length:Int)≤(i:Int))=true:=ah (by omega);have hg:s[i]?=none:=List.getElem?_eq_none (by omega);simp only[WX,Nat.reduceAdd,VB,l3,hlt,d1,l4,l2,hlv,d2,l5,l0,d3,hbs,hF,hO,hR,hG];refine aD ((sj (text,false) hA ok1 h6 hw).mono ?_);rintro v' M2 c2 ⟨b2,hA2,gr2,hle2,hold⟩;obtain⟨w1,w2,w3⟩:=kf hA2;have n2:=(gr2.old (b+2) (by omega)).trans m2;have st2:=aJ n2 0 [v'] (by simp) w3;have st3:=aJ ((ak M2 (af 34 [v']) (show b+3≠b+2 by omega)).trans ((gr2.old (b+3) (by omega)).trans m3)) 0 [V.l0] (by simp) rfl;have st4:=aJ ((ak (M2.set (b+2) (af 34 [v'])) (af 96 [V.l0]) (show b+4≠b+3 by omega)).trans ((ak M2 (af 34 [v']) (show b+4≠b+2 by omega)).trans ((gr2.old (b+4) (by omega)).trans m4))) 0 [V.b false] (by simp) rfl;simp only[WX,VB,w2,st2,st3,st4];refine⟨?_,by omega⟩;rw[show RA w text true (decide (s[i]?=some 36))=w++[(text,false)]from ac (.inr ⟨rfl,hwn,by rw[hg];rfl⟩)];exact yT (b2:=b2) ⟨by omega,fun x hx=>by rw[ak _ _ (by omega),gr2.old x (by omega),gr.old x hx],fun x hx=>by rw[ak _ _ (by omega)];exact gr2.new x hx⟩ (by omega) (by rw[ak _ _ (by omega)];exact(gr2.old b (by omega)).trans m0) (by rw[ak _ _ (by omega)];exact(gr2.old (b+1) (by omega)).trans m1) (am _ _ _) (by rw[ak _ _ (by omega)];exact(gr2.old (b+5) (by omega)).trans m5) (cN hA2 (by omega))
   ·have d2:decide ((w.length:Int)=0)=false:=ag (fun e=>hwn (List.length_eq_zero_iff.1 (by omega)));simp only[WX,VB,l3,hlt,d1,l4,l2,hlv,d2,st3,st4];exact⟨NOP _ (ab (by simp[htn,hwn])),aj _⟩
 ·have d1:decide ((0:Int)<(text.length:Int))=true:=ah (by have:text.length≠0:=fun e=>htn (List.length_eq_zero_iff.1 e);omega);have hbs:bsV F M tv=some (sV text):=ay7 hT.sl;have hF:∀w,flatten (sV w)=[sV w]:=fun _=>rfl;have hO:∀w,bO (sV w)=true:=fun _=>rfl;have hR:∀t,eX [V.s 0 0,V.b false] 0 [sV t]=some [sV t,V.b false]:=fun _=>rfl;have hG:∀t,flatten (V.g [sV t,V.b false])=[sV t,V.b false]:=fun _=>rfl;simp only[WX,Nat.reduceAdd,VB,l3,hlt,d1,l2,hbs,hF,hO,hR,hG];refine aD ((sj (text,false) hA ok1 h6 hw).mono ?_);rintro v' M2 c2 ⟨b2,hA2,gr2,hle2,hold⟩;obtain⟨w1,w2,w3⟩:=kf hA2;have n2:=(gr2.old (b+2) (by omega)).trans m2;have st2:=aJ n2 0 [v'] (by simp) w3;have st3:=aJ ((ak M2 (af 34 [v']) (show b+3≠b+2 by omega)).trans ((gr2.old (b+3) (by omega)).trans m3)) 0 [V.l0] (by simp) rfl;have st4:=aJ ((ak (M2.set (b+2) (af 34 [v'])) (af 96 [V.l0]) (show b+4≠b+3 by omega)).trans ((ak M2 (af 34 [v']) (show b+4≠b+2 by omega)).trans ((gr2.old (b+4) (by omega)).trans m4))) 0 [V.b false] (by simp) rfl;simp only[WX,VB,w2,st2,st3,st4];refine⟨?_,by omega⟩;rw[show RA w text sm (decide (s[i]?=some 36))=w++[(text,false)]from ac (.inl htn)];exact yT (b2:=b2) ⟨by omega,fun x hx=>by rw[ak _ _ (by omega),gr2.old x (by omega),gr.old x hx],fun x hx=>by rw[ak _ _ (by omega)];exact gr2.new x hx⟩ (by omega) (by rw[ak _ _ (by omega)];exact(gr2.old b (by omega)).trans m0) (by rw[ak _ _ (by omega)];exact(gr2.old (b+1) (by omega)).trans m1) (am _ _ _) (by rw[ak _ _ (by omega)];exact(gr2.old (b+5) (by omega)).trans m5) (cN hA2 (by omega))
abbrev jN(u:List (Option V))(x1 x2 x4 x5 x6 x7 x9:V):T:=(.n (.n (.n (.n (aq u 63 31 95 15 79 47 111) (some x7) (aq u 71 39 103 23 87 55 119)) (uO u 3) (.n (aq u 67 35 99 19 83 51 115) (uO u 11) (aq u 75 43 107 27 91 59 123))) (some x1) (.n (.n (aq u 65 33 97 17 81 49 113) (some x9) (aq u 73 41 105 25 89 57 121)) (some x5) (.n (aq u 69 37 101 21 85 53 117) (uO u 13) (aq u 77 45 109 29 93 61 125)))) (uO u 0) (.n (.n (.n (aq u 64 32 96 16 80 48 112) (uO u 8) (aq u 72 40 104 24 88 56 120)) (some x4) (.n (aq u 68 36 100 20 84 52 116) (uO u 12) (aq u 76 44 108 28 92 60 124))) (some x2) (.n (.n (aq u 66 34 98 18 82 50 114) (uO u 10) (aq u 74 42 106 26 90 58 122)) (some x6) (.n (aq u 70 38 102 22 86 54 118) (uO u 14) (aq u 78 46 110 30 94 62 126)))))
def aj3:CC:=(.reg [(aa a1 (.bx 9 1 z0)),(aa a2 (.al 36 [.l0])),(qq a3 (.mv (x6 0)))])
def bO1:=wu aj3.eq_1
def aj4:CC:=(.reg [(aa a6 (.al 4 [(.b false)])),(ez (.st 1 z6 xF))])
def aJ6:=wu aj4.eq_1
def aj5:CC:=(.reg [(aa a7 (.al 3 [(.i .i64 0)])),(ez (.st 1 z7 (x6 0))),(qq a8 (.mv (x6 0)))])
def aJ7:=wu aj5.eq_1
def aj6:CC:=(.reg [(qq dT (.mkf 74 [] [z5,z6,z4,z7,z1])),(qq a9 (.mv ft))])
def aJ8:=wu aj6.eq_1
def aj7:CC:=(.reg [(qq eP (.ld1 z7)),(qq fg (.ld1 z1)),(qq eQ (.ln .str eN)),(qq fh (.bi .eql dL ed)),(qq dM (.mv gb)),(aA fu (.ld1 z1) dM),(aA gL (.ld1 z7) dM),(aA fy (.ixS iA iB) dM),(aA jr (.bi .eql iC (.c (.i .u8 32))) dM),(qq gH (.pk gK xT l8)),(qq fY (.mv la)),(aA jt (.ld1 z1) fY),(aA gU (.ld1 z7) fY),(aA jX (.ixS lA lg) fY),(aA gv (.bi .eql kM (.c (.i .u8 38))) fY),(qq kd (.pk kL xT lB)),(qq gV (.mv nl)),(aA lE (.ld1 z1) gV),(aA ip (.ld1 z7) gV),(aA ke (.slS nK (some ot) none) gV),(lV lj (.call 55 [oz]) gV),(aA np (.bi .neq pq (.c (.s 0 0))) gV),(qq nM (.pk nn xT pz))])
def bO2:=wu aj7.eq_1
def OT:CC:=(.seq aj7 (.cond ru (.goto 0) .skip))
def bO3:=wu OT.eq_1
def aj8:CC:=(.reg [(qq nN (.ld1 z1)),(qq k8 (.ld1 z7)),(qq nq (.ixS sC qF)),(qq mN (.bi .eql rU (.c (.i .u8 39)))),(qq jZ (.mv rV))])
def bO4:=wu aj8.eq_1
def aj9:CC:=(.reg [(qq js (.ld1 z1)),(qq lF (.ld1 z7)),(qq pD (.slS ry (some sE) none)),(ee ng (.call 73 [sF,(.c (.s 2 16164))])),(qq pC (.mv rW))])
def bO5:=wu aj9.eq_1
def ak0:CC:=(.reg [(qq pE (.mv z9)),(ee lG (.cv rX []))])
def bO6:=wu ak0.eq_1
def O5:CC:=(.reg [(qq pF (.ld1 z4)),(qq kQ (.bld [(.s 0 0),(.b false)] [(1,1,xT)])),(aa nh (.bsl 64 1 2 [(.s 0 0),(.b false)] [(0,uE)])),(ee px (.app 64 2 24 sG vn)),(ez (.st 1 z4 vp))])
def bg3:=wu O5.eq_1
def O6:CC:=(.reg [(qq rA (.ld1 z7)),(qq oD (.bi .add uM (x6 2))),(ez (.st 1 z7 vq))])
def bg4:=wu O6.eq_1
def O7:CC:=(.reg [(qq pG (.ld1 z1)),(qq pH (.ld1 z7)),(qq uI (.ixS za zl)),(ee vw (.call 75 [wN])),(qq sP (.mv Bx))])
def bg5:=wu O7.eq_1
def O8:CC:=(.dreg 8 [(0,0,(qq vz (.ld1 z5))),(1,0,(qq rZ (.ld1 z1))),(2,0,(qq vA (.ld1 z7))),(3,6,(qq s5 (.ixS Be Bf))),(4,14,(aa sQ (.bsl 5 1 1 [(.i .u8 0)] [(0,Bz)]))),(5,31,(ee ou (.app 5 1 1 Bd Bg))),(6,63,(ez (.st 1 z5 zm))),(7,127,(ez (.st 1 z6 xT)))])
def bg6:=wu O8.eq_1
def O9:CC:=(.reg [(qq vC (.ld1 z7)),(qq uT (.bi .add BA (x6 1))),(ez (.st 1 z7 zb))])
def bg7:=wu O9.eq_1
def Oa:CC:=(.reg [(qq jY (.bld [.l0] [])),(ez (.st 1 z2 rv)),(qq a3 (.mv (x6 0)))])
def bg8:=wu Oa.eq_1
def Ob:CC:=(.cond wM (.seq O8 O9) (.seq Oa .ret))
def bg9:=wu Ob.eq_1
def Oc:CC:=(.cond sD (.seq ak0 (.seq O5 O6)) (.seq O7 Ob))
def bh0:=wu Oc.eq_1
def Od:CC:=(.cond rx (.goto 2) (.seq aj9 Oc))
def bh1:=wu Od.eq_1
def Oe:CC:=(.reg [(qq oE (.ld1 z1)),(qq qJ (.ld1 z7)),(qq uU (.bi .add wO (x6 1))),(qq uV (.slS zn (some zo) none)),(ee vD (.call 76 [zp,(.c (.i .u8 39))])),(qq a8 (.mv BB))])
def bh2:=wu Oe.eq_1
def Of:CC:=(.reg [(qq py (.mv z8)),(qq vE (.bi .lss Bh (x6 0))),(qq fA (.mv BC)),(aA qK (.ld1 z1) fA),(aA uJ (.ld1 z7) fA),(aA wW (.bi .add BE (x6 1)) fA),(aA zc (.ld1 z7) fA),(aA zd (.bi .add EK (x6 1)) fA),(aA ze (.mv z8) fA),(aA vF (.bi .add EL EM) fA),(aA zx (.slS BD (some BF) (some GB)) fA),(lV pI (.call 77 [GC,(.c (.f 78 [] []))]) fA),(aA uW (.un .not GD) fA),(qq BJ (.pk uF xT GE))])
def bh3:=wu Of.eq_1
def Og:CC:=(.reg [(qq wX (.bld [.l0] [])),(ez (.st 1 z2 GG)),(qq a3 (.mv (x6 0)))])
def bh4:=wu Og.eq_1
def Oh:CC:=(.cond GF (.seq Og .ret) .skip)
def bh5:=wu Oh.eq_1
def Oi:CC:=(.dreg 12 [(0,0,(qq BK (.ld1 z5))),(1,0,(qq BL (.ld1 z1))),(2,0,(qq sR (.ld1 z7))),(3,4,(qq EU (.bi .add IL (x6 1)))),(4,0,(qq GT (.ld1 z7))),(5,16,(qq EV (.bi .add J1 (x6 1)))),(6,0,(qq EW (.mv z8))),(7,112,(qq BM (.bi .add J2 J3))),(8,254,(qq GU (.slS GH (some IM) (some J4)))),(9,511,(ee Jp (.app 5 1 1 IK J5))),(10,1023,(ez (.st 1 z5 Vr))),(11,2047,(ez (.st 1 z6 xT)))])
def bh6:=wu Oi.eq_1
def Oj:CC:=(.reg [(qq zy (.ld1 z7)),(qq Jq (.mv z8)),(qq Jr (.bi .add Vt (x6 2))),(qq Js (.bi .add Vs Vu)),(ez (.st 1 z7 Vv))])
def bh7:=wu Oj.eq_1
def Ok:CC:=(.reg [(qq rz (.mv z9)),(ee iX (.cv uD []))])
def bh8:=wu Ok.eq_1
def Ol:CC:=(.dreg 5 [(0,0,(qq uN (.ld1 z4))),(1,1,(qq uP (.bld [.l0] [(0,1,yX)]))),(2,0,(qq uQ (.ld1 z7))),(3,3,(ez (.st 1 z2 yY))),(4,15,(qq a3 (.mv yZ)))])
def bh9:=wu Ol.eq_1
def Om:CC:=(.seq (.goto 1) (.seq .skip (.seq Ok (.seq Ol .ret))))
def bi0:=wu Om.eq_1
def On:CC:=(.seq (.seq Of Oh) (.seq Oi (.seq Oj Om)))
def bi1:=wu On.eq_1
def Cv:CC:=(.seq (.block 0 (.seq aj8 Od)) (.seq (.goto 1) (.seq .skip (.seq Oe On))))
def bi2:=wu Cv.eq_1
def Oo:CC:=(.seq aj4 (.seq aj5 (.seq aj6 (.seq .skip (.seq OT Cv)))))
def UH:=wu Oo.eq_1
def Oq:CC:=(.seq (.reg [(aa a5 (.al 96 [.l0]))]) Oo)
def UI:=wu Oq.eq_1
def Ot:CC:=(.seq (.reg [(aa a4 (.al 34 [.l0]))]) Oq)
def UJ:=wu Ot.eq_1
def Ou:CC:=(.reg [(qq eP (.ld1 z7)),(qq fg (.ld1 z1)),(qq eQ (.ln .str eN)),(qq fh (.bi .eql dL ed)),(qq dM (.mv gb)),(aA fu (.ld1 z1) dM),(aA gL (.ld1 z7) dM),(aA fy (.ixS iA iB) dM),(aA jr (.bi .eql iC (.c (.i .u8 32))) dM),(qq gH (.pk gK xT l8)),(qq fY (.mv la)),(aA jt (.ld1 z1) fY),(aA gU (.ld1 z7) fY),(aA jX (.ixS lA lg) fY),(aA gv (.bi .eql kM (.c (.i .u8 38))) fY),(qq kd (.pk kL xT lB)),(qq gV (.mv nl)),(aA lE (.ld1 z1) gV),(aA ip (.ld1 z7) gV),(aA ke (.slS nK (some ot) none) gV),(lV lj (.call 55 [oz]) gV),(aA np (.bi .neq pq (.c (.s 0 0))) gV),(qq nM (.pk nn xT pz))])
def og:=wu Ou.eq_1
def xD:CC:=(.seq Ou (.cond ru (.goto 0) .skip))
def oq:=wu xD.eq_1
def Ov:CC:=(.reg [(qq nN (.ld1 z1)),(qq k8 (.ld1 z7)),(qq nq (.ixS sC qF)),(qq mN (.bi .eql rU (.c (.i .u8 39)))),(qq jZ (.mv rV))])
def EA:=wu Ov.eq_1
def Ow:CC:=(.reg [(qq js (.ld1 z1)),(qq lF (.ld1 z7)),(qq pD (.slS ry (some sE) none)),(ee ng (.call 73 [sF,(.c (.s 2 16164))])),(qq pC (.mv rW))])
def EB:=wu Ow.eq_1
def Ox:CC:=(.reg [(qq pE (.mv z9)),(ee lG (.cv rX []))])
def UK:=wu Ox.eq_1
def Oy:CC:=(.reg [(qq pF (.ld1 z4)),(qq kQ (.bld [(.s 0 0),(.b false)] [(1,1,xT)])),(aa nh (.bsl 64 1 2 [(.s 0 0),(.b false)] [(0,uE)])),(ee px (.app 64 2 24 sG vn)),(ez (.st 1 z4 vp))])
def UL:=wu Oy.eq_1
def Oz:CC:=(.reg [(qq rA (.ld1 z7)),(qq oD (.bi .add uM (x6 2))),(ez (.st 1 z7 vq))])
def bi3:=wu Oz.eq_1
def OA:CC:=(.reg [(qq pG (.ld1 z1)),(qq pH (.ld1 z7)),(qq uI (.ixS za zl)),(ee vw (.call 75 [wN])),(qq sP (.mv Bx))])
def UM:=wu OA.eq_1
def Cw:CC:=(.dreg 8 [(0,0,(qq vz (.ld1 z5))),(1,0,(qq rZ (.ld1 z1))),(2,0,(qq vA (.ld1 z7))),(3,6,(qq s5 (.ixS Be Bf))),(4,14,(aa sQ (.bsl 5 1 1 [(.i .u8 0)] [(0,Bz)]))),(5,31,(ee ou (.app 5 1 1 Bd Bg))),(6,63,(ez (.st 1 z5 zm))),(7,127,(ez (.st 1 z6 xT)))])
def bi4:=wu Cw.eq_1
def OB:CC:=(.reg [(qq vC (.ld1 z7)),(qq uT (.bi .add BA (x6 1))),(ez (.st 1 z7 zb))])
def bi5:=wu OB.eq_1
def OC:CC:=(.reg [(qq jY (.bld [.l0] [])),(ez (.st 1 z2 rv)),(qq a3 (.mv (x6 0)))])
def bi6:=wu OC.eq_1
def OD:CC:=(.cond wM (.seq Cw OB) (.seq OC .ret))
def UN:=wu OD.eq_1
def OE:CC:=(.cond sD (.seq Ox (.seq Oy Oz)) (.seq OA OD))
def EC:=wu OE.eq_1
def OG:CC:=(.cond rx (.goto 2) (.seq Ow OE))
def ED:=wu OG.eq_1
def OH:CC:=(.reg [(qq oE (.ld1 z1)),(qq qJ (.ld1 z7)),(qq uU (.bi .add wO (x6 1))),(qq uV (.slS zn (some zo) none)),(ee vD (.call 76 [zp,(.c (.i .u8 39))])),(qq a8 (.mv BB))])
def bi7:=wu OH.eq_1
def OI:CC:=(.reg [(qq py (.mv z8)),(qq vE (.bi .lss Bh (x6 0))),(qq fA (.mv BC)),(aA qK (.ld1 z1) fA),(aA uJ (.ld1 z7) fA),(aA wW (.bi .add BE (x6 1)) fA),(aA zc (.ld1 z7) fA),(aA zd (.bi .add EK (x6 1)) fA),(aA ze (.mv z8) fA),(aA vF (.bi .add EL EM) fA),(aA zx (.slS BD (some BF) (some GB)) fA),(lV pI (.call 77 [GC,(.c (.f 78 [] []))]) fA),(aA uW (.un .not GD) fA),(qq BJ (.pk uF xT GE))])
def bi8:=wu OI.eq_1
def OJ:CC:=(.reg [(qq wX (.bld [.l0] [])),(ez (.st 1 z2 GG)),(qq a3 (.mv (x6 0)))])
def bi9:=wu OJ.eq_1
def OL:CC:=(.cond GF (.seq OJ .ret) .skip)
def bj0:=wu OL.eq_1
def OM:CC:=(.dreg 12 [(0,0,(qq BK (.ld1 z5))),(1,0,(qq BL (.ld1 z1))),(2,0,(qq sR (.ld1 z7))),(3,4,(qq EU (.bi .add IL (x6 1)))),(4,0,(qq GT (.ld1 z7))),(5,16,(qq EV (.bi .add J1 (x6 1)))),(6,0,(qq EW (.mv z8))),(7,112,(qq BM (.bi .add J2 J3))),(8,254,(qq GU (.slS GH (some IM) (some J4)))),(9,511,(ee Jp (.app 5 1 1 IK J5))),(10,1023,(ez (.st 1 z5 Vr))),(11,2047,(ez (.st 1 z6 xT)))])
def bj1:=wu OM.eq_1
def ON:CC:=(.reg [(qq zy (.ld1 z7)),(qq Jq (.mv z8)),(qq Jr (.bi .add Vt (x6 2))),(qq Js (.bi .add Vs Vu)),(ez (.st 1 z7 Vv))])
def bj2:=wu ON.eq_1
def OO:CC:=(.reg [(qq rz (.mv z9)),(ee iX (.cv uD []))])
def bj3:=wu OO.eq_1
def OP:CC:=(.dreg 5 [(0,0,(qq uN (.ld1 z4))),(1,1,(qq uP (.bld [.l0] [(0,1,yX)]))),(2,0,(qq uQ (.ld1 z7))),(3,3,(ez (.st 1 z2 yY))),(4,15,(qq a3 (.mv yZ)))])
def bj4:=wu OP.eq_1
def OQ:CC:=(.seq (.goto 1) (.seq .skip (.seq OO (.seq OP .ret))))
def bj5:=wu OQ.eq_1
def OR:CC:=(.seq (.seq OI OL) (.seq OM (.seq ON OQ)))
def bj6:=wu OR.eq_1
def xG:CC:=(.seq (.block 0 (.seq Ov OG)) (.seq (.goto 1) (.seq .skip (.seq OH OR))))
def EE:=wu xG.eq_1
def Cy:CC:=(.reg [(qq oE (.ld1 z1)),(qq qJ (.ld1 z7)),(qq uU (.bi .add wO (x6 1))),(qq uV (.slS zn (some zo) none)),(ee vD (.call 76 [zp,(.c (.i .u8 39))])),(qq a8 (.mv BB))])
def UO:=wu Cy.eq_1
def OS:CC:=(.reg [(qq py (.mv z8)),(qq vE (.bi .lss Bh (x6 0))),(qq fA (.mv BC)),(aA qK (.ld1 z1) fA),(aA uJ (.ld1 z7) fA),(aA wW (.bi .add BE (x6 1)) fA),(aA zc (.ld1 z7) fA),(aA zd (.bi .add EK (x6 1)) fA),(aA ze (.mv z8) fA),(aA vF (.bi .add EL EM) fA),(aA zx (.slS BD (some BF) (some GB)) fA),(lV pI (.call 77 [GC,(.c (.f 78 [] []))]) fA),(aA uW (.un .not GD) fA),(qq BJ (.pk uF xT GE))])
def UP:=wu OS.eq_1
def OU:CC:=(.reg [(qq wX (.bld [.l0] [])),(ez (.st 1 z2 GG)),(qq a3 (.mv (x6 0)))])
def bj7:=wu OU.eq_1
def OV:CC:=(.cond GF (.seq OU .ret) .skip)
def UQ:=wu OV.eq_1
def Cz:CC:=(.dreg 12 [(0,0,(qq BK (.ld1 z5))),(1,0,(qq BL (.ld1 z1))),(2,0,(qq sR (.ld1 z7))),(3,4,(qq EU (.bi .add IL (x6 1)))),(4,0,(qq GT (.ld1 z7))),(5,16,(qq EV (.bi .add J1 (x6 1)))),(6,0,(qq EW (.mv z8))),(7,112,(qq BM (.bi .add J2 J3))),(8,254,(qq GU (.slS GH (some IM) (some J4)))),(9,511,(ee Jp (.app 5 1 1 IK J5))),(10,1023,(ez (.st 1 z5 Vr))),(11,2047,(ez (.st 1 z6 xT)))])
def bj8:=wu Cz.eq_1
def OW:CC:=(.reg [(qq zy (.ld1 z7)),(qq Jq (.mv z8)),(qq Jr (.bi .add Vt (x6 2))),(qq Js (.bi .add Vs Vu)),(ez (.st 1 z7 Vv))])
def bj9:=wu OW.eq_1
def OX:CC:=(.reg [(qq rz (.mv z9)),(ee iX (.cv uD []))])
def bk0:=wu OX.eq_1
def OY:CC:=(.dreg 5 [(0,0,(qq uN (.ld1 z4))),(1,1,(qq uP (.bld [.l0] [(0,1,yX)]))),(2,0,(qq uQ (.ld1 z7))),(3,3,(ez (.st 1 z2 yY))),(4,15,(qq a3 (.mv yZ)))])
def bk1:=wu OY.eq_1
def OZ:CC:=(.seq (.goto 1) (.seq .skip (.seq OX (.seq OY .ret))))
def bk2:=wu OZ.eq_1
def CA:CC:=(.seq (.seq OS OV) (.seq Cz (.seq OW OZ)))
def UR:=wu CA.eq_1
def CB:CC:=(.reg [(qq rz (.mv z9)),(ee iX (.cv uD []))])
def US:=wu CB.eq_1
def xH:CC:=(.dreg 5 [(0,0,(qq uN (.ld1 z4))),(1,1,(qq uP (.bld [.l0] [(0,1,yX)]))),(2,0,(qq uQ (.ld1 z7))),(3,3,(ez (.st 1 z2 yY))),(4,15,(qq a3 (.mv yZ)))])
def bk3:=wu xH.eq_1
def P0:CC:=(.tab 0 (.seq .skip (.seq CB (.seq xH .ret))) .skip)
def bk4:=wu P0.eq_1
def P3:CC:=(.tab 1 (.seq .skip (.seq xD xG)) (.tab 2 (.seq .skip (.seq Cy CA)) P0))
def bk5:=wu P3.eq_1
def c56:CF:= .mk 7 [.cn a2 1,.t a3] (.seq aj3 (.scope Ot P3))
theorem e56(v0:V):bz 7 [v0]=(.n vg (some v0) vg):=rfl
def J7:=ai @e56 (ai @bO1 (ai @aJ6 (ai @aJ7 (ai @aJ8 (ai @bO2 (ai @bO3 (ai @bO4 (ai @bO5 (ai @bO6 (ai @bg3 (ai @bg4 (ai @bg5 (ai @bg6 (ai @bg7 (ai @bg8 (ai @bg9 (ai @bh0 (ai @bh1 (ai @bh2 (ai @bh3 (ai @bh4 (ai @bh5 (ai @bh6 (ai @bh7 (ai @bh8 (ai @bh9 (ai @bi0 (ai @bi1 (ai @bi2 (ai @UH (ai @UI (ai @UJ (ai @og (ai @oq (ai @EA (ai @EB (ai @UK (ai @UL (ai @bi3 (ai @UM (ai @bi4 (ai @bi5 (ai @bi6 (ai @UN (ai @EC (ai @ED (ai @bi7 (ai @bi8 (ai @bi9 (ai @bj0 (ai @bj1 (ai @bj2 (ai @bj3 (ai @bj4 (ai @bj5 (ai @bj6 (ai @EE (ai @UO (ai @UP (ai @bj7 (ai @UQ (ai @bj8 (ai @bj9 (ai @bk0 (ai @bk1 (ai @bk2 (ai @UR (ai @US (ai @bk3 (ai @bk4 (@bk5)))))))))))))))))))))))))))))))))))))))))))))))))))))))))))))))))))))))
theorem d41(Φ:Nat→Option CF){F:RO}{M0 M:Mem}{b c1 i:Nat}{s text:List UInt8}{w:List Pc}{sm:Bool}(ok0:cK F M0 b)(hi:i<s.length)(hs:s.length≤400000)(hw:w.length≤1000000)(ht:text.length≤1000000)(hW:WS M0 b s M c1 w text sm i)(fv:V)(u:List (Option V))(Q:Ex→St→Prop)(hQ:∀(u:List (Option V)) M' c',WS M0 b s M' c' w (text++[s[i]]) true i→Q .nrm (.mk ((jN u (.p b 0) (.p (b+1) 0) (.p (b+2) 0) (.p (b+3) 0) (.p (b+4) 0) (.p (b+5) 0) fv)) [] M' c')):
 Wp Cw (K Φ none 56 F) (.mk ((jN u (.p b 0) (.p (b+1) 0) (.p (b+2) 0) (.p (b+3) 0) (.p (b+4) 0) (.p (b+5) 0) fv)) [] M c1) Q:=by
 obtain⟨v,tv,p1,p0,gr,h6,m0,m1,m2,m3,m4,m5,hA,hT0⟩:=hW
 obtain⟨p2,hT,hne⟩:∃p,bm M (b+6) c1 p 5 1 tv (bE text)∧(p1≠p∨(v= .l0∧w=[])):=by
  rcases BN hA hT0 with⟨rfl,rfl⟩|⟨rfl,rfl⟩|hn
  ·exact⟨p1+1,bm.nil,.inl (by omega)⟩
  ·exact⟨p0,hT0,.inr ⟨rfl,rfl⟩⟩
  ·exact⟨p0,hT0,.inl hn⟩
 have ok1:=gr.ok ok0
 have hfr:=ok1.free
 have l0:load1 F M b 0=some (sV s):=au m0 0
 have l2:load1 F M (b+2) 0=some v:=au m2 0
 have l3:load1 F M (b+3) 0=some tv:=au m3 0
 have l4:load1 F M (b+4) 0=some (.b sm):=au m4 0
 have l5:load1 F M (b+5) 0=some (.i .i64 (i:Int)):=au m5 0
 have hix:rK (sV s) (.i .i64 (i:Int))=some (.i .u8 ((s[i]).toNat:Int)):=ye s .i64 i hi
 have lk:(look F M (c1+4)).isNone=true:=by rw[ok1.look (by omega)];rfl
 have fb:∀x,flatten (bV x)=[bV x]:=fun _=>rfl
 have ob:∀x,bO (bV x)=true:=fun _=>rfl
 have rf:bU (c1+4) [(2,b+5),(1,b),(0,b+3)]=true:=by rw[aU _ _ _ _ (by omega),aU _ _ _ _ (by omega),aU _ _ _ _ (by omega),cF]
 simp only[WX,Nat.reducePow,Nat.reduceDiv,Nat.reduceMod,Nat.reduceBEq,J7,l3,l0,l5,hix,lk,rf,uw,mj,rq]
 have grY:Gr (b+6) M (c1+8) (M.set (c1+4) (d7 [V.i .u8 0] 5 [V.i .u8 ((s[i]).toNat:Int)])):=⟨by omega,fun x hx=>ak _ _ (by omega),fun x hx=>by rw[ak _ _ (by omega)];exact ok1.hiM x (by omega)⟩
 have hy:cA F (M.set (c1+4) (d7 [V.i .u8 0] 5 [V.i .u8 ((s[i]).toNat:Int)])) (c1+8) 1 (.l (c1+4) 0 1 1) (bE [s[i]]):=J0 (d:=[V.i .u8 0]) (ty:=5) (by rw[am];rfl) (by omega) (fun e he=>by obtain⟨x,_,rfl⟩:=List.mem_map.1 he;rfl) rfl
 refine du ((hJ (bytes:=1) (hT.up (show c1≤c1+8 by omega) (fun hx=>ak _ _ (by omega))) grY Nat.one_pos hy rfl (fP (by rw[nP,nP,List.length_singleton];omega) (by rw[nP,nP,List.length_singleton];omega))).mono ?_)
 rintro v' M2 c2 ⟨b3,hA2,gr2,hle2,hold,_⟩
 have ok2:cK F M2 c2:=(show Gr b M0 c2 M2 from⟨by omega,fun x hx=>(gr2.old x (by omega)).trans (gr.old x hx),gr2.new⟩).ok ok0
 have w3:bO v'=true∧flatten v'=[v']∧aL [v']=true:=by
  rcases hA2 with⟨_,⟨_,rfl⟩|⟨_,_,rfl,_⟩⟩<;>exact⟨rfl,rfl,rfl⟩
 obtain⟨w1,w2,w3⟩:=w3
 have st3:=aJ ((gr2.old (b+3) (by omega)).trans m3) 0 [v'] (by simp) w3
 have st4:=aJ ((ak M2 (af 96 [v']) (show b+4≠b+3 by omega)).trans ((gr2.old (b+4) (by omega)).trans m4)) 0 [V.b true] (by simp) rfl
 have f3:bQ (M2.set (b+3) (af 96 [v'])) F=true:=((show Gr b M0 c2 (M2.set (b+3) (af 96 [v']))from⟨by omega,fun x hx=>by rw[ak _ _ (by omega)];exact(gr2.old x (by omega)).trans (gr.old x hx),fun x hx=>by rw[ak _ _ (by omega)];exact gr2.new x hx⟩).ok ok0).free
 have f4:bQ ((M2.set (b+3) (af 96 [v'])).set (b+4) (af 4 [V.b true])) F=true:=((show Gr b M0 c2 ((M2.set (b+3) (af 96 [v'])).set (b+4) (af 4 [V.b true]))from⟨by omega,fun x hx=>by rw[ak _ _ (by omega),ak _ _ (by omega)];exact(gr2.old x (by omega)).trans (gr.old x hx),fun x hx=>by rw[ak _ _ (by omega),ak _ _ (by omega)];exact gr2.new x hx⟩).ok ok0).free
 refine⟨ok2.free,?_⟩
 have hA1:bm M2 (b+6) c2 p1 64 2 v (jm w):=by
  rcases hne with hne|⟨rfl,rfl⟩
  ·rcases hA with⟨h0,hh|⟨h1,h2,h3,h4⟩⟩
   ·exact⟨h0,.inl hh⟩
   ·exact⟨h0,.inr ⟨h1,by omega,h3,by rw[hold p1 (by omega) hne,ak _ _ (by omega)];exact h4⟩⟩
  ·exact bm.nil
 have fin:WS M0 b s ((M2.set (b+3) (af 96 [v'])).set (b+4) (af 4 [V.b true])) c2 w (text++[s[i]]) true i:=by
  refine⟨v,v',p1,b3,?_,by omega,?_,?_,?_,?_,am _ _ _,?_,cN (cN hA1 (by omega)) (by omega),cN (cN ?_ (by omega)) (by omega)⟩
  ·exact⟨by omega,fun x hx=>by rw[ak _ _ (by omega),ak _ _ (by omega)];exact(gr2.old x (by omega)).trans (gr.old x hx),fun x hx=>by rw[ak _ _ (by omega),ak _ _ (by omega)];exact gr2.new x hx⟩
  ·rw[ak _ _ (by omega),ak _ _ (by omega)];exact(gr2.old b (by omega)).trans m0
  ·rw[ak _ _ (by omega),ak _ _ (by omega)];exact(gr2.old (b+1) (by omega)).trans m1
  ·rw[ak _ _ (by omega),ak _ _ (by omega)];exact(gr2.old (b+2) (by omega)).trans m2
  ·rw[ak _ _ (by omega)];exact am _ _ _
  ·rw[ak _ _ (by omega),ak _ _ (by omega)];exact(gr2.old (b+5) (by omega)).trans m5
  ·have:bE (text++[s[i]])=bE text++bE [s[i]]:=by unfold bE;rw[List.map_append]
   rw[this];exact hA2
 simp only[WX,Nat.reducePow,Nat.reduceDiv,Nat.reduceMod,Nat.reduceBEq,fW,fW,w2,st3,st4,f3,f4]
 exact hQ (X1 (G2 (X1 (G4 (X1 (G1 (bD (bK (bB (X4 (X1 []))))))))))) _ _ fin
def Ie(t:List UInt8):Option Nat:=if(t.drop (qn t)).head?=some 39 then some (qn t)else none
theorem Ig(x:UInt8)(t:List UInt8):Ie (x::t)=if ka x=true then(Ie t).map (· +1)else if x=39 then some 0 else none:=by
 unfold Ie
 rw[yy]
 cases hq:ka x with
 |true=>
  rw[ac rfl,ac rfl,List.drop_succ_cons];split<;>rfl
 |false=>
  rw[ab (show¬(false=true) by decide),ab (show¬(false=true) by decide),List.drop_zero];show(if some x=some 39 then some 0 else none)=_;by_cases h:x=39
  ·subst h;rfl
  ·rw[ab (fun e=>h (ae e)),ab h]
theorem bF5:ka 39=false:=by decide
theorem p5:∀(t:List UInt8) (i:Nat),Ie t=match v7 39 t i with|none=>none|some k=>if(t.take (k-i)).all ka=true then some (k-i)else none
 |[],i=>rfl
 |x::t,i=>by
  rw[Ig,v7];by_cases hx:x=39
  ·subst hx;rw[ac rfl,bF5];simp
  ·rw[ab hx,ab hx,p5 t (i+1)];cases hf:v7 39 t (i+1)with
   |none=>simp
   |some k=>
    have hk:=(Dc hf).1;have e1:k-i=(k-(i+1))+1:=by omega
    dsimp only;rw[e1,List.take_succ_cons,List.all_cons];cases ka x with
    |true=>
     rw[ac rfl,Bool.true_and];split<;>rfl
    |false=>
     rw[ab (by decide),Bool.false_and,ab (by decide)]
theorem Tf{t:List UInt8}:stW (39::t)=match Ie t with|none=>some none|some k=>some (some (k+1,t.take k,false)):=by
 have h0:cL (39::t)=[]:=by
  cases t with
  |nil=>rfl
  |cons b r=>rw[pl];simp
 rw[aY0 (by rw[h0];simp)]
 unfold Ie
 split<;>rfl
theorem Iz{t:List UInt8}(h:v7 39 t 0=none):stW (39::t)=some none:=by
 rw[Tf,p5 t 0,h]
theorem Tg{t:List UInt8}{k:Nat}(h:v7 39 t 0=some k)(ha:(t.take k).all ka=false):stW (39::t)=some none:=by
 rw[Tf,p5 t 0,h]
 dsimp only
 rw[Nat.sub_zero,ha]
 rfl
theorem XR{t:List UInt8}{k:Nat}(h:v7 39 t 0=some k)(ha:(t.take k).all ka=true):stW (39::t)=some (some (k+1,t.take k,false)):=by
 rw[Tf,p5 t 0,h]
 dsimp only
 rw[Nat.sub_zero,ha]
 rfl
theorem Ed{t:List UInt8}:stW (36::t)≠none:=by
 have h0:cL (36::t)=[]:=by
  cases t with
  |nil=>rfl
  |cons b r=>rw[pl];simp
 rw[Eb (by rw[h0];simp)]
 split<;>simp
theorem WG{w:List Pc}{text:List UInt8}{sm:Bool}{s:List UInt8}{i:Nat}(h:stW (s.drop i)=none):RA w text sm (decide (s[i]?=some 36))=nF w text sm:=by
 have:decide (s[i]?=some 36)=false:=by
  apply ag;intro e;obtain⟨hi,he⟩:=List.getElem?_eq_some_iff.1 e;rw[bX hi,he]at h;exact Ed h
 unfold RA nF
 rw[this]
 simp
theorem WH{w:List Pc}{text:List UInt8}{sm:Bool}{s:List UInt8}{i:Nat}(h:s[i]?=some 36):RA w text sm (decide (s[i]?=some 36))++[([],true)]=gQ w text:=by
 unfold RA gQ
 rw[ah h]
 simp
def h77:List V→Option V
 |[v,.f 78 [] []]=>(qM v).bind fun l=>if l.length≤1000000 then some (.b (l.all ka))else none
 |[v,.f 75 [] []]=>(qM v).bind fun l=>if l.length≤1000000 then some (.b (l.all mi))else none
 |_=>none
theorem aS4(l:List UInt8)(hl:l.length≤1000000):h77 [sV l,.f 78 [] []]=some (.b (l.all ka)):=by
 show(qM (sV l)).bind (fun l=>if l.length≤1000000 then some (V.b (l.all ka))else none)=_
 rw[lJ,Option.bind_some];exact ac hl
theorem bA1(l:List UInt8)(hl:l.length≤1000000):h77 [sV l,.f 75 [] []]=some (.b (l.all mi)):=by
 show(qM (sV l)).bind (fun l=>if l.length≤1000000 then some (V.b (l.all mi))else none)=_
 rw[lJ,Option.bind_some];exact ac hl
abbrev aD5(u:List (Option V))(x1 x2 x4 x5 x6 x7 x8 x9:V):T:=(.n (.n (.n (.n (aq u 63 31 95 15 79 47 111) (some x7) (aq u 71 39 103 23 87 55 119)) (uO u 3) (.n (aq u 67 35 99 19 83 51 115) (uO u 11) (aq u 75 43 107 27 91 59 123))) (some x1) (.n (.n (aq u 65 33 97 17 81 49 113) (some x9) (aq u 73 41 105 25 89 57 121)) (some x5) (.n (aq u 69 37 101 21 85 53 117) (uO u 13) (aq u 77 45 109 29 93 61 125)))) (uO u 0) (.n (.n (.n (aq u 64 32 96 16 80 48 112) (some x8) (aq u 72 40 104 24 88 56 120)) (some x4) (.n (aq u 68 36 100 20 84 52 116) (uO u 12) (aq u 76 44 108 28 92 60 124))) (some x2) (.n (.n (aq u 66 34 98 18 82 50 114) (uO u 10) (aq u 74 42 106 26 90 58 122)) (some x6) (.n (aq u 70 38 102 22 86 54 118) (uO u 14) (aq u 78 46 110 30 94 62 126)))))
abbrev wG(u:List (Option V))(x2 x3:V):T:=(.n (.n (.n (.n (aq u 63 31 95 15 79 47 111) (uO u 7) (aq u 71 39 103 23 87 55 119)) (some x3) (.n (aq u 67 35 99 19 83 51 115) (uO u 11) (aq u 75 43 107 27 91 59 123))) (uO u 1) (.n (.n (aq u 65 33 97 17 81 49 113) (uO u 9) (aq u 73 41 105 25 89 57 121)) (uO u 5) (.n (aq u 69 37 101 21 85 53 117) (uO u 13) (aq u 77 45 109 29 93 61 125)))) (uO u 0) (.n (.n (.n (aq u 64 32 96 16 80 48 112) (uO u 8) (aq u 72 40 104 24 88 56 120)) (uO u 4) (.n (aq u 68 36 100 20 84 52 116) (uO u 12) (aq u 76 44 108 28 92 60 124))) (some x2) (.n (.n (aq u 66 34 98 18 82 50 114) (uO u 10) (aq u 74 42 106 26 90 58 122)) (uO u 6) (.n (aq u 70 38 102 22 86 54 118) (uO u 14) (aq u 78 46 110 30 94 62 126)))))
theorem Re{F:RO}(zero:List V)(ps:List (Nat×Nat×X))(M:Mem)(t:T):lq (.bld zero ps) F M t=oV ((qY zero (evP t ps)).map .g):=by
 refine(fE ?_).trans (congrArg oV (aF6 (F:=F) zero ps M t))
 intro F' M'
 refine jJ ?_
 show(qg (fillParts t zero ps)= .f∨ ∃y,qg (fillParts t zero ps)= .v y)
 cases fillParts t zero ps with
 |none=>exact .inl rfl
 |some x=>exact .inr ⟨_,rfl⟩
theorem d62(Φ:Nat→Option CF){F:RO}{M0 M:Mem}{b c1 i k:Nat}{s text:List UInt8}{w:List Pc}{sm:Bool}(ok0:cK F M0 b)(hi:i+1+k≤s.length)(hs:s.length≤400000)(hw:w.length≤1000000)(ht:text.length≤1000000)(hW:WS M0 b s M c1 w text sm i)(fv:V)(u:List (Option V))(Q:Ex→St→Prop)(hQ:∀(u:List (Option V)) M' c',WS M0 b s M' c' w (text++(s.drop (i+1)).take k) true i→Q .nrm (.mk ((aD5 u (.p b 0) (.p (b+1) 0) (.p (b+2) 0) (.p (b+3) 0) (.p (b+4) 0) (.p (b+5) 0) (.i .i64 (k:Int)) fv)) [] M' c')):
 Wp Cz (K Φ none 56 F) (.mk ((aD5 u (.p b 0) (.p (b+1) 0) (.p (b+2) 0) (.p (b+3) 0) (.p (b+4) 0) (.p (b+5) 0) (.i .i64 (k:Int)) fv)) [] M c1) Q:=by
 obtain⟨v,tv,p1,p0,gr,h6,m0,m1,m2,m3,m4,m5,hA,hT0⟩:=hW
 obtain⟨p2,hT,hne⟩:∃p,bm M (b+6) c1 p 5 1 tv (bE text)∧(p1≠p∨(v= .l0∧w=[])):=by
  rcases BN hA hT0 with⟨rfl,rfl⟩|⟨rfl,rfl⟩|hn
  ·exact⟨p1+1,bm.nil,.inl (by omega)⟩
  ·exact⟨p0,hT0,.inr ⟨rfl,rfl⟩⟩
  ·exact⟨p0,hT0,.inl hn⟩
 have ok1:=gr.ok ok0
 have hfr:=ok1.free
 have l0:load1 F M b 0=some (sV s):=au m0 0
 have l3:load1 F M (b+3) 0=some tv:=au m3 0
 have l5:load1 F M (b+5) 0=some (.i .i64 (i:Int)):=au m5 0
 have q1:cz .add (.i .i64 (i:Int)) (.i .i64 1)=some (.i .i64 ((i+1:Nat):Int)):=by rw[aX _ _ (by omega) (by omega)];simp
 obtain⟨j,hj⟩:∃j,j=i+1+k:=⟨_,rfl⟩
 have q2:cz .add (.i .i64 ((i+1:Nat):Int)) (.i .i64 (k:Int))=some (.i .i64 (j:Int)):=by rw[aX _ _ (by omega) (by omega),hj];simp
 have hsl:=aC9 s .i64 .i64 (i+1) j (by omega) (by omega)
 have hX:(s.take j).drop (i+1)=(s.drop (i+1)).take k:=by rw[List.drop_take];congr 1;omega
 rw[hX]at hsl
 have hXl:((s.drop (i+1)).take k).length≤400000:=by rw[List.length_take];omega
 generalize(s.drop (i+1)).take k=X at hsl hXl hQ
 simp only[WX,Nat.reducePow,Nat.reduceDiv,Nat.reduceMod,Nat.reduceBEq,fW,J7,l3,l0,l5,q1,q2,aQ9,hsl,fW]
 refine du ((Jy (l:=X) (bytes:=1) (hT.up (show c1≤c1+12 by omega) (fun _=>rfl)) (show Gr (b+6) M (c1+12) M from⟨by omega,fun _ _=>rfl,fun x hx=>ok1.hiM x (by omega)⟩) (fP (by rw[nP];omega) (by rw[nP];omega))).mono ?_)
 rintro v' M2 c2 ⟨b3,hA2,gr2,hle2,hold,_⟩
 have ok2:cK F M2 c2:=(show Gr b M0 c2 M2 from⟨by omega,fun x hx=>(gr2.old x (by omega)).trans (gr.old x hx),gr2.new⟩).ok ok0
 have w3:bO v'=true∧flatten v'=[v']∧aL [v']=true:=by
  rcases hA2 with⟨_,⟨_,rfl⟩|⟨_,_,rfl,_⟩⟩<;>exact⟨rfl,rfl,rfl⟩
 obtain⟨w1,w2,w3⟩:=w3
 have st3:=aJ ((gr2.old (b+3) (by omega)).trans m3) 0 [v'] (by simp) w3
 have st4:=aJ ((ak M2 (af 96 [v']) (show b+4≠b+3 by omega)).trans ((gr2.old (b+4) (by omega)).trans m4)) 0 [V.b true] (by simp) rfl
 have f3:bQ (M2.set (b+3) (af 96 [v'])) F=true:=((show Gr b M0 c2 (M2.set (b+3) (af 96 [v']))from⟨by omega,fun x hx=>by rw[ak _ _ (by omega)];exact(gr2.old x (by omega)).trans (gr.old x hx),fun x hx=>by rw[ak _ _ (by omega)];exact gr2.new x hx⟩).ok ok0).free
 have f4:bQ ((M2.set (b+3) (af 96 [v'])).set (b+4) (af 4 [V.b true])) F=true:=((show Gr b M0 c2 ((M2.set (b+3) (af 96 [v'])).set (b+4) (af 4 [V.b true]))from⟨by omega,fun x hx=>by rw[ak _ _ (by omega),ak _ _ (by omega)];exact(gr2.old x (by omega)).trans (gr.old x hx),fun x hx=>by rw[ak _ _ (by omega),ak _ _ (by omega)];exact gr2.new x hx⟩).ok ok0).free
 refine⟨ok2.free,?_⟩
 have hA1:bm M2 (b+6) c2 p1 64 2 v (jm w):=by
  rcases hne with hne|⟨rfl,rfl⟩
  ·rcases hA with⟨h0,hh|⟨h1,h2,h3,h4⟩⟩
   ·exact⟨h0,.inl hh⟩
   ·exact⟨h0,.inr ⟨h1,by omega,h3,by rw[hold p1 (by omega) hne];exact h4⟩⟩
  ·exact bm.nil
 have fin:WS M0 b s ((M2.set (b+3) (af 96 [v'])).set (b+4) (af 4 [V.b true])) c2 w (text++X) true i:=by
  refine⟨v,v',p1,b3,?_,by omega,?_,?_,?_,?_,am _ _ _,?_,cN (cN hA1 (by omega)) (by omega),cN (cN ?_ (by omega)) (by omega)⟩
  ·exact⟨by omega,fun x hx=>by rw[ak _ _ (by omega),ak _ _ (by omega)];exact(gr2.old x (by omega)).trans (gr.old x hx),fun x hx=>by rw[ak _ _ (by omega),ak _ _ (by omega)];exact gr2.new x hx⟩
  ·rw[ak _ _ (by omega),ak _ _ (by omega)];exact(gr2.old b (by omega)).trans m0
  ·rw[ak _ _ (by omega),ak _ _ (by omega)];exact(gr2.old (b+1) (by omega)).trans m1
  ·rw[ak _ _ (by omega),ak _ _ (by omega)];exact(gr2.old (b+2) (by omega)).trans m2
  ·rw[ak _ _ (by omega)];exact am _ _ _
  ·rw[ak _ _ (by omega),ak _ _ (by omega)];exact(gr2.old (b+5) (by omega)).trans m5
  ·have:bE (text++X)=bE text++bE X:=by unfold bE;rw[List.map_append]
   rw[this];exact hA2
 simp only[WX,Nat.reducePow,Nat.reduceDiv,Nat.reduceMod,Nat.reduceBEq,fW,fW,w2,st3,st4,f3,f4]
 exact hQ (X1 (G2 (X1 (G4 (G2 (bD (bK (bB (X4 (X1 [])))))))))) _ _ fin
theorem bP0{Φ:Nat→Option CF}{rd:Option Nat}{fn:Nat}{F:RO}(base i mask j b0:Nat)(blk:bJ)(dst:Option aR)(o:EO)(r:List (Nat×Nat×CO))(t:T)(M:Mem)(c:Nat)(reads:List (Nat×Nat))(R:DS→Prop){v:V}{M':Mem}{c':Nat}(hj:(mask/2^j%2==1)=false)(hb:zI mask reads=true)(hM:M.get b0=some blk)(h:eU o (K Φ rd fn ((b0,blk)::F)) (M.del b0) c t= .k v M' c')(hf:bQ M' ((b0,blk)::F)=true):
 ly base ((i,mask,.mk dst (.e o) none)::r) (K Φ rd fn F) (.mk t M c [] ((j,b0)::reads)) R=ly base r (K Φ rd fn F) (.mk (setT t dst v) (M'.set b0 blk) c' [] ((j,b0)::reads)) R:=by
 have hj':testBit mask j=false:=by
  show Nat.beq (Nat.mod (Nat.div mask (Nat.pow 2 j)) 2) 1=false;rw[bR];exact ag (show¬mask/2^j%2=1 by simpa using hj)
 have hp:bN mask ((j,b0)::reads) F M []=Pr.mk ((b0,blk)::F) (M.del b0) [(b0,blk)]:=by
  rw[bN,hj'];show(match M.get b0 with|none=>bN mask reads F M []|some blk=>(M.del b0).force fun M=>bN mask reads ((b0,blk)::F) M [(b0,blk)])=_;rw[hM];show(M.del b0).force (fun M=>bN mask reads ((b0,blk)::F) M [(b0,blk)])=_;rw[Tr.force_eq];exact ib hb _ _ _
 have he:rG (K Φ rd fn F) base (i,mask,.mk dst (.e o) none) (.mk t M c [] ((j,b0)::reads))=some (.mk (setT t dst v) (M'.set b0 blk) c' [] ((j,b0)::reads)):=by
  show pO o (K Φ rd fn F) dst t c [] ((j,b0)::reads) (bN mask ((j,b0)::reads) F M [])=_;rw[hp];show nj ((b0,blk)::F) dst t [] ((j,b0)::reads) [(b0,blk)] (eU o (K Φ rd fn ((b0,blk)::F)) (M.del b0) c t)=_;rw[h];show(bif bQ M' ((b0,blk)::F)&&cq ((b0,blk)::F) M' []then(b8 [(b0,blk)] M').force fun M=>(setT t dst v).force fun t=>some (DS.mk t M c' [] ((j,b0)::reads))else none)=_;rw[hf];show((b8 [(b0,blk)] M').force fun M=>(setT t dst v).force fun t=>some (DS.mk t M c' [] ((j,b0)::reads)))=_;rw[Tr.force_eq,Tr.force_eq];show some (DS.mk _ ((M'.set b0 blk).force fun M=>b8 [] M) c' [] _)=_;rw[Tr.force_eq];rfl
 apply propext
 rw[eM,he]
 constructor
 ·rintro⟨s',h,q⟩;obtain rfl:=ae h;exact q
 ·exact fun q=>⟨_,rfl,q⟩
theorem by4(Φ:Nat→Option CF){F:RO}{M0 M:Mem}{b c1 i:Nat}{s text:List UInt8}{w:List Pc}{sm:Bool}(ok0:cK F M0 b)(hW:WS M0 b s M c1 w text sm i)(fv:V)(u:List (Option V))(Q:Ex→St→Prop)(hQ:∀(u:List (Option V)) M' c' v p,Gr b M0 c' M'→b+6≤c'→M'.get (b+1)=some (af 36 [v])→bm M' (b+6) c' p 64 2 v (jm w)→Q .nrm (.mk ((wG u (.p (b+1) 0) (.i .i64 (i:Int)))) [] M' c')):
 Wp xH (K Φ none 56 F) (.mk ((jN u (.p b 0) (.p (b+1) 0) (.p (b+2) 0) (.p (b+3) 0) (.p (b+4) 0) (.p (b+5) 0) fv)) [] M c1) Q:=by
 obtain⟨v,tv,p1,p0,gr,h6,m0,m1,m2,m3,m4,m5,hA,hT0⟩:=hW
 have ok1:=gr.ok ok0
 have hfr:=ok1.free
 obtain⟨w1,w2,w3⟩:=kf hA
 have hG1:flatten (V.g [v])=[v]:=rfl
 have l2:load1 F M (b+2) 0=some v:=au m2 0
 have l5:load1 F M (b+5) 0=some (.i .i64 (i:Int)):=au m5 0
 have md1:(M.del (b+5)).get (b+1)=some (af 36 [.l0]):=by rw[Tr.get_del,ab (by omega)];exact m1
 have st1:=aJ md1 0 [v] (by simp) w3
 have grd:Gr b M0 c1 ((M.del (b+5)).set (b+1) (af 36 [v])):=(gr.del (b+5) (by omega)).set (b+1) _ (by omega) (by omega) (aj _)
 have f1:=(grd.ok ok0).free
 have f2:bQ ((M.del (b+5)).set (b+1) (af 36 [v])) ((b+5,af 3 [.i .i64 (i:Int)])::F)=true:=by
  rw[dP,f1,ak _ _ (by omega),Tr.get_del,ac rfl];rfl
 have grE:Gr b M0 c1 (((M.del (b+5)).set (b+1) (af 36 [v])).set (b+5) (af 3 [.i .i64 (i:Int)])):=grd.set (b+5) _ (by omega) (by omega) (aj _)
 simp only[WX,Nat.reduceLeDiff,J7,l2,l5,Re,w2]
 rw[bP0 (v:=undef) (M':=(M.del (b+5)).set (b+1) (af 36 [v])) (c':=c1+5) _ _ _ _ _ (af 3 [.i .i64 (i:Int)]) _ _ _ _ _ _ _ _ rfl rfl m5 ?_ f2]
 ·simp only[WX];refine hQ (X2 (G2 (bD (bK (bB (X8 (X2 (X1 [])))))))) _ _ v p1 (grE.up (by omega)) (by omega) ?_ ?_
  ·rw[ak _ _ (by omega)];exact am _ _ _
  ·rcases hA with⟨h0,hh|⟨h1,h2,h3,h4⟩⟩
   ·exact⟨h0,.inl hh⟩
   ·exact⟨h0,.inr ⟨h1,by omega,h3,by rw[ak _ _ (by omega),ak _ _ (by omega),Tr.get_del,ab (by omega)];exact h4⟩⟩
 ·rw[xR];simp only[WX,hG1,st1]
abbrev Vp(b:Nat):V:= .f 74 [] [.p (b+3) 0,.p (b+4) 0,.p (b+2) 0,.p (b+5) 0,.p b 0]
theorem aK3{M0 M:Mem}{b c1 i j:Nat}{s text:List UInt8}{w:List Pc}{sm:Bool}(hW:WS M0 b s M c1 w text sm i):WS M0 b s (M.set (b+5) (af 3 [.i .i64 (j:Int)])) c1 w text sm j:=by
 obtain⟨v,tv,p1,p0,gr,h6,m0,m1,m2,m3,m4,m5,hA,hT0⟩:=hW
 exact⟨v,tv,p1,p0,gr.set (b+5) _ (by omega) (by omega) (aj _),h6,by rw[ak _ _ (by omega)];exact m0,by rw[ak _ _ (by omega)];exact m1,by rw[ak _ _ (by omega)];exact m2,by rw[ak _ _ (by omega)];exact m3,by rw[ak _ _ (by omega)];exact m4,am _ _ _,cN hA (by omega),cN hT0 (by omega)⟩
theorem bC4(Φ:Nat→Option CF)(h74:Φ 74=some W6){F:RO}{M0 M:Mem}{b c1 i:Nat}{s text:List UInt8}{w:List Pc}{sm:Bool}(ok0:cK F M0 b)(hi:i≤s.length)(hs:s.length≤400000)(hw:w.length≤1000000)(ht:text.length≤1000000)(hst:stW (s.drop i)=none)(hW:WS M0 b s M c1 w text sm i)(u:List (Option V))(Q:Ex→St→Prop)
 (hQ:∀(u:List (Option V)) M' c' v p,Gr b M0 c' M'→b+6≤c'→M'.get (b+1)=some (af 36 [v])→bm M' (b+6) c' p 64 2 v (jm (nF w text sm))→Q .ret (.mk ((wG u (.p (b+1) 0) (.i .i64 (i:Int)))) [] M' c')):
 Wp (.seq .skip (.seq CB (.seq xH .ret))) (K Φ none 56 F) (.mk ((jN u (.p b 0) (.p (b+1) 0) (.p (b+2) 0) (.p (b+3) 0) (.p (b+4) 0) (.p (b+5) 0) (Vp b))) [] M c1) Q:=by
 simp only[WX,US]
 refine aD ((r74 Φ h74 ok0 hi hs hw ht hW).mono ?_)
 rintro r M' c' ⟨hW',hle⟩
 rw[WG hst]at hW'
 simp only[WX]
 refine by4 Φ ok0 hW' _ (X1 (G2 (X1 (G4 (X1 (G1 (bD (bK (bB (X4 (X1 []))))))))))) _ ?_
 intro u M2 c2 v p g h6 hm hA
 simp only[WX]
 exact hQ (X2 (G2 (bD (bK (bB (X8 (X2 (X1 [])))))))) _ _ v p g h6 hm hA
theorem bC6(Φ:Nat→Option CF)(h76:Φ 76=some (.orc (aO h88)))(h77:Φ 77=some (.orc (aO h77))){F:RO}{M0 M:Mem}{b c1 i:Nat}{s text:List UInt8}{w:List Pc}{sm:Bool}(ok0:cK F M0 b)(hi:i<s.length)(hs:s.length≤400000)(hw:w.length≤1000000)(ht:text.length≤1000000)(h39:s[i]=39)(hW:WS M0 b s M c1 w text sm i)(u:List (Option V))(Q:Ex→St→Prop)
 (hQ1:∀(u:List (Option V)) M' c' k,stW (s.drop i)=some (some (k+1,(s.drop (i+1)).take k,false))→i+(k+2)≤s.length→WS M0 b s M' c' w (text++(s.drop (i+1)).take k) true (i+(k+2))→Q (.gto 1) (.mk ((jN u (.p b 0) (.p (b+1) 0) (.p (b+2) 0) (.p (b+3) 0) (.p (b+4) 0) (.p (b+5) 0) (Vp b))) [] M' c'))
 (hQ2:stW (s.drop i)=some none→ ∀(u:List (Option V)) M' c',Gr b M0 c' M'→b+6≤c'→M'.get (b+1)=some (af 36 [.l0])→Q .ret (.mk ((wG u (.p (b+1) 0) (.i .i64 0))) [] M' c')):
 Wp (.seq .skip (.seq Cy CA)) (K Φ none 56 F) (.mk ((jN u (.p b 0) (.p (b+1) 0) (.p (b+2) 0) (.p (b+3) 0) (.p (b+4) 0) (.p (b+5) 0) (Vp b))) [] M c1) Q:=by
 have hW':=hW
 obtain⟨v,tv,p1,p0,gr,h6,m0,m1,m2,m3,m4,m5,hA,hT0⟩:=hW
 have l0:load1 F M b 0=some (sV s):=au m0 0
 have l5:load1 F M (b+5) 0=some (.i .i64 (i:Int)):=au m5 0
 have q1:cz .add (.i .i64 (i:Int)) (.i .i64 1)=some (.i .i64 ((i+1:Nat):Int)):=by rw[aX _ _ (by omega) (by omega)];simp
 have hsl:=Ta s .i64 (i+1) hi
 have hdr:s.drop i=39::s.drop (i+1):=by rw[←h39];exact bX hi
 have hf:h88 [sV (s.drop (i+1)),.i .u8 39]=some (.i .i64 (v8 (v7 39 (s.drop (i+1)) 0))):=Dg (s.drop (i+1)) 39
 have st1:=aJ m1 0 [V.l0] (by simp) rfl
 have hG0:flatten (V.g [V.l0])=[V.l0]:=rfl
 have BAD:=fun h=>hQ2 h
 cases hk:v7 39 (s.drop (i+1)) 0 with
 |none=>
  rw[hk]at hf;have hst:stW (s.drop i)=some none:=by rw[hdr];exact Iz hk
  have d1:decide ((-1:Int)<0)=true:=rfl;have hz:v8 none= -1:=rfl;simp only[WX,Int.reduceLT,J7,l0,l5,q1,hsl,h76,hf,hz,hG0,st1];exact hQ2 hst (X2 (G2 (bD (bK (bB (X8 (X2 (X1 [])))))))) _ _ (gr.set (b+1) _ (by omega) (by omega) (aj _)) h6 (am _ _ _)
 |some k=>
  rw[hk]at hf;have hkl:=(Dc hk).2;rw[bC]at hkl;have d1:decide ((k:Int)<0)=false:=ag (by omega);have hz:v8 (some k)=(k:Int):=rfl;obtain⟨j,hj⟩:∃j,j=i+1+k:=⟨_,rfl⟩
  have q2:cz .add (.i .i64 ((i+1:Nat):Int)) (.i .i64 (k:Int))=some (.i .i64 (j:Int)):=by rw[aX _ _ (by omega) (by omega),hj];simp
  have hsl2:=aC9 s .i64 .i64 (i+1) j (by omega) (by omega);have hX:(s.take j).drop (i+1)=(s.drop (i+1)).take k:=by rw[List.drop_take];congr 1;omega
  rw[hX]at hsl2;have hall:=aS4 ((s.drop (i+1)).take k) (by rw[List.length_take,bC];omega);cases ha:((s.drop (i+1)).take k).all ka with
  |false=>
   rw[ha]at hall;have hst:stW (s.drop i)=some none:=by rw[hdr];exact Tg hk ha
   simp only[WX,J7,l0,l5,q1,q2,hsl,hsl2,h76,hf,hz,d1,h77,hall,hG0,st1];exact hQ2 hst (X2 (G2 (bD (bK (bB (X8 (X2 (X1 [])))))))) _ _ (gr.set (b+1) _ (by omega) (by omega) (aj _)) h6 (am _ _ _)
  |true=>
   rw[ha]at hall;have hst:stW (s.drop i)=some (some (k+1,(s.drop (i+1)).take k,false)):=by rw[hdr];exact XR hk ha
   simp only[WX,UO,UP,UQ,UR,l0,l5,q1,q2,hsl,hsl2,h76,hf,hz,d1,h77,hall];refine d62 Φ ok0 (show i+1+k≤s.length by omega) hs hw ht hW' _ (X1 (G2 (X1 (G4 (G2 (bD (bK (bB (X4 (X1 [])))))))))) _ ?_;intro u M' c' hW2;have hW3:=aK3 (j:=i+(k+2)) hW2;obtain⟨v,tv,p1,p0,gr,h6,m0,m1,m2,m3,m4,m5,hA,hT0⟩:=hW2;have l5:load1 F M' (b+5) 0=some (.i .i64 (i:Int)):=au m5 0;obtain⟨k2,hk2⟩:∃k2,k2=k+2:=⟨_,rfl⟩
   obtain⟨j2,hj2⟩:∃j2,j2=i+(k+2):=⟨_,rfl⟩
   have q3:cz .add (.i .i64 (k:Int)) (.i .i64 2)=some (.i .i64 (k2:Int)):=by rw[aX _ _ (by omega) (by omega),hk2];simp
   have q4:cz .add (.i .i64 (i:Int)) (.i .i64 (k2:Int))=some (.i .i64 (j2:Int)):=by rw[aX _ _ (by omega) (by omega),hj2,hk2];simp
   have st5:=aJ m5 0 [V.i .i64 (j2:Int)] (by simp) rfl;rw[←hj2]at hW3;simp only[WX,J7,l5,q3,q4,st5,je,gE];exact hQ1 (X1 (G2 (X1 (G4 (X1 (G1 (bD (bK (bB (X4 (X1 []))))))))))) _ _ k hst (by omega) (by rw[←hj2];exact hW3)
theorem bC5(Φ:Nat→Option CF)(h55:Φ 55=some (.orc (aO h55)))(h73:Φ 73=some (.orc (aO h73)))(h75:Φ 75=some (.orc (aO h75)))(h74:Φ 74=some W6){F:RO}{M0 M:Mem}{b c1 i:Nat}{s text:List UInt8}{w:List Pc}{sm:Bool}(ok0:cK F M0 b)(hi:i≤s.length)(hs:s.length≤400000)(hw:w.length≤900000)(ht:text.length≤900000)(hW:WS M0 b s M c1 w text sm i)(u:List (Option V))(Q:Ex→St→Prop)
 (hQ0:stW (s.drop i)=none→ ∀(u:List (Option V)),Q (.gto 0) (.mk ((jN u (.p b 0) (.p (b+1) 0) (.p (b+2) 0) (.p (b+3) 0) (.p (b+4) 0) (.p (b+5) 0) (Vp b))) [] M c1))
 (hQ2:∀h:i<s.length,s[i]=39→ ∀(u:List (Option V)),Q (.gto 2) (.mk ((jN u (.p b 0) (.p (b+1) 0) (.p (b+2) 0) (.p (b+3) 0) (.p (b+4) 0) (.p (b+5) 0) (Vp b))) [] M c1))
 (hQ1:∀(u:List (Option V)) M' c' j w' text' sm',i<j→j≤s.length→w'.length≤w.length+2→text'.length≤text.length+1→iP (s.drop i) w text sm i=iP (s.drop j) w' text' sm' j→WS M0 b s M' c' w' text' sm' j→Q (.gto 1) (.mk ((jN u (.p b 0) (.p (b+1) 0) (.p (b+2) 0) (.p (b+3) 0) (.p (b+4) 0) (.p (b+5) 0) (Vp b))) [] M' c'))
 (hQ3:stW (s.drop i)=some none→ ∀(u:List (Option V)) M' c',Gr b M0 c' M'→b+6≤c'→M'.get (b+1)=some (af 36 [.l0])→Q .ret (.mk ((wG u (.p (b+1) 0) (.i .i64 0))) [] M' c')):
 Wp (.seq .skip (.seq xD xG)) (K Φ none 56 F) (.mk ((jN u (.p b 0) (.p (b+1) 0) (.p (b+2) 0) (.p (b+3) 0) (.p (b+4) 0) (.p (b+5) 0) (Vp b))) [] M c1) Q:=by
 have hW':=hW
 obtain⟨v,tv,p1,p0,gr,h6,m0,m1,m2,m3,m4,m5,hA,hT0⟩:=hW
 have l0:load1 F M b 0=some (sV s):=au m0 0
 have l5:load1 F M (b+5) 0=some (.i .i64 (i:Int)):=au m5 0
 have st1:=aJ m1 0 [V.l0] (by simp) rfl
 have hG0:flatten (V.g [V.l0])=[V.l0]:=rfl
 by_cases hlt:i<s.length
 ·have d0:decide ((i:Int)=(s.length:Int))=false:=ag (by omega);have hix:rK (sV s) (.i .i64 (i:Int))=some (.i .u8 ((s[i]).toNat:Int)):=ye s .i64 i hlt;have hdr:s.drop i=s[i]::s.drop (i+1):=bX hlt;have hsl:yH (sV s) (some (.i .i64 (i:Int))) none=some (sV (s[i]::s.drop (i+1))):=by rw[←hdr];exact Ta s .i64 i hi
  have hgt:s[i]?=some s[i]:=List.getElem?_eq_getElem hlt;have hsg:=RD (s[i]::s.drop (i+1));rw[T3]at hsg;have hxn:∀k:UInt8,decide (((s[i]).toNat:Int)=(k.toNat:Int))=decide (s[i]=k):=fun k=>by congr 1;exact propext ⟨fun e=>UInt8.toNat_inj.1 (by omega),fun e=>by rw[e]⟩
  have x32:=hxn 32;have x38:=hxn 38;have x39:=hxn 39;simp only[UInt8.reduceToNat,Int.cast_ofNat_Int]at x32 x38 x39;have qsg:=nR (cL (s[i]::s.drop (i+1))) [];have e0:V.s 0 0=sV []:=rfl;rw[←e0]at qsg;clear hxn;rw[hdr]at hQ0 hQ1 hQ3;have hpf:Ev.h73 [sV (s[i]::s.drop (i+1)),.s 2 16164]=some (V.b (Bt [36,63] (s[i]::s.drop (i+1)))):=RE _ [36,63];have hh75:Ev.h75 [.i .u8 ((s[i]).toNat:Int)]=some (V.b (mi s[i])):=Df s[i];by_cases hst:s[i]=32∨cL (s[i]::s.drop (i+1))≠[]∨s[i]=38
  ·have hno:=aY2 hst;by_cases h1:s[i]=32
   ·rw[ah h1]at x32;simp only[WX,og,oq,l0,l5,d0,hix,x32,je,gE];exact hQ0 hno (X1 (G2 (X1 (G4 (X1 (G1 (bD (bK (bB (X4 (X1 [])))))))))))
   ·rw[ag h1]at x32;by_cases h2:s[i]=38
    ·rw[ah h2]at x38;simp only[WX,og,oq,l0,l5,d0,hix,x32,x38,je,gE];exact hQ0 hno (X1 (G2 (X1 (G4 (X1 (G1 (bD (bK (bB (X4 (X1 [])))))))))))
    ·rw[ag h2]at x38;have h3:cL (s[i]::s.drop (i+1))≠[]:=by
      rcases hst with h|h|h
      ·exact absurd h h1
      ·exact h
      ·exact absurd h h2
     rw[ag h3]at qsg;simp only[WX,og,oq,l0,l5,d0,hix,x32,x38,hsl,h55,hsg,qsg,je,gE];exact hQ0 hno (X1 (G2 (X1 (G4 (X1 (G1 (bD (bK (bB (X4 (X1 [])))))))))))
  ·obtain⟨n32,n2,n38⟩:s[i]≠32∧cL (s[i]::s.drop (i+1))=[]∧s[i]≠38:=⟨fun e=>hst (.inl e),Classical.byContradiction fun e=>hst (.inr (.inl e)),fun e=>hst (.inr (.inr e))⟩
   rw[ag n32]at x32;rw[ag n38]at x38;rw[ah n2]at qsg;by_cases h39:s[i]=39
   ·rw[ah h39]at x39;simp only[WX,J7,l0,l5,d0,hix,x32,x38,hsl,h55,hsg,qsg,x39,je,gE,CN];exact hQ2 hlt h39 (X1 (G2 (X1 (G4 (X1 (G1 (bD (bK (bB (X4 (X1 [])))))))))))
   ·rw[ag h39]at x39;by_cases hpx:Bt [36,63] (s[i]::s.drop (i+1))=true
    ·rw[hpx]at hpf;obtain⟨h36,t2,ht2⟩:s[i]=36∧ ∃t2,s.drop (i+1)=63::t2:=by
      cases hd:s.drop (i+1)with
      |nil=>rw[hd,aC0]at hpx;cases hpx
      |cons y t2=>
       rw[hd,aV2,aC]at hpx;exact⟨bT hpx.1,t2,by rw[bT hpx.2]⟩
     have hl2:i+2≤s.length:=by
      have:=congrArg List.length ht2;rw[bC,av]at this;omega
     have hstat:stW (s[i]::s.drop (i+1))=some (some (1,[],true)):=by
      rw[h36]at hst⊢;rw[Eb hst,ht2];rfl
     have hnext:iP (s[i]::s.drop (i+1)) w text sm i=iP (s.drop (i+2)) (gQ w text) [] false (i+2):=by
      rw[Aw hstat,List.drop_succ_cons,List.drop_drop]
     simp only[WX,og,oq,EA,EB,UK,EC,ED,EE,l0,l5,d0,hix,x32,x38,hsl,h55,hsg,qsg,x39,h73,hpf];refine aD ((r74 Φ h74 ok0 hi hs (by omega) (by omega) hW').mono ?_);rintro r M2 c2 ⟨hW2,hle⟩;obtain⟨v2,tv2,q1,q2,gr2,h62,n0,n1,n2',n3,n4,n5,hA2,hT2⟩:=hW2;obtain⟨q1,hA2,hne⟩:∃q,bm M2 (b+6) c2 q 64 2 v2 (jm (RA w text sm (decide (s[i]?=some 36))))∧(q≠q2∨tv2= .l0):=by
      rcases BN (text:=[]) hA2 hT2 with⟨rfl,_⟩|⟨rfl,e2⟩|hn
      ·exact⟨q1,hA2,.inr rfl⟩
      ·rw[e2];exact⟨q2+1,bm.nil,.inl (by omega)⟩
      ·exact⟨q1,hA2,.inl hn⟩
     have ok2:=gr2.ok ok0;have l2:load1 F M2 (b+2) 0=some v2:=au n2' 0;have hFb:flatten (V.b true)=[V.b true]:=rfl;have hR1:eX [V.s 0 0,V.b false] 1 [V.b true]=some [V.s 0 0,V.b true]:=rfl;have hG2:flatten (V.g [V.s 0 0,V.b true])=[V.s 0 0,V.b true]:=rfl;have hfl:(RA w text sm (decide (s[i]?=some 36))).length≤w.length+1:=by unfold RA;split<;>simp
     simp only[WX,Nat.reduceAdd,UL,l2,hFb,hR1,hG2];refine aD ((sj ([],true) hA2 ok2 h62 (by omega)).mono ?_);rintro v3 M3 c3 ⟨q3,hA3,gr3,hle3,hold⟩;obtain⟨w1,w2,w3⟩:=kf hA3;have k2:=(gr3.old (b+2) (by omega)).trans n2';have k5:=(gr3.old (b+5) (by omega)).trans n5;have st2:=aJ k2 0 [v3] (by simp) w3;have k5':(M3.set (b+2) (af 34 [v3])).get (b+5)=some (af 3 [.i .i64 (i:Int)]):=(ak _ _ (by omega)).trans k5;have l5':load1 F (M3.set (b+2) (af 34 [v3])) (b+5) 0=some (.i .i64 (i:Int)):=au k5' 0;have q2':cz .add (.i .i64 (i:Int)) (.i .i64 2)=some (.i .i64 ((i+2:Nat):Int)):=by rw[aX _ _ (by omega) (by omega)];simp
     have st5:=aJ k5' 0 [V.i .i64 ((i+2:Nat):Int)] (by simp) rfl;have grF:Gr b M0 c3 M3:=⟨by omega,fun x hx=>(gr3.old x (by omega)).trans (gr2.old x hx),gr3.new⟩
     have hT3:bm M3 (b+6) c3 q2 5 1 tv2 (bE []):=by
      rcases hT2 with⟨h0,hh|⟨h1,h2,h3,h4⟩⟩
      ·exact⟨h0,.inl hh⟩
      ·rcases hne with hne|hne
       ·exact⟨h0,.inr ⟨h1,by omega,h3,by rw[hold q2 (by omega) (fun e=>hne e.symm)];exact h4⟩⟩
       ·rw[hne];exact bm.nil
     rw[WH (by rw[hgt,h36])]at hA3;simp only[WX,J7,w2,st2,l5',q2',st5,je,gE];refine hQ1 (X1 (G2 (X1 (G4 (X1 (G1 (bD (bK (bB (X4 (X1 []))))))))))) _ _ (i+2) (gQ w text) [] false (by omega) hl2 (by unfold gQ;split<;>simp) (ax _) hnext ?_;exact⟨v3,tv2,q3,q2,(grF.set (b+2) _ (by omega) (by omega) (aj _)).set (b+5) _ (by omega) (by omega) (aj _),by omega,by rw[ak _ _ (by omega),ak _ _ (by omega)];exact(gr3.old b (by omega)).trans n0,by rw[ak _ _ (by omega),ak _ _ (by omega)];exact(gr3.old (b+1) (by omega)).trans n1,by rw[ak _ _ (by omega)];exact am _ _ _,by rw[ak _ _ (by omega),ak _ _ (by omega)];exact(gr3.old (b+3) (by omega)).trans n3,by rw[ak _ _ (by omega),ak _ _ (by omega)];exact(gr3.old (b+4) (by omega)).trans n4,am _ _ _,cN (cN hA3 (by omega)) (by omega),cN (cN hT3 (by omega)) (by omega)⟩
    ·rw[show Bt [36,63] (s[i]::s.drop (i+1))=false by simpa using hpx]at hpf;have hnx:mi s[i]=true→stW (s[i]::s.drop (i+1))=some (some (0,[s[i]],false)):=by
      intro hp;have h36:s[i]≠36:=fun e=>by rw[e]at hp;exact absurd hp (by decide)
      rw[aD2 hst h39 h36,ac hp]
     have hbad:mi s[i]=false→stW (s[i]::s.drop (i+1))=some none:=by
      intro hp;by_cases h36:s[i]=36
      ·have hh:(s.drop (i+1)).head?≠some 63:=by
        intro e;apply hpx;cases hd:s.drop (i+1)with
        |nil=>rw[hd]at e;cases e
        |cons y t2=>
         rw[hd]at e;rw[aV2,h36,show y=63 from ae e];rfl
       rw[h36]at hst⊢;rw[Eb hst,ab hh]
      ·rw[aD2 hst h39 h36,ab (by rw[hp];decide)]
     cases hp:mi s[i]with
     |true=>
      rw[hp]at hh75;simp only[WX,og,oq,EA,EB,UM,UN,EC,ED,EE,l0,l5,d0,hix,x32,x38,hsl,h55,hsg,qsg,x39,h73,hpf,h75,hh75];refine d41 Φ ok0 hlt hs (by omega) (by omega) hW' _ (X1 (G2 (X1 (G4 (X1 (G1 (bD (bK (bB (X4 (X1 []))))))))))) _ ?_;intro u M' c' hW2;have hW3:=aK3 (j:=i+1) hW2;obtain⟨v,tv,p1,p0,gr,h6,m0,m1,m2,m3,m4,m5,hA,hT0⟩:=hW2;have l5:load1 F M' (b+5) 0=some (.i .i64 (i:Int)):=au m5 0;have q3:cz .add (.i .i64 (i:Int)) (.i .i64 1)=some (.i .i64 ((i+1:Nat):Int)):=by rw[aX _ _ (by omega) (by omega)];simp
      have st5:=aJ m5 0 [V.i .i64 ((i+1:Nat):Int)] (by simp) rfl;simp only[WX,J7,l5,q3,st5,je,gE];refine hQ1 (X1 (G2 (X1 (G4 (X1 (G1 (bD (bK (bB (X4 (X1 []))))))))))) _ _ (i+1) w (text++[s[i]]) true (by omega) hlt (by omega) (by simp) ?_ hW3;rw[p9 (hnx hp)];rfl
     |false=>
      rw[hp]at hh75;simp only[WX,J7,l0,l5,d0,hix,x32,x38,hsl,h55,hsg,qsg,x39,h73,hpf,h75,hh75,hG0,st1];exact hQ3 (hbad hp) (X2 (G2 (bD (bK (bB (X8 (X2 (X1 [])))))))) _ _ (gr.set (b+1) _ (by omega) (by omega) (aj _)) h6 (am _ _ _)
 ·obtain rfl:i=s.length:=by omega
  have d0:decide ((s.length:Int)=(s.length:Int))=true:=ah rfl;have hno:stW (s.drop s.length)=none:=by rw[cm];rfl
  simp only[WX,og,oq,l0,l5,je,gE];exact hQ0 hno (X1 (G2 (X1 (G4 (X1 (G1 (bD (bK (bB (X4 (X1 [])))))))))))
end
end Go.Proofs.YtmbpllipombieaaDoor.Ev
