/- What is proved here: pieces of the evaluator's soundness: if the evaluator comes to a value, the model's run comes to it, for every world and tape; no conditions beyond the hypotheses of each theorem. -/
import Derived.Test.YtmbpllipombieaaDoorEv4
set_option linter.unusedSimpArgs false
set_option linter.unusedVariables false
set_option linter.defProp false
set_option maxRecDepth 10000
set_option maxHeartbeats 16000000
namespace Go.Proofs.YtmbpllipombieaaDoor.Ev
open Go
noncomputable section
theorem xW:∀(e p q:List V),q.length=e.length→over (p++q) p.length e=p++e
 |[],p,q,h=>by
  obtain rfl:q=[]:=List.eq_nil_of_length_eq_zero h;rfl
 |v::e,p,[],h=>by cases h
 |v::e,p,a::q,h=>by
  rw[over,List.set_append_right _ _ (ag _),Nat.sub_self,List.set_cons_zero];have:=xW e (p++[v]) q (by simpa using h);rw[aF,List.length_singleton,bh,bh]at this;exact this
theorem xV{z e:List V}(h:z.length=e.length):over z 0 e=e:=by
 have:=xW e [] z h
 simpa using this
theorem jC{b:Nat}(mask:Nat):∀(reads:List (Nat×Nat)) (F:RO) (M:Mem) (s:List (Nat×bv)),bN b reads=true→bH M F=true→(M.get b).isSome=true→
 ∃F' M' s2,bD mask reads F M s=Pr.mk F' M' (s2++s)∧M'.get b=M.get b∧bH M' F'=true∧(∀y,bH (M'.set b y) F'=true)∧ ∀y x,(aU s2 (M'.set b y)).get x=(M.set b y).get x
 |[],F,M,s,h1,h2,h3=>by
  refine⟨F,M,[],rfl,rfl,h2,fun y=>?_,fun y x=>rfl⟩;refine p4 _ F fun b' hb'=>?_;have:∃blk,(b',blk)∈F:=by
   clear h1 h2 h3
   induction F with
   |nil=>cases hb'
   |cons a F ih=>
    obtain⟨k,z⟩:=a;rw[cg]at hb';split at hb'
    ·rename_i e;have e:k=b':=e;exact⟨z,by rw[e];exact bw ..⟩
    ·obtain⟨blk,hm⟩:=ih hb';exact⟨blk,bn _ hm⟩
  obtain⟨blk,hm⟩:=this;have hn:=fQ F h2 b' blk hm;have:b'≠b:=by intro e;subst e;rw[hn]at h3;cases h3
  rw[ah _ _ this];exact hn
 |(i,x)::r,F,M,s,h1,h2,h3=>by
  have hx:x≠b∧bN b r=true:=by
   have h1':(bif Nat.beq x b then false else bN b r)=true:=h1;rw[bI]at h1';by_cases e:x=b
   ·rw[aj e]at h1';cases h1'
   ·rw[ak e]at h1';exact⟨e,h1'⟩
  rw[bD];cases ht:testBit mask i with
  |true=>exact jC mask r F M s hx.2 h2 h3
  |false=>
   show∃F' M' s2,(match M.get x with|none=>bD mask r F M s|some blk=>(M.del x).force fun M=>bD mask r ((x,blk)::F) M ((x,blk)::s))=_∧_;cases hb:M.get x with
   |none=>exact jC mask r F M s hx.2 h2 h3
   |some blk=>
    have hfr:bH (M.del x) ((x,blk)::F)=true:=by
     rw[dD,Tr.get_del,ac rfl,jG x h2];rfl
    have hgb:(M.del x).get b=M.get b:=by rw[Tr.get_del,ab (fun e=>hx.1 e.symm)]
    obtain⟨F',M',s2,g1,g2,g3,g4,g5⟩:=jC mask r ((x,blk)::F) (M.del x) ((x,blk)::s) hx.2 hfr (by rw[hgb];exact h3);refine⟨F',M',s2++[(x,blk)],?_,g2.trans hgb,g3,g4,fun y z=>?_⟩
    ·show((M.del x).force fun M=>bD mask r ((x,blk)::F) M ((x,blk)::s))=_;rw[Tr.force_eq,g1,bh];rfl
    ·have key:∀(s2:List (Nat×bv)) (N:Mem),aU (s2++[(x,blk)]) N=(aU s2 N).set x blk:=by
      intro s2
      induction s2 with
      |nil=>intro N;show(N.set x blk).force (fun M=>M)=_;rw[Tr.force_eq];rfl
      |cons a s2 ih=>intro N;show(N.set a.1 a.2).force (fun M=>aU (s2++[(x,blk)]) M)=_;rw[Tr.force_eq,ih];show _=((N.set a.1 a.2).force fun M=>aU s2 M).set x blk;rw[Tr.force_eq]
     rw[key,Tr.get_set,g5,Tr.get_set,Tr.get_set,Tr.get_del];by_cases e1:z=x
     ·rw[ac e1,ab (by rw[e1];exact hx.1),e1,hb]
     ·rw[ab e1,ab e1]
theorem u6(mask:Nat):∀(pend:List (Nat×Nat×bv)) (M:Mem),(pend.all fun e=>testBit mask e.1)=true→dM mask pend M=(cT pend M,[])
 |[],M,_=>rfl
 |(i,b,blk)::r,M,h=>by
  rw[List.all_cons,ay]at h;rw[dM,h.1,iJ];show((M.set b blk).force fun M=>dM mask r M)=_;rw[Tr.force_eq,u6 mask r _ h.2]
section
variable{Φ:Nat→Option CF}{rd:Option Nat}{fn:Nat}{F:RO}
theorem b03(base i mask n:Nat)(p v:X)(r:List (Nat×Nat×CO))(t:T)(M:Mem)(c:Nat)(pend:List (Nat×Nat×bv))(reads:List (Nat×Nat))(R:DS→Prop){M1:Mem}{b ty:Nat}{z e:List V}
 (hm:(pend.all fun e=>testBit mask e.1)=true) (hM:cT pend M=M1) (hb:M1.get b=some (af ty z)) (hp:p.ev t= .p b 0) (hv:flatten (v.ev t)=e) (ha:aC e=true) (hl:e.length=n) (hz:z.length=n) (hr:bN b reads=true) (hf:bH M1 F=true)
 (h:∀M',(∀x,M'.get x=(M1.set b (af ty e)).get x)→kj base r (K Φ rd fn F) (.mk t M' c [] reads) R):
 kj base ((i,mask,.mk none (.e (.st n p v)) none)::r) (K Φ rd fn F) (.mk t M c pend reads) R:=by
 obtain⟨F',M',s2,g1,g2,g3,g4,g5⟩:=jC mask reads F M1 [] hr hf (by rw[hb];rfl)
 have hov:over z 0 e=e:=xV (hz.trans hl.symm)
 have hst:bK M' b 0 e=some (M'.set b (af ty e)):=by
  have:=aH (g2.trans hb) 0 e (by omega) ha
  rwa [hov]at this
 have hd:eE (.st n p v) (K Φ rd fn F') M' c t= .k undef (M'.set b (af ty e)) c:=by
  rw[vg,hp];show(if(flatten (v.ev t)).length=n then er c (bK M' b 0 (flatten (v.ev t)))else .f)=_;rw[hv,ac hl,hst];rfl
 have he:pX (K Φ rd fn F) base (i,mask,.mk none (.e (.st n p v)) none) (.mk t M c pend reads)=some (.mk t (aU s2 (M'.set b (af ty e))) c [] reads):=by
  show t8 (.st n p v) (K Φ rd fn F) mask none t c reads (dM mask pend M)=_;rw[u6 mask pend M hm,hM];show oB (.st n p v) (K Φ rd fn F) none t c [] reads (bD mask reads F M1 [])=_;rw[g1];show lN F' none t [] reads (s2++[]) (eE (.st n p v) (K Φ rd fn F') M' c t)=_;rw[hd,bQ];show(bif bH (M'.set b (af ty e)) F'&&true then(aU s2 (M'.set b (af ty e))).force fun M=>(setT t none undef).force fun t=>some (DS.mk t M c [] reads)else none)=_;rw[g4];show((aU s2 (M'.set b (af ty e))).force fun M=>(setT t none undef).force fun t=>some (DS.mk t M c [] reads))=_;rw[Tr.force_eq,Tr.force_eq];rfl
 rw[ed]
 exact⟨_,he,h _ (fun x=>g5 _ x)⟩
theorem i9{c:Nat}(mask:Nat):∀(reads:List (Nat×Nat)) (F:RO) (M:Mem) (s:List (Nat×bv)),bH M F=true→(∀x,c≤x→M.get x=none)→
 ∃F' M' s2,bD mask reads F M s=Pr.mk F' M' (s2++s)∧bH M' F'=true∧(∀b,look F' M' b=look F M b)∧(∀x,c≤x→M'.get x=none)∧ ∀N:Mem,(∀x,x<c→N.get x=M'.get x)→ ∀x,(aU s2 N).get x=if x<c then M.get x else N.get x
 |[],F,M,s,h2,h3=>⟨F,M,[],rfl,h2,fun _=>rfl,h3,fun N hN x=>by
  show N.get x=_;split
  ·rename_i h;exact hN x h
  ·rfl⟩
 |(i,x)::r,F,M,s,h2,h3=>by
  rw[bD];cases ht:testBit mask i with
  |true=>exact i9 mask r F M s h2 h3
  |false=>
   show∃F' M' s2,(match M.get x with|none=>bD mask r F M s|some blk=>(M.del x).force fun M=>bD mask r ((x,blk)::F) M ((x,blk)::s))=_∧_;cases hb:M.get x with
   |none=>exact i9 mask r F M s h2 h3
   |some blk=>
    have hxc:x<c:=by
     apply Classical.byContradiction;intro hx;rw[h3 x (by omega)]at hb;cases hb
    have hfr:bH (M.del x) ((x,blk)::F)=true:=by
     rw[dD,Tr.get_del,ac rfl,jG x h2];rfl
    obtain⟨F',M',s2,g1,g2,g3,g4,g5⟩:=i9 mask r ((x,blk)::F) (M.del x) ((x,blk)::s) hfr (fun y hy=>by rw[Tr.get_del];split<;>first|rfl|exact h3 y hy);refine⟨F',M',s2++[(x,blk)],?_,g2,fun b=>?_,g4,fun N hN z=>?_⟩
    ·show((M.del x).force fun M=>bD mask r ((x,blk)::F) M ((x,blk)::s))=_;rw[Tr.force_eq,g1,bh];rfl
    ·rw[g3];by_cases e:b=x
     ·subst e;rw[au hb,aR (by rw[Tr.get_del,ac rfl]),cg,ac rfl]
     ·cases hM:M.get b with
      |some y=>rw[au hM,au (by rw[Tr.get_del,ab e];exact hM)]
      |none=>rw[aR hM,aR (by rw[Tr.get_del,ab e];exact hM),cg,ab (fun h=>e h.symm)]
    ·have key:∀(s2:List (Nat×bv)) (N:Mem),aU (s2++[(x,blk)]) N=(aU s2 N).set x blk:=by
      intro s2
      induction s2 with
      |nil=>intro N;show(N.set x blk).force (fun M=>M)=_;rw[Tr.force_eq];rfl
      |cons a s2 ih=>intro N;show(N.set a.1 a.2).force (fun M=>aU (s2++[(x,blk)]) M)=_;rw[Tr.force_eq,ih];show _=((N.set a.1 a.2).force fun M=>aU s2 M).set x blk;rw[Tr.force_eq]
     rw[key,Tr.get_set,g5 N hN];by_cases e1:z=x
     ·subst e1;rw[ac rfl,ac hxc,hb]
     ·rw[ab e1,Tr.get_del,ab e1]
theorem o9(base i mask:Nat)(dst:Option aJ)(o:EO)(r:List (Nat×Nat×CO))(t:T)(M:Mem)(c:Nat)(reads:List (Nat×Nat))(R:DS→Prop)(ok:cV F M c)
 (h:∀F' M',cV F' M' c→(∀b,look F' M' b=look F M b)→kc (eE o (K Φ rd fn F') M' c t) fun v M2 c2=>Gr c M' c2 M2∧ ∀M3,Gr c M c2 M3→(∀x,c≤x→M3.get x=M2.get x)→kj base r (K Φ rd fn F) (.mk (setT t dst v) M3 c2 [] reads) R):
 kj base ((i,mask,.mk dst (.e o) none)::r) (K Φ rd fn F) (.mk t M c [] reads) R:=by
 obtain⟨F',M',s2,g1,g2,g3,g4,g5⟩:=i9 (c:=c) mask reads F M [] ok.free ok.hiM
 have ok':cV F' M' c:=by
  refine⟨g4,fun b hb=>?_,fun b hb=>?_,ok.ge⟩
  ·have:=g3 b;rw[aR (g4 b hb),ok.look hb]at this;exact this
  ·have:∃blk,(b,blk)∈F':=by
    clear g1 g2 g3 g5 h
    induction F' with
    |nil=>cases hb
    |cons a F' ih=>
     obtain⟨k,z⟩:=a;rw[cg]at hb;split at hb
     ·rename_i e;have e:k=b:=e;exact⟨z,by rw[e];exact bw ..⟩
     ·obtain⟨blk,hm⟩:=ih hb;exact⟨blk,bn _ hm⟩
   obtain⟨blk,hm⟩:=this;exact fQ F' g2 b blk hm
 obtain⟨v,M2,c2,hd,hg,hR⟩:=h F' M' ok' g3
 have hun:=g5 M2 hg.old
 have he:pX (K Φ rd fn F) base (i,mask,.mk dst (.e o) none) (.mk t M c [] reads)=some (.mk (setT t dst v) (aU s2 M2) c2 [] reads):=by
  show oB o (K Φ rd fn F) dst t c [] reads (bD mask reads F M [])=_;rw[g1];show lN F' dst t [] reads (s2++[]) (eE o (K Φ rd fn F') M' c t)=_;rw[hd,bQ];show(bif bH M2 F'&&true then(aU s2 M2).force fun M=>(setT t dst v).force fun t=>some (DS.mk t M c2 [] reads)else none)=_;rw[(hg.ok ok').free];show((aU s2 M2).force fun M=>(setT t dst v).force fun t=>some (DS.mk t M c2 [] reads))=_;rw[Tr.force_eq,Tr.force_eq]
 rw[ed]
 have hle:=hg.le
 exact⟨_,he,hR _ ⟨hle,fun b hb=>by rw[hun,ac hb],fun b hb=>by rw[hun,ab (by omega)];exact hg.new b hb⟩ (fun x hx=>by rw[hun,ab (by omega)])⟩
theorem Mz{F':RO}{M M':Mem}(h:∀b,look F' M' b=look F M b)(b o:Nat):load1 F' M' b o=load1 F M b o:=by
 show jp (look F' M' b) none (fun m d c=>cell m d c o)=jp (look F M b) none fun m d c=>cell m d c o
 rw[h]
theorem cq.lk{F':RO}{M M':Mem}{c sz:Nat}{v:V}{es:List (List V)}(h:∀b,look F' M' b=look F M b)(hs:cq F M c sz v es):cq F' M' c sz v es:=by
 obtain⟨h0,h1|⟨b,o,h1,h2,h3⟩⟩:=hs
 ·exact⟨h0,.inl h1⟩
 ·exact⟨h0,.inr ⟨b,o,h1,h2,fun k hk=>by rw[Mz h];exact h3 k hk⟩⟩
end
section
variable{Φ:Nat→Option CF}{rd:Option Nat}{fn:Nat}{F:RO}
theorem kM{F:RO}{M:Mem}:∀{pend:List (Nat×Nat×bv)},(∀e∈pend,look F M e.2.1=none)→bS F M pend=true
 |[],_=>rfl
 |e::r,h=>by
  show(bif (look F M e.2.1).isNone then bS F M r else false)=true;rw[h e (bw ..)];exact kM fun x hx=>h x (bn _ hx)
theorem rK{mask:Nat}{M:Mem}:∀{pend:List (Nat×Nat×bv)},(pend.all fun e=> !testBit mask e.1)=true→dM mask pend M=(M,pend)
 |[],_=>rfl
 |(i,b,blk)::r,h=>by
  rw[List.all_cons,ay]at h;have h1:testBit mask i=false:=by have:=h.1;revert this;cases testBit mask i<;>simp
  show(bif testBit mask i then(M.set b blk).force fun M=>dM mask r M else match dM mask r M with|(M,p)=>(M,(i,b,blk)::p))=_;rw[h1,rK h.2];rfl
theorem OC(base i mask:Nat)(dst:Option aJ)(o:EO)(r:List (Nat×Nat×CO))(t:T)(M:Mem)(c:Nat)(pend:List (Nat×Nat×bv))(reads:List (Nat×Nat))(R:DS→Prop)(ok:cV F M c)
 (hm:(pend.all fun e=> !testBit mask e.1)=true) (hp:∀e∈pend,e.2.1<c∧look F M e.2.1=none)
 (h:∀F' M',cV F' M' c→(∀b,look F' M' b=look F M b)→kc (eE o (K Φ rd fn F') M' c t) fun v M2 c2=>Gr c M' c2 M2∧ ∀M3,Gr c M c2 M3→(∀x,c≤x→M3.get x=M2.get x)→kj base r (K Φ rd fn F) (.mk (setT t dst v) M3 c2 pend reads) R):
 kj base ((i,mask,.mk dst (.e o) none)::r) (K Φ rd fn F) (.mk t M c pend reads) R:=by
 obtain⟨F',M',s2,g1,g2,g3,g4,g5⟩:=i9 (c:=c) mask reads F M [] ok.free ok.hiM
 have ok':cV F' M' c:=by
  refine⟨g4,fun b hb=>?_,fun b hb=>?_,ok.ge⟩
  ·have:=g3 b;rw[aR (g4 b hb),ok.look hb]at this;exact this
  ·have:∃blk,(b,blk)∈F':=by
    clear g1 g2 g3 g5 h
    induction F' with
    |nil=>cases hb
    |cons a F' ih=>
     obtain⟨k,z⟩:=a;rw[cg]at hb;split at hb
     ·rename_i e;have e:k=b:=e;exact⟨z,by rw[e];exact bw ..⟩
     ·obtain⟨blk,hm⟩:=ih hb;exact⟨blk,bn _ hm⟩
   obtain⟨blk,hm⟩:=this;exact fQ F' g2 b blk hm
 obtain⟨v,M2,c2,hd,hg,hR⟩:=h F' M' ok' g3
 have hun:=g5 M2 hg.old
 have hf1:bS F' M' pend=true:=kM fun e he=>(g3 _).trans (hp e he).2
 have hf2:bS F' M2 pend=true:=kM fun e he=>by
  have h1:=(hp e he).1;have h2:=(g3 e.2.1).trans (hp e he).2;obtain⟨h3,h4⟩:=fK h2;exact gy ((hg.old _ h1).trans h3) h4
 have he:pX (K Φ rd fn F) base (i,mask,.mk dst (.e o) none) (.mk t M c pend reads)=some (.mk (setT t dst v) (aU s2 M2) c2 pend reads):=by
  show t8 o (K Φ rd fn F) mask dst t c reads (dM mask pend M)=_;rw[rK hm];show oB o (K Φ rd fn F) dst t c pend reads (bD mask reads F M [])=_;rw[g1];show(bif bS F' M' pend then lN F' dst t pend reads (s2++[]) (eE o (K Φ rd fn F') M' c t)else none)=_;rw[hf1,cond_true,hd,bQ];show(bif bH M2 F'&&bS F' M2 pend then(aU s2 M2).force fun M=>(setT t dst v).force fun t=>some (DS.mk t M c2 pend reads)else none)=_;rw[(hg.ok ok').free,hf2];show((aU s2 M2).force fun M=>(setT t dst v).force fun t=>some (DS.mk t M c2 pend reads))=_;rw[Tr.force_eq,Tr.force_eq]
 rw[ed]
 have hle:=hg.le
 exact⟨_,he,hR _ ⟨hle,fun b hb=>by rw[hun,ac hb],fun b hb=>by rw[hun,ab (by omega)];exact hg.new b hb⟩ (fun x hx=>by rw[hun,ab (by omega)])⟩
end
section
variable{Φ:Nat→Option CF}{rd:Option Nat}{fn:Nat}{F:RO}
structure iS(h:Nat→Prop)(c:Nat)(M:Mem)(c':Nat)(M':Mem):Prop where
 le:c≤c'
 old:∀b,b<c→ ¬h b→M'.get b=M.get b
 new:∀b,c'≤b→M'.get b=none
theorem iS.of{h:Nat→Prop}{c c':Nat}{M M':Mem}(g:Gr c M c' M'):iS h c M c' M':=⟨g.le,fun b hb _=>g.old b hb,g.new⟩
theorem iS.trans{h:Nat→Prop}{M M1 M2:Mem}{c c1 c2:Nat}(g:iS h c M c1 M1)(g2:iS h c1 M1 c2 M2):iS h c M c2 M2:=
 ⟨bg g.le g2.le,fun b hb hn=>(g2.old b (Nat.lt_of_lt_of_le hb g.le) hn).trans (g.old b hb hn),g2.new⟩
theorem iS.wk{h h':Nat→Prop}{M M1:Mem}{c c1:Nat}(g:iS h c M c1 M1)(hh:∀b,b<c→h b→h' b):iS h' c M c1 M1:=
 ⟨g.le,fun b hb hn=>g.old b hb fun hx=>hn (hh b hb hx),g.new⟩
theorem iS.gr{h:Nat→Prop}{M M1:Mem}{c0 c c1:Nat}(g:iS h c M c1 M1)(h0:c0≤c)(hh:∀b,b<c0→ ¬h b):Gr c0 M c1 M1:=
 ⟨bg h0 g.le,fun b hb=>g.old b (by omega) (hh b hb),g.new⟩
theorem iS.set{h:Nat→Prop}{M:Mem}{c b:Nat}(ok:cV F M c)(hb:b<c)(hh:h b)(x:bv):iS h c M c (M.set b x):=
 ⟨ag _,fun b' _ hn=>ah _ _ fun e=>hn (by rw[e];exact hh),fun b' hb'=>by rw[ah _ _ (by omega)];exact ok.hiM b' hb'⟩
theorem iS.ok{h:Nat→Prop}{M M1:Mem}{c c1:Nat}(g:iS h c M c1 M1)(ho:cV F M c)(hh:∀b,b<c→h b→ ∃x,M.get b=some x):cV F M1 c1:=by
 refine⟨g.new,fun b hb=>ho.hiF b (bg g.le hb),fun b hb=>?_,bg ho.ge g.le⟩
 have hlt:b<c:=by
  by_cases hc:b<c
  ·exact hc
  ·rw[ho.hiF b (by omega)]at hb;cases hb
 rw[g.old b hlt fun hx=>?_]
 ·exact ho.ap b hb
 ·obtain⟨x,hx⟩:=hh b hlt hx;rw[ho.ap b hb]at hx;cases hx
theorem iD{c:Nat}{h:Nat→Prop}(mask:Nat):∀(reads:List (Nat×Nat)) (F:RO) (M:Mem) (s:List (Nat×bv)),(∀e∈reads,¬h e.2)→bH M F=true→(∀x,c≤x→M.get x=none)→
 ∃F' M' s2,bD mask reads F M s=Pr.mk F' M' (s2++s)∧bH M' F'=true∧(∀b,look F' M' b=look F M b)∧(∀x,c≤x→M'.get x=none)∧(∀x,(∀e∈reads,e.2≠x)→M'.get x=M.get x)∧ ∀N:Mem,(∀x,x<c→ ¬h x→N.get x=M'.get x)→ ∀x,(x<c→ ¬h x→(aU s2 N).get x=M.get x)∧(c≤x∨h x→(aU s2 N).get x=N.get x)
 |[],F,M,s,_,h2,h3=>⟨F,M,[],rfl,h2,fun _=>rfl,h3,fun _ _=>rfl,fun N hN x=>⟨fun h1 h2=>hN x h1 h2,fun _=>rfl⟩⟩
 |(i,x)::r,F,M,s,hr,h2,h3=>by
  have hr':∀e∈r,¬h e.2:=fun e he=>hr e (bn _ he);rw[bD];cases ht:testBit mask i with
  |true=>
   obtain⟨F',M',s2,g1,g2,g3,g4,g6,g5⟩:=iD mask r F M s hr' h2 h3;exact⟨F',M',s2,g1,g2,g3,g4,fun y hy=>g6 y fun e he=>hy e (bn _ he),g5⟩
  |false=>
   show∃F' M' s2,(match M.get x with|none=>bD mask r F M s|some blk=>(M.del x).force fun M=>bD mask r ((x,blk)::F) M ((x,blk)::s))=_∧_;cases hb:M.get x with
   |none=>
    obtain⟨F',M',s2,g1,g2,g3,g4,g6,g5⟩:=iD mask r F M s hr' h2 h3;exact⟨F',M',s2,g1,g2,g3,g4,fun y hy=>g6 y fun e he=>hy e (bn _ he),g5⟩
   |some blk=>
    have hxc:x<c:=by
     apply Classical.byContradiction;intro hx;rw[h3 x (by omega)]at hb;cases hb
    have hxh:¬h x:=hr (i,x) (bw ..);have hfr:bH (M.del x) ((x,blk)::F)=true:=by
     rw[dD,Tr.get_del,ac rfl,jG x h2];rfl
    obtain⟨F',M',s2,g1,g2,g3,g4,g6,g5⟩:=iD mask r ((x,blk)::F) (M.del x) ((x,blk)::s) hr' hfr (fun y hy=>by rw[Tr.get_del];split<;>first|rfl|exact h3 y hy);refine⟨F',M',s2++[(x,blk)],?_,g2,fun b=>?_,g4,fun y hy=>?_,fun N hN z=>?_⟩
    ·show((M.del x).force fun M=>bD mask r ((x,blk)::F) M ((x,blk)::s))=_;rw[Tr.force_eq,g1,bh];rfl
    ·rw[g3];by_cases e:b=x
     ·subst e;rw[au hb,aR (by rw[Tr.get_del,ac rfl]),cg,ac rfl]
     ·cases hM:M.get b with
      |some y=>rw[au hM,au (by rw[Tr.get_del,ab e];exact hM)]
      |none=>rw[aR hM,aR (by rw[Tr.get_del,ab e];exact hM),cg,ab (fun h=>e h.symm)]
    ·rw[g6 y fun e he=>hy e (bn _ he),Tr.get_del,ab (fun e=>hy (i,x) (bw ..) e.symm)]
    ·have key:∀(s2:List (Nat×bv)) (N:Mem),aU (s2++[(x,blk)]) N=(aU s2 N).set x blk:=by
      intro s2
      induction s2 with
      |nil=>intro N;show(N.set x blk).force (fun M=>M)=_;rw[Tr.force_eq];rfl
      |cons a s2 ih=>intro N;show(N.set a.1 a.2).force (fun M=>aU (s2++[(x,blk)]) M)=_;rw[Tr.force_eq,ih];show _=((N.set a.1 a.2).force fun M=>aU s2 M).set x blk;rw[Tr.force_eq]
     obtain⟨k1,k2⟩:=g5 N hN z;rw[key,Tr.get_set];refine⟨fun a1 a2=>?_,fun a1=>?_⟩
     ·by_cases e1:z=x
      ·subst e1;rw[ac rfl,hb]
      ·rw[ab e1,k1 a1 a2,Tr.get_del,ab e1]
     ·have e1:¬z=x:=by
       intro e;rcases a1 with a1|a1
       ·omega
       ·exact hxh (by rw[←e];exact a1)
      rw[ab e1,k2 a1]
theorem au9{hx:Nat→Prop}(base i mask:Nat)(dst:Option aJ)(o:EO)(r:List (Nat×Nat×CO))(t:T)(M:Mem)(c:Nat)(reads:List (Nat×Nat))(R:DS→Prop)(ok:cV F M c)(hr:∀e∈reads,¬hx e.2)(hs:∀b,b<c→hx b→ ∃x,M.get b=some x)
 (h:∀F' M',cV F' M' c→(∀b,look F' M' b=look F M b)→(∀b,(∀e∈reads,e.2≠b)→M'.get b=M.get b)→kc (eE o (K Φ rd fn F') M' c t) fun v M2 c2=>iS hx c M' c2 M2∧ ∀M3,iS hx c M c2 M3→(∀x,c≤x∨hx x→M3.get x=M2.get x)→kj base r (K Φ rd fn F) (.mk (setT t dst v) M3 c2 [] reads) R):
 kj base ((i,mask,.mk dst (.e o) none)::r) (K Φ rd fn F) (.mk t M c [] reads) R:=by
 obtain⟨F',M',s2,g1,g2,g3,g4,g6,g5⟩:=iD (c:=c) (h:=hx) mask reads F M [] hr ok.free ok.hiM
 have ok':cV F' M' c:=by
  refine⟨g4,fun b hb=>?_,fun b hb=>?_,ok.ge⟩
  ·have:=g3 b;rw[aR (g4 b hb),ok.look hb]at this;exact this
  ·have:∃blk,(b,blk)∈F':=by
    clear g1 g2 g3 g5 h
    induction F' with
    |nil=>cases hb
    |cons a F' ih=>
     obtain⟨k,z⟩:=a;rw[cg]at hb;split at hb
     ·rename_i e;have e:k=b:=e;exact⟨z,by rw[e];exact bw ..⟩
     ·obtain⟨blk,hm⟩:=ih hb;exact⟨blk,bn _ hm⟩
   obtain⟨blk,hm⟩:=this;exact fQ F' g2 b blk hm
 obtain⟨v,M2,c2,hd,hg,hR⟩:=h F' M' ok' g3 g6
 have hun:=g5 M2 hg.old
 have ok2:cV F' M2 c2:=hg.ok ok' fun b hb hxb=>by rw[g6 b fun e he e1=>hr e he (by rw[e1];exact hxb)];exact hs b hb hxb
 have he:pX (K Φ rd fn F) base (i,mask,.mk dst (.e o) none) (.mk t M c [] reads)=some (.mk (setT t dst v) (aU s2 M2) c2 [] reads):=by
  show oB o (K Φ rd fn F) dst t c [] reads (bD mask reads F M [])=_;rw[g1];show lN F' dst t [] reads (s2++[]) (eE o (K Φ rd fn F') M' c t)=_;rw[hd,bQ];show(bif bH M2 F'&&true then(aU s2 M2).force fun M=>(setT t dst v).force fun t=>some (DS.mk t M c2 [] reads)else none)=_;rw[ok2.free];show((aU s2 M2).force fun M=>(setT t dst v).force fun t=>some (DS.mk t M c2 [] reads))=_;rw[Tr.force_eq,Tr.force_eq]
 rw[ed]
 have hle:=hg.le
 refine⟨_,he,hR _ ⟨hle,fun b hb hn=>(hun b).1 hb hn,fun b hb=>?_⟩ fun x hx=>(hun x).2 hx⟩
 rw[(hun b).2 (.inl (by omega))];exact hg.new b hb
theorem Qf{M:Mem}{c b n ty sz bytes:Nat}{y:V}{es ns:List (List V)}(h:cq F M c sz (.l b 0 n n) es)(hn:es.length=n)(hsz:0<sz)(hy:cq F M c sz y ns)(hne:ns≠[])(h1:aC ns.flatten=true)(hr:kR (es.length+ns.length) bytes=true):
 kc (r4 F M c ty sz bytes (.l b 0 n n) y) fun v' M' c'=>c'=c+1∧M'=M.set c (qm ty (es++ns).flatten)∧v'= .u c 0 (es++ns).length 0 (es++ns).length:=by
 unfold r4
 rw[yx hsz hy]
 have hnl:=eF hy.1
 have hn0:ns.length≠0:=fun e=>hne (List.length_eq_zero_iff.1 e)
 have e1:mr F M c ty sz bytes (.l b 0 n n) (some (ns.length,ns.flatten))=tF F M c ty sz bytes b 0 n n ns.length ns.flatten:=by
  show(bif aC ns.flatten&&Nat.beq ns.flatten.length (Nat.mul ns.length sz)then app F M c ty sz bytes (.l b 0 n n) ns.length ns.flatten else _)=_;rw[h1,bI,aj (show ns.flatten.length=Nat.mul ns.length sz from hnl)];show(bif Nat.beq ns.length 0 then _ else _)=_;rw[bI,ak hn0];rfl
 have hcl:cO F M b 0 es.flatten:=by
  obtain⟨h0,⟨rfl,h2⟩|⟨b',o',hv,hb,hc⟩⟩:=h
  ·intro k hk;cases hk
  ·rcases hv with⟨cap,_,hv⟩|⟨el,kn,_,hv⟩
   ·injection hv with e1 e2;subst e1 e2;exact hc
   ·cases hv
 obtain⟨r,hrd⟩:=kP hsz h.1 hcl
 rw[hn]at hrd
 have e2:tF F M c ty sz bytes b 0 n n ns.length ns.flatten=gg M c ty bytes (es.length+ns.length) 0 false (es.flatten++ns.flatten):=by
  unfold tF;rw[bW,ak (show¬Nat.add n ns.length≤n by show¬n+ns.length≤n;omega),cond_false,hrd,←hn];rfl
 refine⟨_,_,_,(e1.trans e2).trans (nA M c ty bytes _ _ hr),rfl,by rw[List.flatten_append],by rw[aF]⟩
theorem Ds{M:Mem}{c sz:Nat}{v:V}{es:List (List V)}(h:cq F M c sz v es)(hne:es≠[]):∃v',tj sz v (some (.i .i64 1)) none none=some v'∧cq F M c sz v' es.tail:=by
 have hl:1≤es.length:=by
  cases es with
  |nil=>exact absurd rfl hne
  |cons a r=>simp
 obtain⟨v',_,_,e3,_,hs⟩:=S5 (lo:=1) (hi:=es.length) h hl (ag _)
 exact⟨v',e3 rfl .i64,by rwa [List.take_length,List.drop_one]at hs⟩
end
theorem ab8{F:RO}{M:Mem}{c:Nat}{vs:List V}{x:(Ty.int .i64).D}(h:Rp F M c (.int .i64) vs x):∃z:Int,vs=[.i .i64 z]∧ -9223372036854775808≤z∧z≤9223372036854775807:=by
 have key:∀z:Int,vs=[.i .i64 z]∧IntKind.i64.min≤z∧z≤IntKind.i64.max→ ∃z:Int,vs=[.i .i64 z]∧ -9223372036854775808≤z∧z≤9223372036854775807:=fun z h=>⟨z,h⟩
 exact key x h
theorem ti(p q:aJ)(x y:V)(t:T):cB [p,q] [x,y] t=some ((t.setP p x).setP q y):=by
 show(t.setP p x).force (fun t=>(t.setP q y).force fun t=>some t)=_
 rw[Tr.force_eq,Tr.force_eq]
def Xh:CC:=(.reg [(qq a4 (.mv (x6 0)))])
def Xi:CC:=(.reg [(qq a5 (.mv z0)),(qq a6 (.mv z1)),(qq a7 (.xib z5 z6)),(qq a4 (.mv z7))])
def c88:CF:= .mk 4 [.t a4] (.seq Xh (.seq Xi .ret))
theorem e88(v0 v1:V):bz 4 [v0,v1]=(.n (.n mL (some v1) mL) (some v0) iE):=rfl
def B88:=ai @e88 (ai (wu Xh.eq_1) (wu Xi.eq_1))
def Xf:CC:=(.reg [(qq a4 (.mv xF))])
def Xg:CC:=(.reg [(qq a5 (.mv z0)),(qq a6 (.ln .str z5)),(qq a7 (.mv z1)),(qq a8 (.ln .str z7)),(qq a9 (.bi .geq z6 z8)),(qq dX (.mv z9)),(aW fy (.mv z0) dX),(aW fR (.mv z1) dX),(aW fc (.ln .str eX) dX),(aW gQ (.slS eg none (some ey)) dX),(aW eN (.mv z1) dX),(aW iw (.bi .eql iH iq) dX),(qq gk (.pk gc jP xF)),(qq a4 (.mv gH))])
def c87:CF:= .mk 5 [.t a4] (.seq Xf (.seq Xg .ret))
theorem e87(v0 v1:V):bz 5 [v0,v1]=(.n (.n iE (some v1) iE) (some v0) jY):=rfl
def B87:=ai @e87 (ai (wu Xf.eq_1) (wu Xg.eq_1))
def t6:V→Option (List UInt8)
 | .s n x=>if bP (bl n x)=x then some (bl n x)else none
 |_=>none
theorem na(l:List UInt8):t6 (sV l)=some l:=by
 show(if bP (bl l.length (bP l))=bP l then some (bl l.length (bP l))else none)=_
 rw[jM,ac rfl]
theorem ad4{v:V}{l:List UInt8}(h:t6 v=some l):v=sV l:=by
 unfold t6 at h
 split at h
 ·rename_i n x;split at h
  ·rename_i hx;obtain rfl:=ae h;show V.s n x=V.s (bl n x).length (bP (bl n x));rw[hx,gI]
  ·cases h
 ·cases h
def tc(c:UInt8):List UInt8→Nat→Option Nat
 |[],_=>none
 |x::r,i=>if x=c then some i else tc c r (i+1)
theorem Am{c:UInt8}:∀{l:List UInt8} {i k:Nat},tc c l i=some k→i≤k∧k<i+l.length
 |[],i,k,h=>by cases h
 |x::r,i,k,h=>by
  unfold tc at h;split at h
  ·obtain rfl:=ae h;simp
  ·have:=Am h;rw[av];omega
theorem Cy(c:UInt8):∀(l:List UInt8) (i:Nat),kC c.toNat l.length (bP l) i=tc c l i
 |[],i=>rfl
 |x::r,i=>by
  have hx:=UInt8.toNat_lt x;show(bif Nat.beq ((x.toNat+256*bP r)%256) c.toNat then some i else kC c.toNat r.length ((x.toNat+256*bP r)/256) (Nat.succ i))=_;rw[show(x.toNat+256*bP r)%256=x.toNat by omega,show(x.toNat+256*bP r)/256=bP r by omega,bI,tc];by_cases h:x=c
  ·subst h;rw[aj rfl,ac rfl];rfl
  ·rw[ak (fun e=>h (UInt8.toNat_inj.1 e)),ab h,cond_false];exact Cy c r (i+1)
def b16(x c:V):Option V:=(cG (.xib (.c x) (.c c)) [] .e .e).val
theorem aU9{F:RO}(x c:X)(M:Mem)(t:T):(cG (.xib x c) F M t).val=b16 (x.ev t) (c.ev t):=Eq.trans rfl (Eq.refl _)
def td:Option Nat→Int
 |some k=>(k:Int)
 |none=> -1
theorem aw2(l:List UInt8)(c:UInt8):b16 (sV l) (bV c)=some (.i .i64 (td (tc c l 0))):=by
 show(AW (kC (Nat.mod c.toNat 256) l.length (bP l) 0)).val=_
 have:=UInt8.toNat_lt c
 rw[show Nat.mod c.toNat 256=c.toNat from Nat.mod_eq_of_lt (by omega),Cy]
 cases tc c l 0<;>rfl
theorem t88(Φ:Nat→Option CF)(h:Φ 88=some c88)(l:List UInt8)(b:UInt8)(ct:Nat):To Φ 88 [sV l,bV b] ct (.i .i64 (td (tc b l 0))):=by
 refine gG h ?_
 simp only[WX,B88,aU9,aw2]
def Pg:V→Option UInt8
 | .i .u8 (.ofNat n)=>if n<256 then some (UInt8.ofNat n)else none
 |_=>none
theorem GN(b:UInt8):Pg (bV b)=some b:=by
 have:=UInt8.toNat_lt b
 show(if b.toNat<256 then some (UInt8.ofNat b.toNat)else none)=_
 rw[ac (by omega),UInt8.ofNat_toNat]
theorem ad3{v:V}{b:UInt8}(h:Pg v=some b):v=bV b:=by
 unfold Pg at h
 split at h
 ·rename_i n;split at h
  ·obtain rfl:=ae h;show V.i .u8 (n:Int)=V.i .u8 ((UInt8.ofNat n).toNat:Int);rw[UInt8.toNat_ofNat',Nat.mod_eq_of_lt (by omega)]
  ·cases h
 ·cases h
def h88:List V→Option V
 |[v,w]=>(t6 v).bind fun l=>(Pg w).bind fun b=>some (.i .i64 (td (tc b l 0)))
 |_=>none
theorem Ap(l:List UInt8)(b:UInt8):h88 [sV l,bV b]=some (.i .i64 (td (tc b l 0))):=by
 show(t6 (sV l)).bind (fun l=>(Pg (bV b)).bind fun b=>some (V.i .i64 (td (tc b l 0))))=_
 rw[na,Option.bind_some,GN,Option.bind_some]
theorem Ae{F:RO}(x:X)(lo hi:Option X)(M:Mem)(t:T):kh (.slS x lo hi) F M t=oV (vT (x.ev t) (lo.map fun x=>x.ev t) (hi.map fun x=>x.ev t)):=by
 refine(eU ?_).trans (congrArg oV (YP (F:=F) x lo hi M t))
 intro F' M'
 refine je ?_
 show((ua (x.ev t) QR.f fun n s=>iO n s (optN t 0 lo) (optN t n hi))= .f∨ ∃y,(ua (x.ev t) QR.f fun n s=>iO n s (optN t 0 lo) (optN t n hi))= .v y)
 cases x.ev t with
 |s n s=>
  show QV (iO n s (optN t 0 lo) (optN t n hi));generalize optN t 0 lo=a;generalize optN t n hi=b;cases a with
  |none=>exact .inl rfl
  |some a=>
   cases b with
   |none=>exact .inl rfl
   |some b=>
    show QV (Bool.rec (motive:=fun _=>QR) .f (Bool.rec (motive:=fun _=>QR) .f (vS (b-a) (s/256^a%256^(b-a))) (Nat.ble b n)) (Nat.ble a b));cases Nat.ble a b with
    |false=>exact .inl rfl
    |true=>
     cases Nat.ble b n with
     |false=>exact .inl rfl
     |true=>exact .inr ⟨_,by show vS _ _=_;unfold vS;rw[bo,bo]⟩
 |_=>exact .inl rfl
theorem t87(Φ:Nat→Option CF)(h:Φ 87=some c87)(l p:List UInt8)(ct:Nat):To Φ 87 [sV l,sV p] ct (.b (decide (p.length≤l.length∧l.take p.length=p))):=by
 refine gG h ?_
 by_cases h1:p.length≤l.length
 ·have d1:decide ((p.length:Int)≤(l.length:Int))=true:=aj (by omega);have s1:=aR9 l .i64 p.length h1;have e:decide (p.length≤l.length∧l.take p.length=p)=decide (l.take p.length=p):=by simp[h1]
  rw[e];simp only[WX,B87,d1,s1]
 ·have d1:decide ((p.length:Int)≤(l.length:Int))=false:=ak (by omega);have e:decide (p.length≤l.length∧l.take p.length=p)=false:=ak (fun hh=>h1 hh.1);rw[e];simp only[WX,B87,d1]
def Me:List V→Option V
 |[v,w]=>(t6 v).bind fun l=>(t6 w).bind fun p=>some (.b (decide (p.length≤l.length∧l.take p.length=p)))
 |_=>none
theorem ab7(l p:List UInt8):Me [sV l,sV p]=some (.b (decide (p.length≤l.length∧l.take p.length=p))):=by
 show(t6 (sV l)).bind (fun l=>(t6 (sV p)).bind fun p=>some (V.b (decide (p.length≤l.length∧l.take p.length=p))))=_
 rw[na,Option.bind_some,na,Option.bind_some]
def Wt:CC:=(.reg [(qq a4 (.mv xF))])
def Wu:CC:=(.reg [(qq a5 (.mv z0)),(qq a6 (.mv z1)),(ee a7 (.call 87 [z5,z6])),(qq a4 (.mv z7))])
def c73:CF:= .mk 4 [.t a4] (.seq Wt (.seq Wu .ret))
theorem e73(v0 v1:V):bz 4 [v0,v1]=(.n (.n mL (some v1) mL) (some v0) iE):=rfl
def B73:=ai @e73 (ai (wu Wt.eq_1) (wu Wu.eq_1))
def WB:CC:=(.reg [(qq a4 (.mv (x6 0)))])
def WC:CC:=(.reg [(qq a5 (.mv z0)),(qq a6 (.mv z1)),(ee a7 (.call 88 [z5,z6])),(qq a4 (.mv z7))])
def c76:CF:= .mk 4 [.t a4] (.seq WB (.seq WC .ret))
theorem e76(v0 v1:V):bz 4 [v0,v1]=(.n (.n mL (some v1) mL) (some v0) iE):=rfl
def B76:=ai @e76 (ai (wu WB.eq_1) (wu WC.eq_1))
def Wz:CC:=(.reg [(qq a3 (.mv z0)),(qq a4 (.bi .gtr z3 (.c (.i .u8 32)))),(qq a5 (.mv z4)),(aW a6 (.mv z0) a5),(aW a7 (.bi .lss z6 (.c (.i .u8 127))) a5),(qq a8 (.pk z5 z7 xF)),(qq a9 (.mv z8)),(aW dX (.mv z0) a9),(pZ fy (.call 76 [(.c (.s 8 2603404095485934631)),gc]) a9),(aW fR (.bi .lss eg (x6 0)) a9),(qq fc (.pk z9 eX xF)),(qq a2 (.mv ey))])
def WA:CC:=(.seq (.reg [(qq a2 (.mv xF))]) (.seq Wz .ret))
def c75:CF:= .mk 4 [.t a2] WA
theorem e75(v0:V):bz 4 [v0]=(.n iE (some v0) iE):=rfl
def B75:=ai @e75 (ai (wu Wz.eq_1) (wu WA.eq_1))
def WP:CC:=(.reg [(qq a3 (.mv z0)),(qq a4 (.bi .geq z3 (.c (.i .u8 32)))),(qq a5 (.mv z4)),(aW a6 (.mv z0) a5),(aW a7 (.bi .lss z6 (.c (.i .u8 127))) a5),(qq a8 (.pk z5 z7 xF)),(qq a9 (.mv z8)),(aW dX (.mv z0) a9),(aW fy (.bi .neq gc (.c (.i .u8 39))) a9),(qq fR (.pk z9 eg xF)),(qq a2 (.mv eX))])
def WQ:CC:=(.seq (.reg [(qq a2 (.mv xF))]) (.seq WP .ret))
def c78:CF:= .mk 4 [.t a2] WQ
theorem e78(v0:V):bz 4 [v0]=(.n iE (some v0) iE):=rfl
def B78:=ai @e78 (ai (wu WP.eq_1) (wu WQ.eq_1))
def za(p l:List UInt8):Bool:=decide (p.length≤l.length∧l.take p.length=p)
theorem t73(Φ:Nat→Option CF)(h:Φ 73=some c73)(Me:Φ 87=some (.orc (aN Me)))(l p:List UInt8)(ct:Nat):To Φ 73 [sV l,sV p] ct (.b (za p l)):=by
 refine gG h ?_
 have h1:=ab7 l p
 simp only[WX,B73,Me,h1]
 rfl
def h73:List V→Option V
 |[v,w]=>(t6 v).bind fun l=>(t6 w).bind fun p=>some (V.b (za p l))
 |_=>none
theorem Mc(l p:List UInt8):h73 [sV l,sV p]=some (V.b (za p l)):=by
 show(t6 (sV l)).bind (fun l=>(t6 (sV p)).bind fun p=>some (V.b (za p l)))=_
 rw[na,Option.bind_some,na,Option.bind_some]
theorem t76(Φ:Nat→Option CF)(h:Φ 76=some c76)(h88:Φ 88=some (.orc (aN h88)))(l:List UInt8)(b:UInt8)(ct:Nat):To Φ 76 [sV l,bV b] ct (.i .i64 (td (tc b l 0))):=by
 refine gG h ?_
 have h1:=Ap l b
 simp only[WX,B76,h88,h1]
def oe(b:UInt8):Bool:=decide (32<b.toNat)&&(decide (b.toNat<127)&&decide (td (tc b [39,124,60,62,59,38,33,36] 0)<0))
def kO(b:UInt8):Bool:=decide (32≤b.toNat)&&(decide (b.toNat<127)&&decide (b.toNat≠39))
theorem ag6:V.s 8 2603404095485934631=sV [39,124,60,62,59,38,33,36]:=rfl
theorem t75(Φ:Nat→Option CF)(h:Φ 75=some c75)(h76:Φ 76=some (.orc (aN h88)))(b:UInt8)(ct:Nat):To Φ 75 [bV b] ct (.b (oe b)):=by
 refine gG h ?_
 have h1:=Ap [39,124,60,62,59,38,33,36] b
 rw[←ag6]at h1
 have hb:bV b= .i .u8 (b.toNat:Int):=rfl
 have hlt:=UInt8.toNat_lt b
 have d1:decide ((32:Int)<(b.toNat:Int))=decide (32<b.toNat):=by congr 1;exact propext (by omega)
 have d2:decide ((b.toNat:Int)<127)=decide (b.toNat<127):=by congr 1;exact propext (by omega)
 unfold oe
 rw[hb]at h1⊢
 cases x1:decide (32<b.toNat)with
 |false=>simp only[WX,B75,d1,x1,Bool.false_and]
 |true=>
  cases x2:decide (b.toNat<127)with
  |false=>simp only[WX,B75,d1,d2,x1,x2,Bool.false_and]
  |true=>simp only[WX,B75,h76,h1,d1,d2,x1,x2]
theorem t78(Φ:Nat→Option CF)(h:Φ 78=some c78)(b:UInt8)(ct:Nat):To Φ 78 [bV b] ct (.b (kO b)):=by
 refine gG h ?_
 have hb:bV b= .i .u8 (b.toNat:Int):=rfl
 have hlt:=UInt8.toNat_lt b
 have d1:decide ((32:Int)≤(b.toNat:Int))=decide (32≤b.toNat):=by congr 1;exact propext (by omega)
 have d2:decide ((b.toNat:Int)<127)=decide (b.toNat<127):=by congr 1;exact propext (by omega)
 have d3:decide ((b.toNat:Int)≠39)=decide (b.toNat≠39):=by congr 1;exact propext (by omega)
 unfold kO
 rw[hb]
 cases x1:decide (32≤b.toNat)with
 |false=>simp only[WX,B78,d1,x1,Bool.false_and]
 |true=>
  cases x2:decide (b.toNat<127)with
  |false=>simp only[WX,B78,d1,d2,x1,x2,Bool.false_and]
  |true=>simp only[WX,B78,d1,d2,d3,x1,x2]
abbrev YC(u:List (Option V))(x0 x1 x7 x8:V):T:=(.n (.n (.n (.n (dA u 15) (some x7) (dA u 23)) (uO u 3) (ec u 19 11 27)) (some x1) (aQ u 17 9 25 5 21 13 29)) (some x0) (.n (.n (.n (dA u 16) (some x8) (dA u 24)) (uO u 4) (ec u 20 12 28)) (uO u 2) (aQ u 18 10 26 6 22 14 30)))
abbrev aS2(u:List (Option V))(x0 x5 x6 x7:V):T:=(.n (.n (.n (.n (dA u 15) (some x7) (dA u 23)) (uO u 3) (ec u 19 11 27)) (uO u 1) (.n (ec u 17 9 25) (some x5) (ec u 21 13 29))) (some x0) (.n (aQ u 16 8 24 4 20 12 28) (uO u 2) (.n (ec u 18 10 26) (some x6) (ec u 22 14 30))))
def WD:CC:=(.reg [(qq a4 (.mv xF))])
def WE:CC:=(.reg [(qq a6 (.mv z0)),(qq a7 (.ln .str z6)),(qq a8 (.mv (x6 0)))])
def WF:CC:=(.reg [(qq a9 (.bi .lss z8 z7))])
def WG:CC:=(.reg [(qq dX (.mv z8)),(qq a5 (.mv gc))])
def WH:CC:=(.reg [(qq fy (.mv z1)),(qq fR (.mv z0)),(qq fc (.mv z5)),(qq gQ (.ixS eX ey)),(ee eN (.cv eg [iH])),(qq iw (.un .not iq))])
def WI:CC:=(.reg [(qq a4 (.mv xF))])
def WJ:CC:=(.seq WH (.cond jP (.seq WI .ret) .skip))
def WN:CC:=(.reg [(qq gk (.bi .add z8 (x6 1))),(qq a8 (.mv gH))])
def WO:CC:=(.seq (.cond z9 .skip (.exit 0)) (.seq (.block 1 (.seq WG WJ)) WN))
def KR:CC:=(.reg [(qq a4 (.mv xT))])
def KS:CC:=(.seq (.seq WE (.block 0 (.loop (.seq WF WO)))) (.seq KR .ret))
def c77:CF:= .mk 5 [.t a4] (.seq WD KS)
theorem e77(v0 v1:V):bz 5 [v0,v1]=(.n (.n iE (some v1) iE) (some v0) jY):=rfl
def SJ:=ai @e77 (ai (wu WD.eq_1) (ai (wu WE.eq_1) (ai (wu WF.eq_1) (ai (wu WG.eq_1) (ai (wu WH.eq_1) (ai (wu WI.eq_1) (ai (wu WJ.eq_1) (ai (wu WN.eq_1) (ai (wu WO.eq_1) (ai (wu KR.eq_1) (wu KS.eq_1)))))))))))
def Ve:CC:=(.reg [(aa a5 (.bsl 9 8 1 [(.s 0 0)] [(0,(.c (.s 2 15934))),(1,(.c (.s 2 9766))),(2,(.c (.s 2 31868))),(3,(.c (.s 1 124))),(4,(.c (.s 1 60))),(5,(.c (.s 1 62))),(6,(.c (.s 1 59))),(7,(.c (.s 1 33)))])),(qq a6 (.ln .slice z5)),(qq a7 (.mv (x6 0)))])
def Vf:CC:=(.reg [(qq a8 (.bi .lss z7 z6))])
def Vg:CC:=(.reg [(qq a9 (.iaS 1 z5 z7)),(qq dX (.ld1 z9)),(qq a4 (.mv gc))])
def Vh:CC:=(.reg [(qq fy (.mv z0)),(qq fR (.mv z4)),(ee fc (.call 73 [eg,eX]))])
def Vi:CC:=(.reg [(qq gQ (.mv z4)),(qq a2 (.mv iH))])
def Vj:CC:=(.seq Vh (.cond ey (.seq Vi .ret) .skip))
def Vk:CC:=(.reg [(qq eN (.bi .add z7 (x6 1))),(qq a7 (.mv iq))])
def Vl:CC:=(.seq (.cond z8 .skip (.exit 0)) (.seq (.block 1 (.seq Vg Vj)) Vk))
def Vm:CC:=(.seq (.reg [(qq a2 (.mv (.c (.s 0 0))))]) .ret)
def IZ:CC:=(.seq (.seq Ve (.block 0 (.loop (.seq Vf Vl)))) Vm)
def J0:CC:=(.seq (.reg [(qq a2 (.mv (.c (.s 0 0))))]) IZ)
def c55:CF:= .mk 5 [.t a2] J0
theorem e55(v0:V):bz 5 [v0]=(.n jY (some v0) jY):=rfl
def B55:=ai @e55 (ai (wu Ve.eq_1) (ai (wu Vf.eq_1) (ai (wu Vg.eq_1) (ai (wu Vh.eq_1) (ai (wu Vi.eq_1) (ai (wu Vj.eq_1) (ai (wu Vk.eq_1) (ai (wu Vl.eq_1) (ai (wu Vm.eq_1) (ai (wu IZ.eq_1) (wu J0.eq_1)))))))))))
def h75:List V→Option V
 |[v]=>(Pg v).bind fun b=>some (V.b (oe b))
 |_=>none
theorem Md(b:UInt8):h75 [bV b]=some (V.b (oe b)):=by
 show(Pg (bV b)).bind (fun b=>some (V.b (oe b)))=_
 rw[GN,Option.bind_some]
def Gg:List V→Option V
 |[v]=>(Pg v).bind fun b=>some (V.b (kO b))
 |_=>none
theorem ab6(b:UInt8):Gg [bV b]=some (V.b (kO b)):=by
 show(Pg (bV b)).bind (fun b=>some (V.b (kO b)))=_
 rw[GN,Option.bind_some]
theorem t77(Φ:Nat→Option CF)(h:Φ 77=some c77)(Gg:Φ 78=some (.orc (aN Gg)))(l:List UInt8)(hl:l.length≤1000000)(ct:Nat):To Φ 77 [sV l,.f 78 [] []] ct (.b (l.all kO)):=by
 refine gG h ?_
 simp only[WX,SJ]
 obtain⟨I1,hI1⟩:∃I:Nat→St→Prop,∀n s',I n s'↔(∃(i:Nat) (u:List (Option V)),n=l.length-i∧i≤l.length∧s'= .mk ((YC u (sV l) (.f 78 [] []) (.i .i64 (l.length:Int)) (.i .i64 (i:Int)))) [] .e ct∧l.all kO=(l.drop i).all kO):=⟨fun n s'=>_,fun _ _=>Iff.rfl⟩
 refine bT I1 ?_ l.length _ ((hI1 _ _).2 ⟨0,(G2 (X4 (X1 (G2 (cw (X4 (X2 []))))))),rfl,aB _,rfl,by rw[List.drop_zero]⟩)
 intro n s' hIs
 obtain⟨i,u,rfl,hi,rfl,hb⟩:=(hI1 _ _).1 hIs
 clear hIs
 have q8:du .add (.i .i64 (i:Int)) (.i .i64 1)=some (.i .i64 ((i+1:Nat):Int)):=by rw[bJ _ _ (by omega) (by omega)];simp
 by_cases hlt:i<l.length
 ·have d1:decide ((i:Int)<(l.length:Int))=true:=aj (by omega);have hix:vv (sV l) (.i .i64 (i:Int))=some (bV l[i]):=EQ l .i64 i hlt;have hd:l.drop i=l[i]::l.drop (i+1):=cF hlt;have hh:=ab6 l[i];cases ho:kO l[i]with
  |true=>
   rw[ho]at hh;simp only[WX,SJ,d1,hix,Gg,hh,q8];exact⟨l.length-(i+1),by omega,(hI1 _ _).2 ⟨i+1,(G2 (X4 (X1 (G2 (cw (X4 (X2 []))))))),rfl,by omega,rfl,by rw[hb,hd,List.all_cons,ho,Bool.true_and]⟩⟩
  |false=>
   rw[ho]at hh;rw[show l.all kO=false by rw[hb,hd,List.all_cons,ho,Bool.false_and]];simp only[WX,SJ,d1,hix,Gg,hh]
 ·obtain rfl:i=l.length:=by omega
  have d1:decide ((l.length:Int)<(l.length:Int))=false:=ak (by omega);rw[show l.all kO=true by rw[hb,cZ];rfl];simp only[WX,SJ,d1]
theorem bg0(Φ:Nat→Option CF)(h:Φ 77=some c77)(h75:Φ 75=some (.orc (aN h75)))(l:List UInt8)(hl:l.length≤1000000)(ct:Nat):To Φ 77 [sV l,.f 75 [] []] ct (.b (l.all oe)):=by
 refine gG h ?_
 simp only[WX,SJ]
 obtain⟨I1,hI1⟩:∃I:Nat→St→Prop,∀n s',I n s'↔(∃(i:Nat) (u:List (Option V)),n=l.length-i∧i≤l.length∧s'= .mk ((YC u (sV l) (.f 75 [] []) (.i .i64 (l.length:Int)) (.i .i64 (i:Int)))) [] .e ct∧l.all oe=(l.drop i).all oe):=⟨fun n s'=>_,fun _ _=>Iff.rfl⟩
 refine bT I1 ?_ l.length _ ((hI1 _ _).2 ⟨0,(G2 (X4 (X1 (G2 (cw (X4 (X2 []))))))),rfl,aB _,rfl,by rw[List.drop_zero]⟩)
 intro n s' hIs
 obtain⟨i,u,rfl,hi,rfl,hb⟩:=(hI1 _ _).1 hIs
 clear hIs
 have q8:du .add (.i .i64 (i:Int)) (.i .i64 1)=some (.i .i64 ((i+1:Nat):Int)):=by rw[bJ _ _ (by omega) (by omega)];simp
 by_cases hlt:i<l.length
 ·have d1:decide ((i:Int)<(l.length:Int))=true:=aj (by omega);have hix:vv (sV l) (.i .i64 (i:Int))=some (bV l[i]):=EQ l .i64 i hlt;have hd:l.drop i=l[i]::l.drop (i+1):=cF hlt;have hh:=Md l[i];cases ho:oe l[i]with
  |true=>
   rw[ho]at hh;simp only[WX,SJ,d1,hix,h75,hh,q8];exact⟨l.length-(i+1),by omega,(hI1 _ _).2 ⟨i+1,(G2 (X4 (X1 (G2 (cw (X4 (X2 []))))))),rfl,by omega,rfl,by rw[hb,hd,List.all_cons,ho,Bool.true_and]⟩⟩
  |false=>
   rw[ho]at hh;rw[show l.all oe=false by rw[hb,hd,List.all_cons,ho,Bool.false_and]];simp only[WX,SJ,d1,hix,h75,hh]
 ·obtain rfl:i=l.length:=by omega
  have d1:decide ((l.length:Int)<(l.length:Int))=false:=ak (by omega);rw[show l.all oe=true by rw[hb,cZ];rfl];simp only[WX,SJ,d1]
def gb(l:List (List UInt8)):List (List V):=l.map fun w=>[sV w]
theorem su{F:RO}{M:Mem}{c:Nat}{v:V}{l:List (List UInt8)}(hs:cq F M c 1 v (gb l))(i:Nat)(hi:i<l.length):
 ∃b o,b<c∧(∀k,j6 1 v (.i k (i:Int))=some (.p b o))∧load1 F M b o=some (sV l[i]):=
 cq.one hs i (by simpa [gb]using hi) (by simp[gb])
def Gh:List (List UInt8):=[[62,62],[38,38],[124,124],[124],[60],[62],[59],[33]]
def vQ(l:List UInt8):List UInt8:=(Gh.find? fun x=>za x l).getD []
theorem r55(Φ:Nat→Option CF)(h:Φ 55=some c55)(h73:Φ 73=some (.orc (aN h73))){F:RO}{M:Mem}{c:Nat}(ok:cV F M c)(l:List UInt8):
 Calls Φ F 55 [sV l] M c fun r _ _=>r=sV (vQ l):=by
 refine aI h ?_
 simp only[WX,Nat.reduceAdd,B55]
 have hs:cq F (M.set c (dq [V.s 0 0] 9 [V.s 2 15934,V.s 2 9766,V.s 2 31868,V.s 1 124,V.s 1 60,V.s 1 62,V.s 1 59,V.s 1 33])) (c+1) 1 (.l c 0 8 8) (gb Gh):=S4 (d:=[V.s 0 0]) (ty:=9) ((am _ _ _).trans (by rfl)) (by omega) (by intro e he;obtain⟨x,_,rfl⟩:=List.mem_map.1 he;rfl) rfl
 generalize M.set c (dq [V.s 0 0] 9 [V.s 2 15934,V.s 2 9766,V.s 2 31868,V.s 1 124,V.s 1 60,V.s 1 62,V.s 1 59,V.s 1 33])=M1 at hs⊢
 have h8:((8:Nat):Int)=8:=rfl
 obtain⟨I1,hI1⟩:∃I:Nat→St→Prop,∀n s',I n s'↔(∃(i:Nat) (u:List (Option V)),n=8-i∧i≤8∧s'= .mk ((aS2 u (sV l) (.l c 0 8 8) (.i .i64 ((8:Nat):Int)) (.i .i64 (i:Int)))) [] M1 (c+1)∧vQ l=((Gh.drop i).find? fun x=>za x l).getD []):=⟨fun n s'=>_,fun _ _=>Iff.rfl⟩
 refine bT I1 ?_ 8 _ ((hI1 _ _).2 ⟨0,(G1 (X4 (G2 (G1 (cw (X4 (X2 (X1 [])))))))),rfl,aB _,rfl,rfl⟩)
 intro n s' hIs
 obtain⟨i,u,rfl,hi,rfl,hb⟩:=(hI1 _ _).1 hIs
 clear hIs
 have q8:du .add (.i .i64 (i:Int)) (.i .i64 1)=some (.i .i64 ((i+1:Nat):Int)):=by rw[bJ _ _ (by omega) (by omega)];simp
 by_cases hlt:i<8
 ·have d1:decide ((i:Int)<((8:Nat):Int))=true:=aj (by omega);have hlt':i<Gh.length:=hlt;obtain⟨bb,oo,_,hia,hld⟩:=su hs i hlt';have hia:=hia .i64;have hd:Gh.drop i=Gh[i]::Gh.drop (i+1):=cF hlt';have hh:=Mc l Gh[i];rw[hd,List.find?_cons]at hb;cases ho:za Gh[i] l with
  |true=>
   rw[ho]at hh hb;simp only[WX,B55,d1,hia,hld,h73,hh];rw[hb];rfl
  |false=>
   rw[ho]at hh hb;simp only[WX,B55,d1,hia,hld,h73,hh,q8];exact⟨8-(i+1),by omega,(hI1 _ _).2 ⟨i+1,(G1 (X4 (G2 (G1 (cw (X4 (X2 (X1 [])))))))),rfl,by omega,rfl,hb⟩⟩
 ·obtain rfl:i=8:=by omega
  have d1:decide (((8:Nat):Int)<((8:Nat):Int))=false:=ak (by omega);simp only[WX,B55,d1];rw[hb];rfl
def h55:List V→Option V
 |[v]=>(t6 v).bind fun l=>some (sV (vQ l))
 |_=>none
theorem Mb(l:List UInt8):h55 [sV l]=some (sV (vQ l)):=by
 show(t6 (sV l)).bind (fun l=>some (sV (vQ l)))=_
 rw[na,Option.bind_some]
def bU:List UInt8→List UInt8
 |[]=>[]
 |[a]=>if a=124∨a=60∨a=62∨a=59∨a=33 then[a]else[]
 |a::b::_=>if(a=62∧b=62)∨(a=38∧b=38)∨(a=124∧b=124)then[a,b]else if a=124∨a=60∨a=62∨a=59∨a=33 then[a]else[]
theorem ae2(x y a b:UInt8)(l:List UInt8):za [x,y] (a::b::l)=(decide (a=x)&&decide (b=y)):=by
 unfold za
 rw[←Bool.decide_and]
 congr 1
 simp
theorem aP6(x a:UInt8)(l:List UInt8):za [x] (a::l)=decide (a=x):=by
 unfold za
 congr 1
 simp
theorem Yr(x y a:UInt8):za [x,y] [a]=false:=ak (by simp)
theorem Rt(x:UInt8)(p:List UInt8):za (x::p) []=false:=ak (by simp)
theorem Ns:∀l:List UInt8,vQ l=bU l
 |[]=>by unfold vQ Gh;simp only[List.find?,Rt];rfl
 |[a]=>by
  unfold vQ Gh bU;simp only[List.find?,Yr,aP6];by_cases e1:a=124
  ·subst e1;rfl
  ·by_cases e2:a=60
   ·subst e2;rfl
   ·by_cases e3:a=62
    ·subst e3;rfl
    ·by_cases e4:a=59
     ·subst e4;rfl
     ·by_cases e5:a=33
      ·subst e5;rfl
      ·simp[e1,e2,e3,e4,e5]
 |a::b::r=>by
  unfold vQ Gh bU;simp only[List.find?,ae2,aP6];by_cases e1:a=124
  ·subst e1;by_cases f:b=124
   ·subst f;rfl
   ·simp[f]
  ·by_cases e3:a=62
   ·subst e3;by_cases f:b=62
    ·subst f;rfl
    ·simp[f]
   ·by_cases e6:a=38
    ·subst e6;by_cases f:b=38
     ·subst f;rfl
     ·simp[f]
    ·by_cases e2:a=60
     ·subst e2;rfl
     ·by_cases e4:a=59
      ·subst e4;rfl
      ·by_cases e5:a=33
       ·subst e5;rfl
       ·simp[e1,e2,e3,e4,e5,e6]
theorem S3(a:UInt8):bU [a]=if a=124∨a=60∨a=62∨a=59∨a=33 then[a]else[]:=rfl
theorem vR(a b:UInt8)(r:List UInt8):bU (a::b::r)=if(a=62∧b=62)∨(a=38∧b=38)∨(a=124∧b=124)then[a,b]else if a=124∨a=60∨a=62∨a=59∨a=33 then[a]else[]:=rfl
abbrev Pc:=List UInt8×Bool
def Fb(p:Pc):List V:=[sV p.1,.b p.2]
def kL(w:List Pc):List (List V):=w.map Fb
def qn(t:List UInt8):Nat:=(t.takeWhile kO).length
theorem jD(x:UInt8)(t:List UInt8):qn (x::t)=if kO x=true then qn t+1 else 0:=by
 unfold qn
 rw[List.takeWhile_cons]
 split<;>rfl
def stW:List UInt8→Option (Option (Nat×List UInt8×Bool))
 |[]=>none
 |c::t=>if c=32∨bU (c::t)≠[]∨c=38 then none
  else if c=39 then(if(t.drop (qn t)).head?=some 39 then some (some (qn t+1,t.take (qn t),false))else some none)
  else if c=36 then(if t.head?=some 63 then some (some (1,[],true))else some none)
  else if oe c=true then some (some (0,[c],false))else some none
theorem Bs{r:List UInt8}{x:Option (Nat×List UInt8×Bool)}(h:stW r=some x):0<r.length:=by
 cases r with
 |nil=>cases h
 |cons c t=>simp
def m8(w:List Pc)(text:List UInt8)(sm:Bool):List Pc:=if text≠[]∨(sm=true∧w=[])then w++[(text,false)]else w
def gi(w:List Pc)(text:List UInt8):List Pc:=(if text≠[]then w++[(text,false)]else w)++[([],true)]
def oX:Nat→List UInt8→List Pc→List UInt8→Bool→Nat→Option (List Pc×Nat)
 |0,_,_,_,_,_=>none
 |f+1,r,w,text,sm,n=>match stW r with
  |none=>some (m8 w text sm,n)
  |some none=>none
  |some (some (k,bs,true))=>oX f (r.drop (k+1)) (gi w text) [] false (n+(k+1))
  |some (some (k,bs,false))=>oX f (r.drop (k+1)) w (text++bs) true (n+(k+1))
theorem nS:∀(f g:Nat) (r:List UInt8) (w:List Pc) (text:List UInt8) (sm:Bool) (n:Nat),r.length<f→r.length<g→oX f r w text sm n=oX g r w text sm n
 |0,_,_,_,_,_,_,h,_=>by omega
 |_,0,_,_,_,_,_,_,h=>by omega
 |f+1,g+1,r,w,text,sm,n,h1,h2=>by
  unfold oX;cases hs:stW r with
  |none=>rfl
  |some x=>
   have hr:=Bs hs
   match x with
   |none=>rfl
   |some (k,bs,true)=>exact nS f g _ _ _ _ _ (by rw[aZ];omega) (by rw[aZ];omega)
   |some (k,bs,false)=>exact nS f g _ _ _ _ _ (by rw[aZ];omega) (by rw[aZ];omega)
def gj(r:List UInt8)(w:List Pc)(text:List UInt8)(sm:Bool)(n:Nat):Option (List Pc×Nat):=oX (r.length+1) r w text sm n
theorem nT{r:List UInt8}{w:List Pc}{text:List UInt8}{sm:Bool}{n:Nat}(h:stW r=none):gj r w text sm n=some (m8 w text sm,n):=by
 unfold gj oX;rw[h]
theorem Df{r:List UInt8}{w:List Pc}{text:List UInt8}{sm:Bool}{n:Nat}(h:stW r=some none):gj r w text sm n=none:=by
 unfold gj oX;rw[h]
theorem yh{r:List UInt8}{w:List Pc}{text bs:List UInt8}{sm:Bool}{n k:Nat}(h:stW r=some (some (k,bs,true))):gj r w text sm n=gj (r.drop (k+1)) (gi w text) [] false (n+(k+1)):=by
 have hr:=Bs h
 unfold gj
 rw[oX,h]
 exact nS _ _ _ _ _ _ _ (by rw[aZ];omega) (by omega)
theorem nU{r:List UInt8}{w:List Pc}{text bs:List UInt8}{sm:Bool}{n k:Nat}(h:stW r=some (some (k,bs,false))):gj r w text sm n=gj (r.drop (k+1)) w (text++bs) true (n+(k+1)):=by
 have hr:=Bs h
 unfold gj
 rw[oX,h]
 exact nS _ _ _ _ _ _ _ (by rw[aZ];omega) (by omega)
def WdP(F:RO)(s:List UInt8)(c:Nat)(r:V)(M':Mem)(c':Nat):Prop:=(∃ps n v,gj s [] [] false 0=some (ps,n)∧n≤s.length∧r= .t [.g [v],.i .i64 (n:Int)]∧ ∃b,bm M' c c' b 64 2 v (kL ps))∨(gj s [] [] false 0=none∧r= .t [.g [.l0],.i .i64 0])
theorem Rr(w:List Pc)(p:Pc):kL (w++[p])=kL w++[Fb p]:=by unfold kL;rw[List.map_append];rfl
theorem eM(w:List Pc):(kL w).length=w.length:=List.length_map ..
theorem Qa{M:Mem}{c0 c b:Nat}{v:V}{w:List Pc}(h:bm M c0 c b 64 2 v (kL w)):sU v=some (.i .i64 (w.length:Int)):=by
 have:=(h.sl (F:=[])).len;rwa [eM]at this
theorem jn{M:Mem}{c0 c b:Nat}{v:V}{w:List Pc}(h:bm M c0 c b 64 2 v (kL w)):bF v=true∧flatten v=[v]∧aC [v]=true:=by
 rcases h with⟨_,⟨_,rfl⟩|⟨_,_,rfl,_⟩⟩<;>exact⟨rfl,rfl,rfl⟩
theorem qE{F:RO}{M1:Mem}{c0 c1 b1:Nat}{v:V}{w:List Pc}(p:Pc)(hA:bm M1 c0 c1 b1 64 2 v (kL w))(ok1:cV F M1 c1)(h0:c0≤c1)(hw:w.length≤1000000):
 kc (r4 F (M1.set c1 (dq [V.s 0 0,V.b false] 64 [sV p.1,.b p.2])) (c1+1) 64 2 24 v (.l c1 0 1 1)) fun v' M' c'=>∃b',bm M' c0 c' b' 64 2 v' (kL (w++[p]))∧Gr c0 M1 c' M'∧c1+1≤c'∧(∀x,x<c1→x≠b1→M'.get x=M1.get x):=by
 have grY:Gr c0 M1 (c1+1) (M1.set c1 (dq [V.s 0 0,V.b false] 64 [sV p.1,.b p.2])):=⟨by omega,fun b hb=>ah _ _ (by omega),fun b hb=>by rw[ah _ _ (by omega)];exact ok1.hiM b (by omega)⟩
 have hy:cq F (M1.set c1 (dq [V.s 0 0,V.b false] 64 [sV p.1,.b p.2])) (c1+1) 2 (.l c1 0 1 1) (kL [p]):=S4 (d:=[V.s 0 0,V.b false]) (ty:=64) (by rw[am];rfl) (by omega) (fun e he=>by obtain⟨x,_,rfl⟩:=List.mem_map.1 he;rfl) rfl
 refine(jo (bytes:=24) (hA.up (show c1≤c1+1 by omega) (fun hx=>ah _ _ (by omega))) (c0:=c0) (M0:=M1) grY (by decide) hy rfl (gD (by rw[eM,eM];simp;omega) (by rw[eM,eM];simp;omega))).mono ?_
 rintro v' M' c' ⟨b',h1,h2,h3,h4,_⟩
 exact⟨b',by rw[Rr];exact h1,h2,h3,fun x hx hb=>(h4 x (by omega) hb).trans (ah _ _ (by omega))⟩
theorem Ca{M:Mem}{c0 c0' c b ty sz:Nat}{v:V}{es:List (List V)}(h:bm M c0 c b ty sz v es)(hx:c0'≤c0):bm M c0' c b ty sz v es:=by
 rcases h with⟨h0,h|⟨h1,h2,h3,h4⟩⟩
 ·exact⟨h0,.inl h⟩
 ·exact⟨h0,.inr ⟨by omega,h2,h3,h4⟩⟩
theorem kp{M:Mem}{c0 c1 b x ty sz:Nat}{y:bv}{v:V}{es:List (List V)}(h:bm M c0 c1 b ty sz v es)(hx:x<c0):bm (M.set x y) c0 c1 b ty sz v es:=by
 rcases h with⟨h0,h|⟨h1,h2,h3,h4⟩⟩
 ·exact⟨h0,.inl h⟩
 ·exact⟨h0,.inr ⟨h1,h2,h3,by rw[ah _ _ (by omega)];exact h4⟩⟩
theorem Du(c:UInt8)(t:List UInt8):stW (c::t)=if c=32∨bU (c::t)≠[]∨c=38 then none
 else if c=39 then(if(t.drop (qn t)).head?=some 39 then some (some (qn t+1,t.take (qn t),false))else some none)
 else if c=36 then(if t.head?=some 63 then some (some (1,[],true))else some none)
 else if oe c=true then some (some (0,[c],false))else some none:=rfl
theorem ah1{t:List UInt8}(h:¬((39:UInt8)=32∨bU (39::t)≠[]∨(39:UInt8)=38)):stW (39::t)=if(t.drop (qn t)).head?=some 39 then some (some (qn t+1,t.take (qn t),false))else some none:=by
 rw[Du,ab h,ac rfl]
theorem Br{t:List UInt8}(h:¬((36:UInt8)=32∨bU (36::t)≠[]∨(36:UInt8)=38)):stW (36::t)=if t.head?=some 63 then some (some (1,[],true))else some none:=by
 rw[Du,ab h,ab (by decide),ac rfl]
theorem YB{x:UInt8}{t:List UInt8}(h:¬(x=32∨bU (x::t)≠[]∨x=38))(h1:x≠39)(h2:x≠36):stW (x::t)=if oe x=true then some (some (0,[x],false))else some none:=by
 rw[Du,ab h,ab h1,ab h2]
theorem ah3{x:UInt8}{t:List UInt8}(h:x=32∨bU (x::t)≠[]∨x=38):stW (x::t)=none:=by
 rw[Du,ac h]
def Wv:CC:=(.reg [(qq a5 (.ld1 z0)),(qq a6 (.ln .slice z5)),(qq a7 (.bi .gtr z6 (x6 0))),(qq a8 (.mv z7)),(aK a9 (.ld1 z1) a8),(aK dX (.mv z9) a8),(aW fy (.ld1 z2) dX),(aW fR (.ln .slice eg) dX),(aW fc (.bi .eql eX (x6 0)) dX),(aK gQ (.pk gc ey xF) a8),(aK eN (.mv iH) a8),(aW iw (.ld1 z3) eN),(aW gk (.ld1 z4) eN),(aW gS (.ln .str gH) eN),(aW lj (.bi .geq jP ir) eN),(aW ke (.mv lQ) eN),(aK gT (.ld1 z4) ke),(aK lL (.ld1 z3) ke),(aK kl (.ixS oc og) ke),(aK kf (.bi .neq mW (.c (.i .u8 36))) ke),(aW mS (.pk mR xT pf) eN),(aK mg (.pk iq qQ xF) a8),(qq iU (.pk z8 xT qx))])
def Ww:CC:=(.reg [(qq mT (.ld1 z2)),(qq ll (.ld1 z0)),(qq mh (.bs sN)),(qq mU (.bld [(.s 0 0),(.b false)] [(0,1,sY)])),(aa sQ (.bsl 64 1 2 [(.s 0 0),(.b false)] [(0,sZ)])),(ee sR (.app 64 2 24 qR wy)),(ez (.st 1 z2 wz))])
def Wx:CC:=(.seq Wv (.cond qy Ww .skip))
def Wy:CC:=(.reg [(ez (.st 1 z0 (.c .l0))),(ez (.st 1 z1 xF))])
def Gd:CF:= .mk 6 [] (.seq Wx Wy)
theorem e74(v0 v1 v2 v3 v4:V):bz 6 [v0,v1,v2,v3,v4]=(.n (.n (.n iE (some v3) iE) (some v1) jY) (some v0) (.n (.n iE (some v4) iE) (some v2) jY)):=rfl
def PA:=ai @e74 (ai (wu Wv.eq_1) (ai (wu Ww.eq_1) (ai (wu Wx.eq_1) (wu Wy.eq_1))))
def bE(l:List UInt8):List (List V):=l.map fun x=>[bV x]
theorem mj(l:List UInt8):(bE l).length=l.length:=List.length_map ..
def WS(M0:Mem)(b:Nat)(s:List UInt8)(M:Mem)(c1:Nat)(w:List Pc)(text:List UInt8)(sm:Bool)(i:Nat):Prop:=
 ∃(v tv:V) (p1 p2:Nat),Gr b M0 c1 M∧b+6≤c1∧M.get b=some (af 9 [sV s])∧M.get (b+1)=some (af 36 [.l0])∧M.get (b+2)=some (af 34 [v])∧M.get (b+3)=some (af 96 [tv])∧M.get (b+4)=some (af 4 [.b sm])∧M.get (b+5)=some (af 3 [.i .i64 (i:Int)])∧bm M (b+6) c1 p1 64 2 v (kL w)∧bm M (b+6) c1 p2 5 1 tv (bE text)
def LX(w:List Pc)(text:List UInt8)(sm:Bool)(d:Bool):List Pc:=if text≠[]∨(sm=true∧w=[]∧d=false)then w++[(text,false)]else w
theorem zo{M:Mem}{c0 c1 p1 p2:Nat}{v tv:V}{w:List Pc}{text:List UInt8}(h1:bm M c0 c1 p1 64 2 v (kL w))(h2:bm M c0 c1 p2 5 1 tv (bE text)):tv= .l0∧text=[]∨v= .l0∧w=[]∨p1≠p2:=by
 rcases h2 with⟨_,⟨e2,rfl⟩|⟨_,_,_,g2⟩⟩
 ·exact .inl ⟨rfl,List.map_eq_nil_iff.1 e2⟩
 ·rcases h1 with⟨_,⟨e1,rfl⟩|⟨_,_,_,g1⟩⟩
  ·exact .inr (.inl ⟨rfl,List.map_eq_nil_iff.1 e1⟩)
  ·refine .inr (.inr fun e=>?_);subst e;rw[g1]at g2;injection g2 with g2
   injection g2 with g3
   cases g3
theorem cz{M:Mem}{c0 c1 b x ty sz:Nat}{y:bv}{v:V}{es:List (List V)}(h:bm M c0 c1 b ty sz v es)(hx:x<c0):bm (M.set x y) c0 c1 b ty sz v es:=by
 rcases h with⟨h0,h|⟨h1,h2,h3,h4⟩⟩
 ·exact⟨h0,.inl h⟩
 ·exact⟨h0,.inr ⟨h1,h2,h3,by rw[ah _ _ (by omega)];exact h4⟩⟩
theorem wa{M0 M3:Mem}{b c2 b2 i:Nat}{s:List UInt8}{W:List Pc}{v':V}(gr:Gr b M0 c2 M3)(h6:b+6≤c2)(m0:M3.get b=some (af 9 [sV s]))(m1:M3.get (b+1)=some (af 36 [.l0]))(m2:M3.get (b+2)=some (af 34 [v']))(m5:M3.get (b+5)=some (af 3 [.i .i64 (i:Int)]))(hA:bm M3 (b+6) c2 b2 64 2 v' (kL W)):
 WS M0 b s ((M3.set (b+3) (af 96 [.l0])).set (b+4) (af 4 [.b false])) c2 W [] false i:=
 ⟨v',.l0,b2,0,(gr.set (b+3) _ (by omega) (by omega) (ag _)).set (b+4) _ (by omega) (by omega) (ag _),h6,by rw[ah _ _ (by omega),ah _ _ (by omega)];exact m0,by rw[ah _ _ (by omega),ah _ _ (by omega)];exact m1,by rw[ah _ _ (by omega),ah _ _ (by omega)];exact m2,by rw[ah _ _ (by omega)];exact am _ _ _,am _ _ _,by rw[ah _ _ (by omega),ah _ _ (by omega)];exact m5,cz (cz hA (by omega)) (by omega),bm.nil⟩
theorem r74(Φ:Nat→Option CF)(h:Φ 74=some Gd){F:RO}{M0 M:Mem}{b c1 i:Nat}{s text:List UInt8}{w:List Pc}{sm:Bool}(ok0:cV F M0 b)(hi:i≤s.length)(hs:s.length≤400000)(hw:w.length≤1000000)(ht:text.length≤1000000)(hW:WS M0 b s M c1 w text sm i):
 Calls Φ F 74 [.p (b+3) 0,.p (b+4) 0,.p (b+2) 0,.p (b+5) 0,.p b 0] M c1 fun r M' c'=>WS M0 b s M' c' (LX w text sm (decide (s[i]?=some 36))) [] false i∧c1≤c':=by
 refine aI h ?_
 obtain⟨v,tv,p1,p2,gr,h6,m0,m1,m2,m3,m4,m5,hA,hT⟩:=hW
 have ok1:=gr.ok ok0
 have l0:load1 F M b 0=some (sV s):=aq m0 0
 have l2:load1 F M (b+2) 0=some v:=aq m2 0
 have l3:load1 F M (b+3) 0=some tv:=aq m3 0
 have l4:load1 F M (b+4) 0=some (.b sm):=aq m4 0
 have l5:load1 F M (b+5) 0=some (.i .i64 (i:Int)):=aq m5 0
 have hlt:sU tv=some (.i .i64 (text.length:Int)):=by have:=(hT.sl (F:=[])).len;rwa [mj]at this
 have hlv:=Qa hA
 have st3:=aH m3 0 [V.l0] (by simp) rfl
 have st4:=aH ((ah M (af 96 [V.l0]) (show b+4≠b+3 by omega)).trans m4) 0 [V.b false] (by simp) rfl
 have NOP:∀W,W=w→WS M0 b s ((M.set (b+3) (af 96 [V.l0])).set (b+4) (af 4 [V.b false])) c1 W [] false i:=fun W e=>by rw[e];exact wa (b2:=p1) gr h6 m0 m1 m2 m5 hA
 by_cases htn:text=[]
 ·have d1:decide ((0:Int)<(text.length:Int))=false:=ak (by rw[htn];simp);cases sm with
  |false=>
   simp only[WX,PA,l3,hlt,d1,l4,st3,st4];exact⟨NOP _ (ab (by simp[htn])),ag _⟩
  |true=>
   by_cases hwn:w=[]
   ·have d2:decide ((w.length:Int)=0)=true:=aj (by rw[hwn];rfl);have hbs:bsV F M tv=some (sV text):=XX hT.sl;have hF:∀w,flatten (sV w)=[sV w]:=fun _=>rfl;have hO:∀w,bF (sV w)=true:=fun _=>rfl;have hR:∀t,eH [V.s 0 0,V.b false] 0 [sV t]=some [sV t,V.b false]:=fun _=>rfl;have hG:∀t,flatten (V.g [sV t,V.b false])=[sV t,V.b false]:=fun _=>rfl;by_cases hil:i<s.length
    ·have d3:decide ((s.length:Int)≤(i:Int))=false:=ak (by omega);have hix:vv (sV s) (.i .i64 (i:Int))=some (.i .u8 ((s[i]).toNat:Int)):=EQ s .i64 i hil;have hg:s[i]?=some s[i]:=List.getElem?_eq_getElem hil;by_cases h36:s[i]=36
     ·have d4:decide (((s[i]).toNat:Int)≠36)=false:=ak (fun hh=>hh (by rw[h36];rfl));simp only[WX,PA,l3,hlt,d1,l4,l2,hlv,d2,l5,l0,d3,hix,d4,st3,st4];exact⟨NOP _ (ab (by rw[hg,h36];simp[htn])),ag _⟩
     ·have d4:decide (((s[i]).toNat:Int)≠36)=true:=aj (fun hh=>h36 (UInt8.toNat_inj.1 (by rw[show(36:UInt8).toNat=36 from rfl];omega)));simp only[WX,Nat.reduceAdd,PA,l3,hlt,d1,l4,l2,hlv,d2,l5,l0,d3,hix,d4,hbs,hF,hO,hR,hG];refine aw ((qE (text,false) hA ok1 h6 hw).mono ?_);rintro v' M2 c2 ⟨b2,hA2,gr2,hle2,hold⟩;obtain⟨w1,w2,w3⟩:=jn hA2;have n2:=(gr2.old (b+2) (by omega)).trans m2;have st2:=aH n2 0 [v'] (by simp) w3;have st3:=aH ((ah M2 (af 34 [v']) (show b+3≠b+2 by omega)).trans ((gr2.old (b+3) (by omega)).trans m3)) 0 [V.l0] (by simp) rfl;have st4:=aH ((ah (M2.set (b+2) (af 34 [v'])) (af 96 [V.l0]) (show b+4≠b+3 by omega)).trans ((ah M2 (af 34 [v']) (show b+4≠b+2 by omega)).trans ((gr2.old (b+4) (by omega)).trans m4))) 0 [V.b false] (by simp) rfl;simp only[WX,PA,w2,st2,st3,st4];refine⟨?_,by omega⟩;rw[show LX w text true (decide (s[i]?=some 36))=w++[(text,false)]from ac (.inr ⟨rfl,hwn,by rw[hg];exact ak (fun hh=>h36 (ae hh))⟩)];exact wa (b2:=b2) ⟨by omega,fun x hx=>by rw[ah _ _ (by omega),gr2.old x (by omega),gr.old x hx],fun x hx=>by rw[ah _ _ (by omega)];exact gr2.new x hx⟩ (by omega) (by rw[ah _ _ (by omega)];exact(gr2.old b (by omega)).trans m0) (by rw[ah _ _ (by omega)];exact(gr2.old (b+1) (by omega)).trans m1) (am _ _ _) (by rw[ah _ _ (by omega)];exact(gr2.old (b+5) (by omega)).trans m5) (cz hA2 (by omega))
    ·have d3:decide ((s.length:Int)≤(i:Int))=true:=aj (by omega);have hg:s[i]?=none:=List.getElem?_eq_none (by omega);simp only[WX,Nat.reduceAdd,PA,l3,hlt,d1,l4,l2,hlv,d2,l5,l0,d3,hbs,hF,hO,hR,hG];refine aw ((qE (text,false) hA ok1 h6 hw).mono ?_);rintro v' M2 c2 ⟨b2,hA2,gr2,hle2,hold⟩;obtain⟨w1,w2,w3⟩:=jn hA2;have n2:=(gr2.old (b+2) (by omega)).trans m2;have st2:=aH n2 0 [v'] (by simp) w3;have st3:=aH ((ah M2 (af 34 [v']) (show b+3≠b+2 by omega)).trans ((gr2.old (b+3) (by omega)).trans m3)) 0 [V.l0] (by simp) rfl;have st4:=aH ((ah (M2.set (b+2) (af 34 [v'])) (af 96 [V.l0]) (show b+4≠b+3 by omega)).trans ((ah M2 (af 34 [v']) (show b+4≠b+2 by omega)).trans ((gr2.old (b+4) (by omega)).trans m4))) 0 [V.b false] (by simp) rfl;simp only[WX,PA,w2,st2,st3,st4];refine⟨?_,by omega⟩;rw[show LX w text true (decide (s[i]?=some 36))=w++[(text,false)]from ac (.inr ⟨rfl,hwn,by rw[hg];rfl⟩)];exact wa (b2:=b2) ⟨by omega,fun x hx=>by rw[ah _ _ (by omega),gr2.old x (by omega),gr.old x hx],fun x hx=>by rw[ah _ _ (by omega)];exact gr2.new x hx⟩ (by omega) (by rw[ah _ _ (by omega)];exact(gr2.old b (by omega)).trans m0) (by rw[ah _ _ (by omega)];exact(gr2.old (b+1) (by omega)).trans m1) (am _ _ _) (by rw[ah _ _ (by omega)];exact(gr2.old (b+5) (by omega)).trans m5) (cz hA2 (by omega))
   ·have d2:decide ((w.length:Int)=0)=false:=ak (fun e=>hwn (List.length_eq_zero_iff.1 (by omega)));simp only[WX,PA,l3,hlt,d1,l4,l2,hlv,d2,st3,st4];exact⟨NOP _ (ab (by simp[htn,hwn])),ag _⟩
 ·have d1:decide ((0:Int)<(text.length:Int))=true:=aj (by have:text.length≠0:=fun e=>htn (List.length_eq_zero_iff.1 e);omega);have hbs:bsV F M tv=some (sV text):=XX hT.sl;have hF:∀w,flatten (sV w)=[sV w]:=fun _=>rfl;have hO:∀w,bF (sV w)=true:=fun _=>rfl;have hR:∀t,eH [V.s 0 0,V.b false] 0 [sV t]=some [sV t,V.b false]:=fun _=>rfl;have hG:∀t,flatten (V.g [sV t,V.b false])=[sV t,V.b false]:=fun _=>rfl;simp only[WX,Nat.reduceAdd,PA,l3,hlt,d1,l2,hbs,hF,hO,hR,hG];refine aw ((qE (text,false) hA ok1 h6 hw).mono ?_);rintro v' M2 c2 ⟨b2,hA2,gr2,hle2,hold⟩;obtain⟨w1,w2,w3⟩:=jn hA2;have n2:=(gr2.old (b+2) (by omega)).trans m2;have st2:=aH n2 0 [v'] (by simp) w3;have st3:=aH ((ah M2 (af 34 [v']) (show b+3≠b+2 by omega)).trans ((gr2.old (b+3) (by omega)).trans m3)) 0 [V.l0] (by simp) rfl;have st4:=aH ((ah (M2.set (b+2) (af 34 [v'])) (af 96 [V.l0]) (show b+4≠b+3 by omega)).trans ((ah M2 (af 34 [v']) (show b+4≠b+2 by omega)).trans ((gr2.old (b+4) (by omega)).trans m4))) 0 [V.b false] (by simp) rfl;simp only[WX,PA,w2,st2,st3,st4];refine⟨?_,by omega⟩;rw[show LX w text sm (decide (s[i]?=some 36))=w++[(text,false)]from ac (.inl htn)];exact wa (b2:=b2) ⟨by omega,fun x hx=>by rw[ah _ _ (by omega),gr2.old x (by omega),gr.old x hx],fun x hx=>by rw[ah _ _ (by omega)];exact gr2.new x hx⟩ (by omega) (by rw[ah _ _ (by omega)];exact(gr2.old b (by omega)).trans m0) (by rw[ah _ _ (by omega)];exact(gr2.old (b+1) (by omega)).trans m1) (am _ _ _) (by rw[ah _ _ (by omega)];exact(gr2.old (b+5) (by omega)).trans m5) (cz hA2 (by omega))
abbrev jh(u:List (Option V))(x1 x2 x4 x5 x6 x7 x9:V):T:=(.n (.n (.n (.n (aQ u 63 31 95 15 79 47 111) (some x7) (aQ u 71 39 103 23 87 55 119)) (uO u 3) (.n (aQ u 67 35 99 19 83 51 115) (uO u 11) (aQ u 75 43 107 27 91 59 123))) (some x1) (.n (.n (aQ u 65 33 97 17 81 49 113) (some x9) (aQ u 73 41 105 25 89 57 121)) (some x5) (.n (aQ u 69 37 101 21 85 53 117) (uO u 13) (aQ u 77 45 109 29 93 61 125)))) (uO u 0) (.n (.n (.n (aQ u 64 32 96 16 80 48 112) (uO u 8) (aQ u 72 40 104 24 88 56 120)) (some x4) (.n (aQ u 68 36 100 20 84 52 116) (uO u 12) (aQ u 76 44 108 28 92 60 124))) (some x2) (.n (.n (aQ u 66 34 98 18 82 50 114) (uO u 10) (aQ u 74 42 106 26 90 58 122)) (some x6) (.n (aQ u 70 38 102 22 86 54 118) (uO u 14) (aQ u 78 46 110 30 94 62 126)))))
def Vn:CC:=(.reg [(aa a1 (.bx 9 1 z0)),(aa a2 (.al 36 [.l0])),(qq a3 (.mv (x6 0)))])
def aX7:=wu Vn.eq_1
def Vo:CC:=(.reg [(aa a6 (.al 4 [(.b false)])),(ez (.st 1 z6 xF))])
def YY:=wu Vo.eq_1
def Vp:CC:=(.reg [(aa a7 (.al 3 [(.i .i64 0)])),(ez (.st 1 z7 (x6 0))),(qq a8 (.mv (x6 0)))])
def YZ:=wu Vp.eq_1
def Vq:CC:=(.reg [(qq dX (.mkf 74 [] [z5,z6,z4,z7,z1])),(qq a9 (.mv gc))])
def Z0:=wu Vq.eq_1
def Vr:CC:=(.reg [(qq fy (.ld1 z7)),(qq fR (.ld1 z1)),(qq fc (.ln .str eX)),(qq gQ (.bi .eql eg ey)),(qq eN (.mv iH)),(aK iw (.ld1 z1) eN),(aK gk (.ld1 z7) eN),(aK gS (.ixS jP gH) eN),(aK lj (.bi .eql ir (.c (.i .u8 32))) eN),(qq ke (.pk iq xT lQ)),(qq gT (.mv mR)),(aK lL (.ld1 z1) gT),(aK kl (.ld1 z7) gT),(aK kf (.ixS og mW) gT),(aK mS (.bi .eql pf (.c (.i .u8 38))) gT),(qq mg (.pk oc xT qQ)),(qq iU (.mv qx)),(aK mT (.ld1 z1) iU),(aK ll (.ld1 z7) iU),(aK mh (.slS qR (some sN) none) iU),(mw mU (.call 55 [sY]) iU),(aK sQ (.bi .neq sZ (.c (.s 0 0))) iU),(qq sR (.pk qy xT wy))])
def aX8:=wu Vr.eq_1
def JK:CC:=(.seq Vr (.cond wz (.goto 0) .skip))
def aX9:=wu JK.eq_1
def Vs:CC:=(.reg [(qq tA (.ld1 z1)),(qq pS (.ld1 z7)),(qq mV (.ixS yO uz)),(qq ou (.bi .eql wf (.c (.i .u8 39)))),(qq lM (.mv wB))])
def aY0:=wu Vs.eq_1
def Vt:CC:=(.reg [(qq t4 (.ld1 z1)),(qq tC (.ld1 z7)),(qq tD (.slS wg (some yQ) none)),(ee qX (.call 73 [yR,(.c (.s 2 16164))])),(qq tB (.mv wC))])
def aY1:=wu Vt.eq_1
def Vu:CC:=(.reg [(qq uJ (.mv z9)),(ee ow (.cv zc []))])
def aY2:=wu Vu.eq_1
def J1:CC:=(.reg [(qq uK (.ld1 z4)),(qq wh (.bld [(.s 0 0),(.b false)] [(1,1,xT)])),(aa wN (.bsl 64 1 2 [(.s 0 0),(.b false)] [(0,BS)])),(ee wO (.app 64 2 24 zd FX)),(ez (.st 1 z4 FY))])
def aq3:=wu J1.eq_1
def J2:CC:=(.reg [(qq wj (.ld1 z7)),(qq sS (.bi .add BT (x6 2))),(ez (.st 1 z7 FZ))])
def aq4:=wu J2.eq_1
def J3:CC:=(.reg [(qq BZ (.ld1 z1)),(qq C0 (.ld1 z7)),(qq zj (.ixS Gk OQ)),(ee C2 (.call 75 [G0])),(qq wP (.mv Pl))])
def aq5:=wu J3.eq_1
def J4:CC:=(.dreg 8 [(0,0,(qq C3 (.ld1 z5))),(1,0,(qq wl (.ld1 z1))),(2,0,(qq C4 (.ld1 z7))),(3,6,(qq wm (.ixS OS OT))),(4,14,(aa wn (.bsl 5 1 1 [(.i .u8 0)] [(0,Pm)]))),(5,31,(ee wo (.app 5 1 1 OR OU))),(6,63,(ez (.st 1 z5 Gl))),(7,127,(ez (.st 1 z6 xT)))])
def aq6:=wu J4.eq_1
def J5:CC:=(.reg [(qq C5 (.ld1 z7)),(qq zk (.bi .add Pn (x6 1))),(ez (.st 1 z7 G3))])
def aq7:=wu J5.eq_1
def J6:CC:=(.reg [(qq qz (.bld [.l0] [])),(ez (.st 1 z2 wA)),(qq a3 (.mv (x6 0)))])
def aq8:=wu J6.eq_1
def J7:CC:=(.cond Gj (.seq J4 J5) (.seq J6 .ret))
def aq9:=wu J7.eq_1
def J8:CC:=(.cond yP (.seq Vu (.seq J1 J2)) (.seq J3 J7))
def ar0:=wu J8.eq_1
def J9:CC:=(.cond we (.goto 2) (.seq Vt J8))
def ar1:=wu J9.eq_1
def Ja:CC:=(.reg [(qq qY (.ld1 z1)),(qq uL (.ld1 z7)),(qq zl (.bi .add Gn (x6 1))),(qq zm (.slS Gm (some Gp) none)),(ee zn (.call 76 [Gq,(.c (.i .u8 39))])),(qq a8 (.mv OV))])
def ar2:=wu Ja.eq_1
def Jb:CC:=(.reg [(qq wQ (.mv z8)),(qq yW (.bi .lss G5 (x6 0))),(qq fA (.mv OW)),(aK yX (.ld1 z1) fA),(aK C6 (.ld1 z7) fA),(aK C7 (.bi .add OY (x6 1)) fA),(aK C8 (.ld1 z7) fA),(aK C9 (.bi .add P0 (x6 1)) fA),(aK t5 (.mv z8) fA),(aK DW (.bi .add P2 P3) fA),(aK DX (.slS OX (some OZ) (some Po)) fA),(mw qZ (.call 77 [Pp,(.c (.f 78 [] []))]) fA),(aK wR (.un .not Pq) fA),(qq GA (.pk wD xT Ps))])
def ar3:=wu Jb.eq_1
def Jc:CC:=(.reg [(qq GB (.bld [.l0] [])),(ez (.st 1 z2 Pu)),(qq a3 (.mv (x6 0)))])
def ar4:=wu Jc.eq_1
def Jd:CC:=(.cond Pt (.seq Jc .ret) .skip)
def ar5:=wu Jd.eq_1
def Je:CC:=(.dreg 12 [(0,0,(qq GC (.ld1 z5))),(1,0,(qq GD (.ld1 z1))),(2,0,(qq wS (.ld1 z7))),(3,4,(qq GE (.bi .add Pw (x6 1)))),(4,0,(qq Pa (.ld1 z7))),(5,16,(qq Pb (.bi .add SE (x6 1)))),(6,0,(qq Pd (.mv z8))),(7,112,(qq Pe (.bi .add SF SG))),(8,254,(qq Pf (.slS Pv (some Px) (some SH)))),(9,511,(ee SQ (.app 5 1 1 SD Zl))),(10,1023,(ez (.st 1 z5 z95))),(11,2047,(ez (.st 1 z6 xT)))])
def ar6:=wu Je.eq_1
def Jf:CC:=(.reg [(qq ST (.ld1 z7)),(qq SU (.mv z8)),(qq SV (.bi .add z97 (x6 2))),(qq SW (.bi .add z96 z98)),(ez (.st 1 z7 z99))])
def ar7:=wu Jf.eq_1
def Jg:CC:=(.reg [(qq uF (.mv z9)),(ee uG (.cv yN []))])
def ar8:=wu Jg.eq_1
def Jh:CC:=(.dreg 5 [(0,0,(qq wJ (.ld1 z4))),(1,1,(qq wL (.bld [.l0] [(0,1,BP)]))),(2,0,(qq wM (.ld1 z7))),(3,3,(ez (.st 1 z2 BQ))),(4,15,(qq a3 (.mv BR)))])
def ar9:=wu Jh.eq_1
def Ji:CC:=(.seq (.goto 1) (.seq .skip (.seq Jg (.seq Jh .ret))))
def as0:=wu Ji.eq_1
def Jj:CC:=(.seq (.seq Jb Jd) (.seq Je (.seq Jf Ji)))
def as1:=wu Jj.eq_1
def zL:CC:=(.seq (.block 0 (.seq Vs J9)) (.seq (.goto 1) (.seq .skip (.seq Ja Jj))))
def as2:=wu zL.eq_1
def Jk:CC:=(.seq Vo (.seq Vp (.seq Vq (.seq .skip (.seq JK zL)))))
def Ol:=wu Jk.eq_1
def Jl:CC:=(.seq (.reg [(aa a5 (.al 96 [.l0]))]) Jk)
def Om:=wu Jl.eq_1
def Jm:CC:=(.seq (.reg [(aa a4 (.al 34 [.l0]))]) Jl)
def On:=wu Jm.eq_1
def Jn:CC:=(.reg [(qq fy (.ld1 z7)),(qq fR (.ld1 z1)),(qq fc (.ln .str eX)),(qq gQ (.bi .eql eg ey)),(qq eN (.mv iH)),(aK iw (.ld1 z1) eN),(aK gk (.ld1 z7) eN),(aK gS (.ixS jP gH) eN),(aK lj (.bi .eql ir (.c (.i .u8 32))) eN),(qq ke (.pk iq xT lQ)),(qq gT (.mv mR)),(aK lL (.ld1 z1) gT),(aK kl (.ld1 z7) gT),(aK kf (.ixS og mW) gT),(aK mS (.bi .eql pf (.c (.i .u8 38))) gT),(qq mg (.pk oc xT qQ)),(qq iU (.mv qx)),(aK mT (.ld1 z1) iU),(aK ll (.ld1 z7) iU),(aK mh (.slS qR (some sN) none) iU),(mw mU (.call 55 [sY]) iU),(aK sQ (.bi .neq sZ (.c (.s 0 0))) iU),(qq sR (.pk qy xT wy))])
def mO:=wu Jn.eq_1
def uV:CC:=(.seq Jn (.cond wz (.goto 0) .skip))
def mP:=wu uV.eq_1
def Jo:CC:=(.reg [(qq tA (.ld1 z1)),(qq pS (.ld1 z7)),(qq mV (.ixS yO uz)),(qq ou (.bi .eql wf (.c (.i .u8 39)))),(qq lM (.mv wB))])
def BF:=wu Jo.eq_1
def Jp:CC:=(.reg [(qq t4 (.ld1 z1)),(qq tC (.ld1 z7)),(qq tD (.slS wg (some yQ) none)),(ee qX (.call 73 [yR,(.c (.s 2 16164))])),(qq tB (.mv wC))])
def BG:=wu Jp.eq_1
def Jq:CC:=(.reg [(qq uJ (.mv z9)),(ee ow (.cv zc []))])
def Oo:=wu Jq.eq_1
def Jr:CC:=(.reg [(qq uK (.ld1 z4)),(qq wh (.bld [(.s 0 0),(.b false)] [(1,1,xT)])),(aa wN (.bsl 64 1 2 [(.s 0 0),(.b false)] [(0,BS)])),(ee wO (.app 64 2 24 zd FX)),(ez (.st 1 z4 FY))])
def Oq:=wu Jr.eq_1
def Js:CC:=(.reg [(qq wj (.ld1 z7)),(qq sS (.bi .add BT (x6 2))),(ez (.st 1 z7 FZ))])
def as3:=wu Js.eq_1
def Jt:CC:=(.reg [(qq BZ (.ld1 z1)),(qq C0 (.ld1 z7)),(qq zj (.ixS Gk OQ)),(ee C2 (.call 75 [G0])),(qq wP (.mv Pl))])
def Ot:=wu Jt.eq_1
def zM:CC:=(.dreg 8 [(0,0,(qq C3 (.ld1 z5))),(1,0,(qq wl (.ld1 z1))),(2,0,(qq C4 (.ld1 z7))),(3,6,(qq wm (.ixS OS OT))),(4,14,(aa wn (.bsl 5 1 1 [(.i .u8 0)] [(0,Pm)]))),(5,31,(ee wo (.app 5 1 1 OR OU))),(6,63,(ez (.st 1 z5 Gl))),(7,127,(ez (.st 1 z6 xT)))])
def as4:=wu zM.eq_1
def Ju:CC:=(.reg [(qq C5 (.ld1 z7)),(qq zk (.bi .add Pn (x6 1))),(ez (.st 1 z7 G3))])
def as5:=wu Ju.eq_1
def Jv:CC:=(.reg [(qq qz (.bld [.l0] [])),(ez (.st 1 z2 wA)),(qq a3 (.mv (x6 0)))])
def as6:=wu Jv.eq_1
def Jw:CC:=(.cond Gj (.seq zM Ju) (.seq Jv .ret))
def Ou:=wu Jw.eq_1
def Jx:CC:=(.cond yP (.seq Jq (.seq Jr Js)) (.seq Jt Jw))
def BH:=wu Jx.eq_1
def Jy:CC:=(.cond we (.goto 2) (.seq Jp Jx))
def BI:=wu Jy.eq_1
def Jz:CC:=(.reg [(qq qY (.ld1 z1)),(qq uL (.ld1 z7)),(qq zl (.bi .add Gn (x6 1))),(qq zm (.slS Gm (some Gp) none)),(ee zn (.call 76 [Gq,(.c (.i .u8 39))])),(qq a8 (.mv OV))])
def as7:=wu Jz.eq_1
def JA:CC:=(.reg [(qq wQ (.mv z8)),(qq yW (.bi .lss G5 (x6 0))),(qq fA (.mv OW)),(aK yX (.ld1 z1) fA),(aK C6 (.ld1 z7) fA),(aK C7 (.bi .add OY (x6 1)) fA),(aK C8 (.ld1 z7) fA),(aK C9 (.bi .add P0 (x6 1)) fA),(aK t5 (.mv z8) fA),(aK DW (.bi .add P2 P3) fA),(aK DX (.slS OX (some OZ) (some Po)) fA),(mw qZ (.call 77 [Pp,(.c (.f 78 [] []))]) fA),(aK wR (.un .not Pq) fA),(qq GA (.pk wD xT Ps))])
def as8:=wu JA.eq_1
def JB:CC:=(.reg [(qq GB (.bld [.l0] [])),(ez (.st 1 z2 Pu)),(qq a3 (.mv (x6 0)))])
def as9:=wu JB.eq_1
def JC:CC:=(.cond Pt (.seq JB .ret) .skip)
def at2:=wu JC.eq_1
def JD:CC:=(.dreg 12 [(0,0,(qq GC (.ld1 z5))),(1,0,(qq GD (.ld1 z1))),(2,0,(qq wS (.ld1 z7))),(3,4,(qq GE (.bi .add Pw (x6 1)))),(4,0,(qq Pa (.ld1 z7))),(5,16,(qq Pb (.bi .add SE (x6 1)))),(6,0,(qq Pd (.mv z8))),(7,112,(qq Pe (.bi .add SF SG))),(8,254,(qq Pf (.slS Pv (some Px) (some SH)))),(9,511,(ee SQ (.app 5 1 1 SD Zl))),(10,1023,(ez (.st 1 z5 z95))),(11,2047,(ez (.st 1 z6 xT)))])
def at3:=wu JD.eq_1
def JE:CC:=(.reg [(qq ST (.ld1 z7)),(qq SU (.mv z8)),(qq SV (.bi .add z97 (x6 2))),(qq SW (.bi .add z96 z98)),(ez (.st 1 z7 z99))])
def at4:=wu JE.eq_1
def JF:CC:=(.reg [(qq uF (.mv z9)),(ee uG (.cv yN []))])
def at5:=wu JF.eq_1
def JG:CC:=(.dreg 5 [(0,0,(qq wJ (.ld1 z4))),(1,1,(qq wL (.bld [.l0] [(0,1,BP)]))),(2,0,(qq wM (.ld1 z7))),(3,3,(ez (.st 1 z2 BQ))),(4,15,(qq a3 (.mv BR)))])
def at6:=wu JG.eq_1
def JH:CC:=(.seq (.goto 1) (.seq .skip (.seq JF (.seq JG .ret))))
def at7:=wu JH.eq_1
def JI:CC:=(.seq (.seq JA JC) (.seq JD (.seq JE JH)))
def at8:=wu JI.eq_1
def uW:CC:=(.seq (.block 0 (.seq Jo Jy)) (.seq (.goto 1) (.seq .skip (.seq Jz JI))))
def BJ:=wu uW.eq_1
def zN:CC:=(.reg [(qq qY (.ld1 z1)),(qq uL (.ld1 z7)),(qq zl (.bi .add Gn (x6 1))),(qq zm (.slS Gm (some Gp) none)),(ee zn (.call 76 [Gq,(.c (.i .u8 39))])),(qq a8 (.mv OV))])
def Ov:=wu zN.eq_1
def JJ:CC:=(.reg [(qq wQ (.mv z8)),(qq yW (.bi .lss G5 (x6 0))),(qq fA (.mv OW)),(aK yX (.ld1 z1) fA),(aK C6 (.ld1 z7) fA),(aK C7 (.bi .add OY (x6 1)) fA),(aK C8 (.ld1 z7) fA),(aK C9 (.bi .add P0 (x6 1)) fA),(aK t5 (.mv z8) fA),(aK DW (.bi .add P2 P3) fA),(aK DX (.slS OX (some OZ) (some Po)) fA),(mw qZ (.call 77 [Pp,(.c (.f 78 [] []))]) fA),(aK wR (.un .not Pq) fA),(qq GA (.pk wD xT Ps))])
def Ow:=wu JJ.eq_1
def JL:CC:=(.reg [(qq GB (.bld [.l0] [])),(ez (.st 1 z2 Pu)),(qq a3 (.mv (x6 0)))])
def at9:=wu JL.eq_1
def JM:CC:=(.cond Pt (.seq JL .ret) .skip)
def Ox:=wu JM.eq_1
def zO:CC:=(.dreg 12 [(0,0,(qq GC (.ld1 z5))),(1,0,(qq GD (.ld1 z1))),(2,0,(qq wS (.ld1 z7))),(3,4,(qq GE (.bi .add Pw (x6 1)))),(4,0,(qq Pa (.ld1 z7))),(5,16,(qq Pb (.bi .add SE (x6 1)))),(6,0,(qq Pd (.mv z8))),(7,112,(qq Pe (.bi .add SF SG))),(8,254,(qq Pf (.slS Pv (some Px) (some SH)))),(9,511,(ee SQ (.app 5 1 1 SD Zl))),(10,1023,(ez (.st 1 z5 z95))),(11,2047,(ez (.st 1 z6 xT)))])
def au0:=wu zO.eq_1
def JN:CC:=(.reg [(qq ST (.ld1 z7)),(qq SU (.mv z8)),(qq SV (.bi .add z97 (x6 2))),(qq SW (.bi .add z96 z98)),(ez (.st 1 z7 z99))])
def au1:=wu JN.eq_1
def JO:CC:=(.reg [(qq uF (.mv z9)),(ee uG (.cv yN []))])
def au2:=wu JO.eq_1
def JP:CC:=(.dreg 5 [(0,0,(qq wJ (.ld1 z4))),(1,1,(qq wL (.bld [.l0] [(0,1,BP)]))),(2,0,(qq wM (.ld1 z7))),(3,3,(ez (.st 1 z2 BQ))),(4,15,(qq a3 (.mv BR)))])
def au3:=wu JP.eq_1
def JQ:CC:=(.seq (.goto 1) (.seq .skip (.seq JO (.seq JP .ret))))
def au4:=wu JQ.eq_1
def zP:CC:=(.seq (.seq JJ JM) (.seq zO (.seq JN JQ)))
def Oy:=wu zP.eq_1
def zQ:CC:=(.reg [(qq uF (.mv z9)),(ee uG (.cv yN []))])
def Oz:=wu zQ.eq_1
def uX:CC:=(.dreg 5 [(0,0,(qq wJ (.ld1 z4))),(1,1,(qq wL (.bld [.l0] [(0,1,BP)]))),(2,0,(qq wM (.ld1 z7))),(3,3,(ez (.st 1 z2 BQ))),(4,15,(qq a3 (.mv BR)))])
def au5:=wu uX.eq_1
def JR:CC:=(.tab 0 (.seq .skip (.seq zQ (.seq uX .ret))) .skip)
def au6:=wu JR.eq_1
def JS:CC:=(.tab 1 (.seq .skip (.seq uV uW)) (.tab 2 (.seq .skip (.seq zN zP)) JR))
def au7:=wu JS.eq_1
def Qo:CF:= .mk 7 [.cn a2 1,.t a3] (.seq Vn (.scope Jm JS))
theorem e56(v0:V):bz 7 [v0]=(.n FH (some v0) FH):=rfl
def Gt:=ai @e56 (ai @aX7 (ai @YY (ai @YZ (ai @Z0 (ai @aX8 (ai @aX9 (ai @aY0 (ai @aY1 (ai @aY2 (ai @aq3 (ai @aq4 (ai @aq5 (ai @aq6 (ai @aq7 (ai @aq8 (ai @aq9 (ai @ar0 (ai @ar1 (ai @ar2 (ai @ar3 (ai @ar4 (ai @ar5 (ai @ar6 (ai @ar7 (ai @ar8 (ai @ar9 (ai @as0 (ai @as1 (ai @as2 (ai @Ol (ai @Om (ai @On (ai @mO (ai @mP (ai @BF (ai @BG (ai @Oo (ai @Oq (ai @as3 (ai @Ot (ai @as4 (ai @as5 (ai @as6 (ai @Ou (ai @BH (ai @BI (ai @as7 (ai @as8 (ai @as9 (ai @at2 (ai @at3 (ai @at4 (ai @at5 (ai @at6 (ai @at7 (ai @at8 (ai @BJ (ai @Ov (ai @Ow (ai @at9 (ai @Ox (ai @au0 (ai @au1 (ai @au2 (ai @au3 (ai @au4 (ai @Oy (ai @Oz (ai @au5 (ai @au6 (@au7)))))))))))))))))))))))))))))))))))))))))))))))))))))))))))))))))))))))
theorem d41(Φ:Nat→Option CF){F:RO}{M0 M:Mem}{b c1 i:Nat}{s text:List UInt8}{w:List Pc}{sm:Bool}(ok0:cV F M0 b)(hi:i<s.length)(hs:s.length≤400000)(hw:w.length≤1000000)(ht:text.length≤1000000)(hW:WS M0 b s M c1 w text sm i)(fv:V)(u:List (Option V))(Q:Ex→St→Prop)(hQ:∀(u:List (Option V)) M' c',WS M0 b s M' c' w (text++[s[i]]) true i→Q .nrm (.mk ((jh u (.p b 0) (.p (b+1) 0) (.p (b+2) 0) (.p (b+3) 0) (.p (b+4) 0) (.p (b+5) 0) fv)) [] M' c')):
 Wp zM (K Φ none 56 F) (.mk ((jh u (.p b 0) (.p (b+1) 0) (.p (b+2) 0) (.p (b+3) 0) (.p (b+4) 0) (.p (b+5) 0) fv)) [] M c1) Q:=by
 obtain⟨v,tv,p1,p0,gr,h6,m0,m1,m2,m3,m4,m5,hA,hT0⟩:=hW
 obtain⟨p2,hT,hne⟩:∃p,bm M (b+6) c1 p 5 1 tv (bE text)∧(p1≠p∨(v= .l0∧w=[])):=by
  rcases zo hA hT0 with⟨rfl,rfl⟩|⟨rfl,rfl⟩|hn
  ·exact⟨p1+1,bm.nil,.inl (by omega)⟩
  ·exact⟨p0,hT0,.inr ⟨rfl,rfl⟩⟩
  ·exact⟨p0,hT0,.inl hn⟩
 have ok1:=gr.ok ok0
 have hfr:=ok1.free
 have l0:load1 F M b 0=some (sV s):=aq m0 0
 have l2:load1 F M (b+2) 0=some v:=aq m2 0
 have l3:load1 F M (b+3) 0=some tv:=aq m3 0
 have l4:load1 F M (b+4) 0=some (.b sm):=aq m4 0
 have l5:load1 F M (b+5) 0=some (.i .i64 (i:Int)):=aq m5 0
 have hix:vv (sV s) (.i .i64 (i:Int))=some (.i .u8 ((s[i]).toNat:Int)):=EQ s .i64 i hi
 have lk:(look F M (c1+4)).isNone=true:=by rw[ok1.look (by omega)];rfl
 have fb:∀x,flatten (bV x)=[bV x]:=fun _=>rfl
 have ob:∀x,bF (bV x)=true:=fun _=>rfl
 have rf:bN (c1+4) [(2,b+5),(1,b),(0,b+3)]=true:=by rw[bu _ _ _ _ (by omega),bu _ _ _ _ (by omega),bu _ _ _ _ (by omega),cJ]
 simp only[WX,Nat.reducePow,Nat.reduceDiv,Nat.reduceMod,Nat.reduceBEq,Gt,l3,l0,l5,hix,lk,rf,w8,nN,sH]
 have grY:Gr (b+6) M (c1+8) (M.set (c1+4) (dq [V.i .u8 0] 5 [V.i .u8 ((s[i]).toNat:Int)])):=⟨by omega,fun x hx=>ah _ _ (by omega),fun x hx=>by rw[ah _ _ (by omega)];exact ok1.hiM x (by omega)⟩
 have hy:cq F (M.set (c1+4) (dq [V.i .u8 0] 5 [V.i .u8 ((s[i]).toNat:Int)])) (c1+8) 1 (.l (c1+4) 0 1 1) (bE [s[i]]):=S4 (d:=[V.i .u8 0]) (ty:=5) (by rw[am];rfl) (by omega) (fun e he=>by obtain⟨x,_,rfl⟩:=List.mem_map.1 he;rfl) rfl
 refine fm ((jo (bytes:=1) (hT.up (show c1≤c1+8 by omega) (fun hx=>ah _ _ (by omega))) grY Nat.one_pos hy rfl (gD (by rw[mj,mj,List.length_singleton];omega) (by rw[mj,mj,List.length_singleton];omega))).mono ?_)
 rintro v' M2 c2 ⟨b3,hA2,gr2,hle2,hold,_⟩
 have ok2:cV F M2 c2:=(show Gr b M0 c2 M2 from⟨by omega,fun x hx=>(gr2.old x (by omega)).trans (gr.old x hx),gr2.new⟩).ok ok0
 have w3:bF v'=true∧flatten v'=[v']∧aC [v']=true:=by
  rcases hA2 with⟨_,⟨_,rfl⟩|⟨_,_,rfl,_⟩⟩<;>exact⟨rfl,rfl,rfl⟩
 obtain⟨w1,w2,w3⟩:=w3
 have st3:=aH ((gr2.old (b+3) (by omega)).trans m3) 0 [v'] (by simp) w3
 have st4:=aH ((ah M2 (af 96 [v']) (show b+4≠b+3 by omega)).trans ((gr2.old (b+4) (by omega)).trans m4)) 0 [V.b true] (by simp) rfl
 have f3:bH (M2.set (b+3) (af 96 [v'])) F=true:=((show Gr b M0 c2 (M2.set (b+3) (af 96 [v']))from⟨by omega,fun x hx=>by rw[ah _ _ (by omega)];exact(gr2.old x (by omega)).trans (gr.old x hx),fun x hx=>by rw[ah _ _ (by omega)];exact gr2.new x hx⟩).ok ok0).free
 have f4:bH ((M2.set (b+3) (af 96 [v'])).set (b+4) (af 4 [V.b true])) F=true:=((show Gr b M0 c2 ((M2.set (b+3) (af 96 [v'])).set (b+4) (af 4 [V.b true]))from⟨by omega,fun x hx=>by rw[ah _ _ (by omega),ah _ _ (by omega)];exact(gr2.old x (by omega)).trans (gr.old x hx),fun x hx=>by rw[ah _ _ (by omega),ah _ _ (by omega)];exact gr2.new x hx⟩).ok ok0).free
 refine⟨ok2.free,?_⟩
 have hA1:bm M2 (b+6) c2 p1 64 2 v (kL w):=by
  rcases hne with hne|⟨rfl,rfl⟩
  ·rcases hA with⟨h0,hh|⟨h1,h2,h3,h4⟩⟩
   ·exact⟨h0,.inl hh⟩
   ·exact⟨h0,.inr ⟨h1,by omega,h3,by rw[hold p1 (by omega) hne,ah _ _ (by omega)];exact h4⟩⟩
  ·exact bm.nil
 have fin:WS M0 b s ((M2.set (b+3) (af 96 [v'])).set (b+4) (af 4 [V.b true])) c2 w (text++[s[i]]) true i:=by
  refine⟨v,v',p1,b3,?_,by omega,?_,?_,?_,?_,am _ _ _,?_,cz (cz hA1 (by omega)) (by omega),cz (cz ?_ (by omega)) (by omega)⟩
  ·exact⟨by omega,fun x hx=>by rw[ah _ _ (by omega),ah _ _ (by omega)];exact(gr2.old x (by omega)).trans (gr.old x hx),fun x hx=>by rw[ah _ _ (by omega),ah _ _ (by omega)];exact gr2.new x hx⟩
  ·rw[ah _ _ (by omega),ah _ _ (by omega)];exact(gr2.old b (by omega)).trans m0
  ·rw[ah _ _ (by omega),ah _ _ (by omega)];exact(gr2.old (b+1) (by omega)).trans m1
  ·rw[ah _ _ (by omega),ah _ _ (by omega)];exact(gr2.old (b+2) (by omega)).trans m2
  ·rw[ah _ _ (by omega)];exact am _ _ _
  ·rw[ah _ _ (by omega),ah _ _ (by omega)];exact(gr2.old (b+5) (by omega)).trans m5
  ·have:bE (text++[s[i]])=bE text++bE [s[i]]:=by unfold bE;rw[List.map_append]
   rw[this];exact hA2
 simp only[WX,Nat.reducePow,Nat.reduceDiv,Nat.reduceMod,Nat.reduceBEq,il,il,w2,st3,st4,f3,f4]
 exact hQ (X1 (G2 (X1 (G4 (X1 (G1 (d9 (cP (cw (X4 (X1 []))))))))))) _ _ fin
def Fq(t:List UInt8):Option Nat:=if(t.drop (qn t)).head?=some 39 then some (qn t)else none
theorem Fr(x:UInt8)(t:List UInt8):Fq (x::t)=if kO x=true then(Fq t).map (· +1)else if x=39 then some 0 else none:=by
 unfold Fq
 rw[jD]
 cases hq:kO x with
 |true=>
  rw[ac rfl,ac rfl,List.drop_succ_cons];split<;>rfl
 |false=>
  rw[ab (show¬(false=true) by decide),ab (show¬(false=true) by decide),List.drop_zero];show(if some x=some 39 then some 0 else none)=_;by_cases h:x=39
  ·subst h;rfl
  ·rw[ab (fun e=>h (ae e)),ab h]
theorem aR3:kO 39=false:=by decide
theorem nP:∀(t:List UInt8) (i:Nat),Fq t=match tc 39 t i with|none=>none|some k=>if(t.take (k-i)).all kO=true then some (k-i)else none
 |[],i=>rfl
 |x::t,i=>by
  rw[Fr,tc];by_cases hx:x=39
  ·subst hx;rw[ac rfl,aR3];simp
  ·rw[ab hx,ab hx,nP t (i+1)];cases hf:tc 39 t (i+1)with
   |none=>simp
   |some k=>
    have hk:=(Am hf).1;have e1:k-i=(k-(i+1))+1:=by omega
    dsimp only;rw[e1,List.take_succ_cons,List.all_cons];cases kO x with
    |true=>
     rw[ac rfl,Bool.true_and];split<;>rfl
    |false=>
     rw[ab (by decide),Bool.false_and,ab (by decide)]
theorem NG{t:List UInt8}:stW (39::t)=match Fq t with|none=>some none|some k=>some (some (k+1,t.take k,false)):=by
 have h0:bU (39::t)=[]:=by
  cases t with
  |nil=>rfl
  |cons b r=>rw[vR];simp
 rw[ah1 (by rw[h0];simp)]
 unfold Fq
 split<;>rfl
theorem FJ{t:List UInt8}(h:tc 39 t 0=none):stW (39::t)=some none:=by
 rw[NG,nP t 0,h]
theorem NH{t:List UInt8}{k:Nat}(h:tc 39 t 0=some k)(ha:(t.take k).all kO=false):stW (39::t)=some none:=by
 rw[NG,nP t 0,h]
 dsimp only
 rw[Nat.sub_zero,ha]
 rfl
theorem Sb{t:List UInt8}{k:Nat}(h:tc 39 t 0=some k)(ha:(t.take k).all kO=true):stW (39::t)=some (some (k+1,t.take k,false)):=by
 rw[NG,nP t 0,h]
 dsimp only
 rw[Nat.sub_zero,ha]
 rfl
theorem Bt{t:List UInt8}:stW (36::t)≠none:=by
 have h0:bU (36::t)=[]:=by
  cases t with
  |nil=>rfl
  |cons b r=>rw[vR];simp
 rw[Br (by rw[h0];simp)]
 split<;>simp
theorem QY{w:List Pc}{text:List UInt8}{sm:Bool}{s:List UInt8}{i:Nat}(h:stW (s.drop i)=none):LX w text sm (decide (s[i]?=some 36))=m8 w text sm:=by
 have:decide (s[i]?=some 36)=false:=by
  apply ak;intro e;obtain⟨hi,he⟩:=List.getElem?_eq_some_iff.1 e;rw[cF hi,he]at h;exact Bt h
 unfold LX m8
 rw[this]
 simp
theorem QZ{w:List Pc}{text:List UInt8}{sm:Bool}{s:List UInt8}{i:Nat}(h:s[i]?=some 36):LX w text sm (decide (s[i]?=some 36))++[([],true)]=gi w text:=by
 unfold LX gi
 rw[aj h]
 simp
def h77:List V→Option V
 |[v,.f 78 [] []]=>(t6 v).bind fun l=>if l.length≤1000000 then some (.b (l.all kO))else none
 |[v,.f 75 [] []]=>(t6 v).bind fun l=>if l.length≤1000000 then some (.b (l.all oe))else none
 |_=>none
theorem ab5(l:List UInt8)(hl:l.length≤1000000):h77 [sV l,.f 78 [] []]=some (.b (l.all kO)):=by
 show(t6 (sV l)).bind (fun l=>if l.length≤1000000 then some (V.b (l.all kO))else none)=_
 rw[na,Option.bind_some];exact ac hl
theorem aM2(l:List UInt8)(hl:l.length≤1000000):h77 [sV l,.f 75 [] []]=some (.b (l.all oe)):=by
 show(t6 (sV l)).bind (fun l=>if l.length≤1000000 then some (V.b (l.all oe))else none)=_
 rw[na,Option.bind_some];exact ac hl
abbrev YD(u:List (Option V))(x1 x2 x4 x5 x6 x7 x8 x9:V):T:=(.n (.n (.n (.n (aQ u 63 31 95 15 79 47 111) (some x7) (aQ u 71 39 103 23 87 55 119)) (uO u 3) (.n (aQ u 67 35 99 19 83 51 115) (uO u 11) (aQ u 75 43 107 27 91 59 123))) (some x1) (.n (.n (aQ u 65 33 97 17 81 49 113) (some x9) (aQ u 73 41 105 25 89 57 121)) (some x5) (.n (aQ u 69 37 101 21 85 53 117) (uO u 13) (aQ u 77 45 109 29 93 61 125)))) (uO u 0) (.n (.n (.n (aQ u 64 32 96 16 80 48 112) (some x8) (aQ u 72 40 104 24 88 56 120)) (some x4) (.n (aQ u 68 36 100 20 84 52 116) (uO u 12) (aQ u 76 44 108 28 92 60 124))) (some x2) (.n (.n (aQ u 66 34 98 18 82 50 114) (uO u 10) (aQ u 74 42 106 26 90 58 122)) (some x6) (.n (aQ u 70 38 102 22 86 54 118) (uO u 14) (aQ u 78 46 110 30 94 62 126)))))
abbrev uu(u:List (Option V))(x2 x3:V):T:=(.n (.n (.n (.n (aQ u 63 31 95 15 79 47 111) (uO u 7) (aQ u 71 39 103 23 87 55 119)) (some x3) (.n (aQ u 67 35 99 19 83 51 115) (uO u 11) (aQ u 75 43 107 27 91 59 123))) (uO u 1) (.n (.n (aQ u 65 33 97 17 81 49 113) (uO u 9) (aQ u 73 41 105 25 89 57 121)) (uO u 5) (.n (aQ u 69 37 101 21 85 53 117) (uO u 13) (aQ u 77 45 109 29 93 61 125)))) (uO u 0) (.n (.n (.n (aQ u 64 32 96 16 80 48 112) (uO u 8) (aQ u 72 40 104 24 88 56 120)) (uO u 4) (.n (aQ u 68 36 100 20 84 52 116) (uO u 12) (aQ u 76 44 108 28 92 60 124))) (some x2) (.n (.n (aQ u 66 34 98 18 82 50 114) (uO u 10) (aQ u 74 42 106 26 90 58 122)) (uO u 6) (.n (aQ u 70 38 102 22 86 54 118) (uO u 14) (aQ u 78 46 110 30 94 62 126)))))
theorem Ly{F:RO}(zero:List V)(ps:List (Nat×Nat×X))(M:Mem)(t:T):kh (.bld zero ps) F M t=oV ((pB zero (Y8 t ps)).map .g):=by
 refine(eU ?_).trans (congrArg oV (YL (F:=F) zero ps M t))
 intro F' M'
 refine je ?_
 show(qg (fillParts t zero ps)= .f∨ ∃y,qg (fillParts t zero ps)= .v y)
 cases fillParts t zero ps with
 |none=>exact .inl rfl
 |some x=>exact .inr ⟨_,rfl⟩
theorem d62(Φ:Nat→Option CF){F:RO}{M0 M:Mem}{b c1 i k:Nat}{s text:List UInt8}{w:List Pc}{sm:Bool}(ok0:cV F M0 b)(hi:i+1+k≤s.length)(hs:s.length≤400000)(hw:w.length≤1000000)(ht:text.length≤1000000)(hW:WS M0 b s M c1 w text sm i)(fv:V)(u:List (Option V))(Q:Ex→St→Prop)(hQ:∀(u:List (Option V)) M' c',WS M0 b s M' c' w (text++(s.drop (i+1)).take k) true i→Q .nrm (.mk ((YD u (.p b 0) (.p (b+1) 0) (.p (b+2) 0) (.p (b+3) 0) (.p (b+4) 0) (.p (b+5) 0) (.i .i64 (k:Int)) fv)) [] M' c')):
 Wp zO (K Φ none 56 F) (.mk ((YD u (.p b 0) (.p (b+1) 0) (.p (b+2) 0) (.p (b+3) 0) (.p (b+4) 0) (.p (b+5) 0) (.i .i64 (k:Int)) fv)) [] M c1) Q:=by
 obtain⟨v,tv,p1,p0,gr,h6,m0,m1,m2,m3,m4,m5,hA,hT0⟩:=hW
 obtain⟨p2,hT,hne⟩:∃p,bm M (b+6) c1 p 5 1 tv (bE text)∧(p1≠p∨(v= .l0∧w=[])):=by
  rcases zo hA hT0 with⟨rfl,rfl⟩|⟨rfl,rfl⟩|hn
  ·exact⟨p1+1,bm.nil,.inl (by omega)⟩
  ·exact⟨p0,hT0,.inr ⟨rfl,rfl⟩⟩
  ·exact⟨p0,hT0,.inl hn⟩
 have ok1:=gr.ok ok0
 have hfr:=ok1.free
 have l0:load1 F M b 0=some (sV s):=aq m0 0
 have l3:load1 F M (b+3) 0=some tv:=aq m3 0
 have l5:load1 F M (b+5) 0=some (.i .i64 (i:Int)):=aq m5 0
 have q1:du .add (.i .i64 (i:Int)) (.i .i64 1)=some (.i .i64 ((i+1:Nat):Int)):=by rw[bJ _ _ (by omega) (by omega)];simp
 obtain⟨j,hj⟩:∃j,j=i+1+k:=⟨_,rfl⟩
 have q2:du .add (.i .i64 ((i+1:Nat):Int)) (.i .i64 (k:Int))=some (.i .i64 (j:Int)):=by rw[bJ _ _ (by omega) (by omega),hj];simp
 have hsl:=Nz s .i64 .i64 (i+1) j (by omega) (by omega)
 have hX:(s.take j).drop (i+1)=(s.drop (i+1)).take k:=by rw[List.drop_take];congr 1;omega
 rw[hX]at hsl
 have hXl:((s.drop (i+1)).take k).length≤400000:=by rw[List.length_take];omega
 generalize(s.drop (i+1)).take k=X at hsl hXl hQ
 simp only[WX,Nat.reducePow,Nat.reduceDiv,Nat.reduceMod,Nat.reduceBEq,il,Gt,l3,l0,l5,q1,q2,Ae,hsl,il]
 refine fm ((GK (l:=X) (bytes:=1) (hT.up (show c1≤c1+12 by omega) (fun _=>rfl)) (show Gr (b+6) M (c1+12) M from⟨by omega,fun _ _=>rfl,fun x hx=>ok1.hiM x (by omega)⟩) (gD (by rw[mj];omega) (by rw[mj];omega))).mono ?_)
 rintro v' M2 c2 ⟨b3,hA2,gr2,hle2,hold,_⟩
 have ok2:cV F M2 c2:=(show Gr b M0 c2 M2 from⟨by omega,fun x hx=>(gr2.old x (by omega)).trans (gr.old x hx),gr2.new⟩).ok ok0
 have w3:bF v'=true∧flatten v'=[v']∧aC [v']=true:=by
  rcases hA2 with⟨_,⟨_,rfl⟩|⟨_,_,rfl,_⟩⟩<;>exact⟨rfl,rfl,rfl⟩
 obtain⟨w1,w2,w3⟩:=w3
 have st3:=aH ((gr2.old (b+3) (by omega)).trans m3) 0 [v'] (by simp) w3
 have st4:=aH ((ah M2 (af 96 [v']) (show b+4≠b+3 by omega)).trans ((gr2.old (b+4) (by omega)).trans m4)) 0 [V.b true] (by simp) rfl
 have f3:bH (M2.set (b+3) (af 96 [v'])) F=true:=((show Gr b M0 c2 (M2.set (b+3) (af 96 [v']))from⟨by omega,fun x hx=>by rw[ah _ _ (by omega)];exact(gr2.old x (by omega)).trans (gr.old x hx),fun x hx=>by rw[ah _ _ (by omega)];exact gr2.new x hx⟩).ok ok0).free
 have f4:bH ((M2.set (b+3) (af 96 [v'])).set (b+4) (af 4 [V.b true])) F=true:=((show Gr b M0 c2 ((M2.set (b+3) (af 96 [v'])).set (b+4) (af 4 [V.b true]))from⟨by omega,fun x hx=>by rw[ah _ _ (by omega),ah _ _ (by omega)];exact(gr2.old x (by omega)).trans (gr.old x hx),fun x hx=>by rw[ah _ _ (by omega),ah _ _ (by omega)];exact gr2.new x hx⟩).ok ok0).free
 refine⟨ok2.free,?_⟩
 have hA1:bm M2 (b+6) c2 p1 64 2 v (kL w):=by
  rcases hne with hne|⟨rfl,rfl⟩
  ·rcases hA with⟨h0,hh|⟨h1,h2,h3,h4⟩⟩
   ·exact⟨h0,.inl hh⟩
   ·exact⟨h0,.inr ⟨h1,by omega,h3,by rw[hold p1 (by omega) hne];exact h4⟩⟩
  ·exact bm.nil
 have fin:WS M0 b s ((M2.set (b+3) (af 96 [v'])).set (b+4) (af 4 [V.b true])) c2 w (text++X) true i:=by
  refine⟨v,v',p1,b3,?_,by omega,?_,?_,?_,?_,am _ _ _,?_,cz (cz hA1 (by omega)) (by omega),cz (cz ?_ (by omega)) (by omega)⟩
  ·exact⟨by omega,fun x hx=>by rw[ah _ _ (by omega),ah _ _ (by omega)];exact(gr2.old x (by omega)).trans (gr.old x hx),fun x hx=>by rw[ah _ _ (by omega),ah _ _ (by omega)];exact gr2.new x hx⟩
  ·rw[ah _ _ (by omega),ah _ _ (by omega)];exact(gr2.old b (by omega)).trans m0
  ·rw[ah _ _ (by omega),ah _ _ (by omega)];exact(gr2.old (b+1) (by omega)).trans m1
  ·rw[ah _ _ (by omega),ah _ _ (by omega)];exact(gr2.old (b+2) (by omega)).trans m2
  ·rw[ah _ _ (by omega)];exact am _ _ _
  ·rw[ah _ _ (by omega),ah _ _ (by omega)];exact(gr2.old (b+5) (by omega)).trans m5
  ·have:bE (text++X)=bE text++bE X:=by unfold bE;rw[List.map_append]
   rw[this];exact hA2
 simp only[WX,Nat.reducePow,Nat.reduceDiv,Nat.reduceMod,Nat.reduceBEq,il,il,w2,st3,st4,f3,f4]
 exact hQ (X1 (G2 (X1 (G4 (G2 (d9 (cP (cw (X4 (X1 [])))))))))) _ _ fin
theorem aZ9{Φ:Nat→Option CF}{rd:Option Nat}{fn:Nat}{F:RO}(base i mask j b0:Nat)(blk:bv)(dst:Option aJ)(o:EO)(r:List (Nat×Nat×CO))(t:T)(M:Mem)(c:Nat)(reads:List (Nat×Nat))(R:DS→Prop){v:V}{M':Mem}{c':Nat}(hj:(mask/2^j%2==1)=false)(hb:wZ mask reads=true)(hM:M.get b0=some blk)(h:eE o (K Φ rd fn ((b0,blk)::F)) (M.del b0) c t= .k v M' c')(hf:bH M' ((b0,blk)::F)=true):
 kj base ((i,mask,.mk dst (.e o) none)::r) (K Φ rd fn F) (.mk t M c [] ((j,b0)::reads)) R=kj base r (K Φ rd fn F) (.mk (setT t dst v) (M'.set b0 blk) c' [] ((j,b0)::reads)) R:=by
 have hj':testBit mask j=false:=by
  show Nat.beq (Nat.mod (Nat.div mask (Nat.pow 2 j)) 2) 1=false;rw[bI];exact ak (show¬mask/2^j%2=1 by simpa using hj)
 have hp:bD mask ((j,b0)::reads) F M []=Pr.mk ((b0,blk)::F) (M.del b0) [(b0,blk)]:=by
  rw[bD,hj'];show(match M.get b0 with|none=>bD mask reads F M []|some blk=>(M.del b0).force fun M=>bD mask reads ((b0,blk)::F) M [(b0,blk)])=_;rw[hM];show(M.del b0).force (fun M=>bD mask reads ((b0,blk)::F) M [(b0,blk)])=_;rw[Tr.force_eq];exact gq hb _ _ _
 have he:pX (K Φ rd fn F) base (i,mask,.mk dst (.e o) none) (.mk t M c [] ((j,b0)::reads))=some (.mk (setT t dst v) (M'.set b0 blk) c' [] ((j,b0)::reads)):=by
  show oB o (K Φ rd fn F) dst t c [] ((j,b0)::reads) (bD mask ((j,b0)::reads) F M [])=_;rw[hp];show lN ((b0,blk)::F) dst t [] ((j,b0)::reads) [(b0,blk)] (eE o (K Φ rd fn ((b0,blk)::F)) (M.del b0) c t)=_;rw[h];show(bif bH M' ((b0,blk)::F)&&bS ((b0,blk)::F) M' []then(aU [(b0,blk)] M').force fun M=>(setT t dst v).force fun t=>some (DS.mk t M c' [] ((j,b0)::reads))else none)=_;rw[hf];show((aU [(b0,blk)] M').force fun M=>(setT t dst v).force fun t=>some (DS.mk t M c' [] ((j,b0)::reads)))=_;rw[Tr.force_eq,Tr.force_eq];show some (DS.mk _ ((M'.set b0 blk).force fun M=>aU [] M) c' [] _)=_;rw[Tr.force_eq];rfl
 apply propext
 rw[ed,he]
 constructor
 ·rintro⟨s',h,q⟩;obtain rfl:=ae h;exact q
 ·exact fun q=>⟨_,rfl,q⟩
theorem aK9(Φ:Nat→Option CF){F:RO}{M0 M:Mem}{b c1 i:Nat}{s text:List UInt8}{w:List Pc}{sm:Bool}(ok0:cV F M0 b)(hW:WS M0 b s M c1 w text sm i)(fv:V)(u:List (Option V))(Q:Ex→St→Prop)(hQ:∀(u:List (Option V)) M' c' v p,Gr b M0 c' M'→b+6≤c'→M'.get (b+1)=some (af 36 [v])→bm M' (b+6) c' p 64 2 v (kL w)→Q .nrm (.mk ((uu u (.p (b+1) 0) (.i .i64 (i:Int)))) [] M' c')):
 Wp uX (K Φ none 56 F) (.mk ((jh u (.p b 0) (.p (b+1) 0) (.p (b+2) 0) (.p (b+3) 0) (.p (b+4) 0) (.p (b+5) 0) fv)) [] M c1) Q:=by
 obtain⟨v,tv,p1,p0,gr,h6,m0,m1,m2,m3,m4,m5,hA,hT0⟩:=hW
 have ok1:=gr.ok ok0
 have hfr:=ok1.free
 obtain⟨w1,w2,w3⟩:=jn hA
 have hG1:flatten (V.g [v])=[v]:=rfl
 have l2:load1 F M (b+2) 0=some v:=aq m2 0
 have l5:load1 F M (b+5) 0=some (.i .i64 (i:Int)):=aq m5 0
 have md1:(M.del (b+5)).get (b+1)=some (af 36 [.l0]):=by rw[Tr.get_del,ab (by omega)];exact m1
 have st1:=aH md1 0 [v] (by simp) w3
 have grd:Gr b M0 c1 ((M.del (b+5)).set (b+1) (af 36 [v])):=(gr.del (b+5) (by omega)).set (b+1) _ (by omega) (by omega) (ag _)
 have f1:=(grd.ok ok0).free
 have f2:bH ((M.del (b+5)).set (b+1) (af 36 [v])) ((b+5,af 3 [.i .i64 (i:Int)])::F)=true:=by
  rw[dD,f1,ah _ _ (by omega),Tr.get_del,ac rfl];rfl
 have grE:Gr b M0 c1 (((M.del (b+5)).set (b+1) (af 36 [v])).set (b+5) (af 3 [.i .i64 (i:Int)])):=grd.set (b+5) _ (by omega) (by omega) (ag _)
 simp only[WX,Nat.reduceLeDiff,Gt,l2,l5,Ly,w2]
 rw[aZ9 (v:=undef) (M':=(M.del (b+5)).set (b+1) (af 36 [v])) (c':=c1+5) _ _ _ _ _ (af 3 [.i .i64 (i:Int)]) _ _ _ _ _ _ _ _ rfl rfl m5 ?_ f2]
 ·simp only[WX];refine hQ (X2 (G2 (d9 (cP (cw (X8 (X2 (X1 [])))))))) _ _ v p1 (grE.up (by omega)) (by omega) ?_ ?_
  ·rw[ah _ _ (by omega)];exact am _ _ _
  ·rcases hA with⟨h0,hh|⟨h1,h2,h3,h4⟩⟩
   ·exact⟨h0,.inl hh⟩
   ·exact⟨h0,.inr ⟨h1,by omega,h3,by rw[ah _ _ (by omega),ah _ _ (by omega),Tr.get_del,ab (by omega)];exact h4⟩⟩
 ·rw[vg];simp only[WX,hG1,st1]
abbrev Pj(b:Nat):V:= .f 74 [] [.p (b+3) 0,.p (b+4) 0,.p (b+2) 0,.p (b+5) 0,.p b 0]
theorem Zk{M0 M:Mem}{b c1 i j:Nat}{s text:List UInt8}{w:List Pc}{sm:Bool}(hW:WS M0 b s M c1 w text sm i):WS M0 b s (M.set (b+5) (af 3 [.i .i64 (j:Int)])) c1 w text sm j:=by
 obtain⟨v,tv,p1,p0,gr,h6,m0,m1,m2,m3,m4,m5,hA,hT0⟩:=hW
 exact⟨v,tv,p1,p0,gr.set (b+5) _ (by omega) (by omega) (ag _),h6,by rw[ah _ _ (by omega)];exact m0,by rw[ah _ _ (by omega)];exact m1,by rw[ah _ _ (by omega)];exact m2,by rw[ah _ _ (by omega)];exact m3,by rw[ah _ _ (by omega)];exact m4,am _ _ _,cz hA (by omega),cz hT0 (by omega)⟩
theorem aO3(Φ:Nat→Option CF)(h74:Φ 74=some Gd){F:RO}{M0 M:Mem}{b c1 i:Nat}{s text:List UInt8}{w:List Pc}{sm:Bool}(ok0:cV F M0 b)(hi:i≤s.length)(hs:s.length≤400000)(hw:w.length≤1000000)(ht:text.length≤1000000)(hst:stW (s.drop i)=none)(hW:WS M0 b s M c1 w text sm i)(u:List (Option V))(Q:Ex→St→Prop)
 (hQ:∀(u:List (Option V)) M' c' v p,Gr b M0 c' M'→b+6≤c'→M'.get (b+1)=some (af 36 [v])→bm M' (b+6) c' p 64 2 v (kL (m8 w text sm))→Q .ret (.mk ((uu u (.p (b+1) 0) (.i .i64 (i:Int)))) [] M' c')):
 Wp (.seq .skip (.seq zQ (.seq uX .ret))) (K Φ none 56 F) (.mk ((jh u (.p b 0) (.p (b+1) 0) (.p (b+2) 0) (.p (b+3) 0) (.p (b+4) 0) (.p (b+5) 0) (Pj b))) [] M c1) Q:=by
 simp only[WX,Oz]
 refine aw ((r74 Φ h74 ok0 hi hs hw ht hW).mono ?_)
 rintro r M' c' ⟨hW',hle⟩
 rw[QY hst]at hW'
 simp only[WX]
 refine aK9 Φ ok0 hW' _ (X1 (G2 (X1 (G4 (X1 (G1 (d9 (cP (cw (X4 (X1 []))))))))))) _ ?_
 intro u M2 c2 v p g h6 hm hA
 simp only[WX]
 exact hQ (X2 (G2 (d9 (cP (cw (X8 (X2 (X1 [])))))))) _ _ v p g h6 hm hA
theorem aO5(Φ:Nat→Option CF)(h76:Φ 76=some (.orc (aN h88)))(h77:Φ 77=some (.orc (aN h77))){F:RO}{M0 M:Mem}{b c1 i:Nat}{s text:List UInt8}{w:List Pc}{sm:Bool}(ok0:cV F M0 b)(hi:i<s.length)(hs:s.length≤400000)(hw:w.length≤1000000)(ht:text.length≤1000000)(h39:s[i]=39)(hW:WS M0 b s M c1 w text sm i)(u:List (Option V))(Q:Ex→St→Prop)
 (hQ1:∀(u:List (Option V)) M' c' k,stW (s.drop i)=some (some (k+1,(s.drop (i+1)).take k,false))→i+(k+2)≤s.length→WS M0 b s M' c' w (text++(s.drop (i+1)).take k) true (i+(k+2))→Q (.gto 1) (.mk ((jh u (.p b 0) (.p (b+1) 0) (.p (b+2) 0) (.p (b+3) 0) (.p (b+4) 0) (.p (b+5) 0) (Pj b))) [] M' c'))
 (hQ2:stW (s.drop i)=some none→ ∀(u:List (Option V)) M' c',Gr b M0 c' M'→b+6≤c'→M'.get (b+1)=some (af 36 [.l0])→Q .ret (.mk ((uu u (.p (b+1) 0) (.i .i64 0))) [] M' c')):
 Wp (.seq .skip (.seq zN zP)) (K Φ none 56 F) (.mk ((jh u (.p b 0) (.p (b+1) 0) (.p (b+2) 0) (.p (b+3) 0) (.p (b+4) 0) (.p (b+5) 0) (Pj b))) [] M c1) Q:=by
 have hW':=hW
 obtain⟨v,tv,p1,p0,gr,h6,m0,m1,m2,m3,m4,m5,hA,hT0⟩:=hW
 have l0:load1 F M b 0=some (sV s):=aq m0 0
 have l5:load1 F M (b+5) 0=some (.i .i64 (i:Int)):=aq m5 0
 have q1:du .add (.i .i64 (i:Int)) (.i .i64 1)=some (.i .i64 ((i+1:Nat):Int)):=by rw[bJ _ _ (by omega) (by omega)];simp
 have hsl:=Dr s .i64 (i+1) hi
 have hdr:s.drop i=39::s.drop (i+1):=by rw[←h39];exact cF hi
 have hf:h88 [sV (s.drop (i+1)),.i .u8 39]=some (.i .i64 (td (tc 39 (s.drop (i+1)) 0))):=Ap (s.drop (i+1)) 39
 have st1:=aH m1 0 [V.l0] (by simp) rfl
 have hG0:flatten (V.g [V.l0])=[V.l0]:=rfl
 have BAD:=fun h=>hQ2 h
 cases hk:tc 39 (s.drop (i+1)) 0 with
 |none=>
  rw[hk]at hf;have hst:stW (s.drop i)=some none:=by rw[hdr];exact FJ hk
  have d1:decide ((-1:Int)<0)=true:=rfl;have hz:td none= -1:=rfl;simp only[WX,Int.reduceLT,Gt,l0,l5,q1,hsl,h76,hf,hz,hG0,st1];exact hQ2 hst (X2 (G2 (d9 (cP (cw (X8 (X2 (X1 [])))))))) _ _ (gr.set (b+1) _ (by omega) (by omega) (ag _)) h6 (am _ _ _)
 |some k=>
  rw[hk]at hf;have hkl:=(Am hk).2;rw[aZ]at hkl;have d1:decide ((k:Int)<0)=false:=ak (by omega);have hz:td (some k)=(k:Int):=rfl;obtain⟨j,hj⟩:∃j,j=i+1+k:=⟨_,rfl⟩
  have q2:du .add (.i .i64 ((i+1:Nat):Int)) (.i .i64 (k:Int))=some (.i .i64 (j:Int)):=by rw[bJ _ _ (by omega) (by omega),hj];simp
  have hsl2:=Nz s .i64 .i64 (i+1) j (by omega) (by omega);have hX:(s.take j).drop (i+1)=(s.drop (i+1)).take k:=by rw[List.drop_take];congr 1;omega
  rw[hX]at hsl2;have hall:=ab5 ((s.drop (i+1)).take k) (by rw[List.length_take,aZ];omega);cases ha:((s.drop (i+1)).take k).all kO with
  |false=>
   rw[ha]at hall;have hst:stW (s.drop i)=some none:=by rw[hdr];exact NH hk ha
   simp only[WX,Gt,l0,l5,q1,q2,hsl,hsl2,h76,hf,hz,d1,h77,hall,hG0,st1];exact hQ2 hst (X2 (G2 (d9 (cP (cw (X8 (X2 (X1 [])))))))) _ _ (gr.set (b+1) _ (by omega) (by omega) (ag _)) h6 (am _ _ _)
  |true=>
   rw[ha]at hall;have hst:stW (s.drop i)=some (some (k+1,(s.drop (i+1)).take k,false)):=by rw[hdr];exact Sb hk ha
   simp only[WX,Ov,Ow,Ox,Oy,l0,l5,q1,q2,hsl,hsl2,h76,hf,hz,d1,h77,hall];refine d62 Φ ok0 (show i+1+k≤s.length by omega) hs hw ht hW' _ (X1 (G2 (X1 (G4 (G2 (d9 (cP (cw (X4 (X1 [])))))))))) _ ?_;intro u M' c' hW2;have hW3:=Zk (j:=i+(k+2)) hW2;obtain⟨v,tv,p1,p0,gr,h6,m0,m1,m2,m3,m4,m5,hA,hT0⟩:=hW2;have l5:load1 F M' (b+5) 0=some (.i .i64 (i:Int)):=aq m5 0;obtain⟨k2,hk2⟩:∃k2,k2=k+2:=⟨_,rfl⟩
   obtain⟨j2,hj2⟩:∃j2,j2=i+(k+2):=⟨_,rfl⟩
   have q3:du .add (.i .i64 (k:Int)) (.i .i64 2)=some (.i .i64 (k2:Int)):=by rw[bJ _ _ (by omega) (by omega),hk2];simp
   have q4:du .add (.i .i64 (i:Int)) (.i .i64 (k2:Int))=some (.i .i64 (j2:Int)):=by rw[bJ _ _ (by omega) (by omega),hj2,hk2];simp
   have st5:=aH m5 0 [V.i .i64 (j2:Int)] (by simp) rfl;rw[←hj2]at hW3;simp only[WX,Gt,l5,q3,q4,st5,iF,ga];exact hQ1 (X1 (G2 (X1 (G4 (X1 (G1 (d9 (cP (cw (X4 (X1 []))))))))))) _ _ k hst (by omega) (by rw[←hj2];exact hW3)
theorem aO4(Φ:Nat→Option CF)(h55:Φ 55=some (.orc (aN h55)))(h73:Φ 73=some (.orc (aN h73)))(h75:Φ 75=some (.orc (aN h75)))(h74:Φ 74=some Gd){F:RO}{M0 M:Mem}{b c1 i:Nat}{s text:List UInt8}{w:List Pc}{sm:Bool}(ok0:cV F M0 b)(hi:i≤s.length)(hs:s.length≤400000)(hw:w.length≤900000)(ht:text.length≤900000)(hW:WS M0 b s M c1 w text sm i)(u:List (Option V))(Q:Ex→St→Prop)
 (hQ0:stW (s.drop i)=none→ ∀(u:List (Option V)),Q (.gto 0) (.mk ((jh u (.p b 0) (.p (b+1) 0) (.p (b+2) 0) (.p (b+3) 0) (.p (b+4) 0) (.p (b+5) 0) (Pj b))) [] M c1))
 (hQ2:∀h:i<s.length,s[i]=39→ ∀(u:List (Option V)),Q (.gto 2) (.mk ((jh u (.p b 0) (.p (b+1) 0) (.p (b+2) 0) (.p (b+3) 0) (.p (b+4) 0) (.p (b+5) 0) (Pj b))) [] M c1))
 (hQ1:∀(u:List (Option V)) M' c' j w' text' sm',i<j→j≤s.length→w'.length≤w.length+2→text'.length≤text.length+1→gj (s.drop i) w text sm i=gj (s.drop j) w' text' sm' j→WS M0 b s M' c' w' text' sm' j→Q (.gto 1) (.mk ((jh u (.p b 0) (.p (b+1) 0) (.p (b+2) 0) (.p (b+3) 0) (.p (b+4) 0) (.p (b+5) 0) (Pj b))) [] M' c'))
 (hQ3:stW (s.drop i)=some none→ ∀(u:List (Option V)) M' c',Gr b M0 c' M'→b+6≤c'→M'.get (b+1)=some (af 36 [.l0])→Q .ret (.mk ((uu u (.p (b+1) 0) (.i .i64 0))) [] M' c')):
 Wp (.seq .skip (.seq uV uW)) (K Φ none 56 F) (.mk ((jh u (.p b 0) (.p (b+1) 0) (.p (b+2) 0) (.p (b+3) 0) (.p (b+4) 0) (.p (b+5) 0) (Pj b))) [] M c1) Q:=by
 have hW':=hW
 obtain⟨v,tv,p1,p0,gr,h6,m0,m1,m2,m3,m4,m5,hA,hT0⟩:=hW
 have l0:load1 F M b 0=some (sV s):=aq m0 0
 have l5:load1 F M (b+5) 0=some (.i .i64 (i:Int)):=aq m5 0
 have st1:=aH m1 0 [V.l0] (by simp) rfl
 have hG0:flatten (V.g [V.l0])=[V.l0]:=rfl
 by_cases hlt:i<s.length
 ·have d0:decide ((i:Int)=(s.length:Int))=false:=ak (by omega);have hix:vv (sV s) (.i .i64 (i:Int))=some (.i .u8 ((s[i]).toNat:Int)):=EQ s .i64 i hlt;have hdr:s.drop i=s[i]::s.drop (i+1):=cF hlt;have hsl:vT (sV s) (some (.i .i64 (i:Int))) none=some (sV (s[i]::s.drop (i+1))):=by rw[←hdr];exact Dr s .i64 i hi
  have hgt:s[i]?=some s[i]:=List.getElem?_eq_getElem hlt;have hsg:=Mb (s[i]::s.drop (i+1));rw[Ns]at hsg;have hxn:∀k:UInt8,decide (((s[i]).toNat:Int)=(k.toNat:Int))=decide (s[i]=k):=fun k=>by congr 1;exact propext ⟨fun e=>UInt8.toNat_inj.1 (by omega),fun e=>by rw[e]⟩
  have x32:=hxn 32;have x38:=hxn 38;have x39:=hxn 39;simp only[UInt8.reduceToNat,Int.cast_ofNat_Int]at x32 x38 x39;have qsg:=r6 (bU (s[i]::s.drop (i+1))) [];have e0:V.s 0 0=sV []:=rfl;rw[←e0]at qsg;clear hxn;rw[hdr]at hQ0 hQ1 hQ3;have hpf:Ev.h73 [sV (s[i]::s.drop (i+1)),.s 2 16164]=some (V.b (za [36,63] (s[i]::s.drop (i+1)))):=Mc _ [36,63];have hh75:Ev.h75 [.i .u8 ((s[i]).toNat:Int)]=some (V.b (oe s[i])):=Md s[i];by_cases hst:s[i]=32∨bU (s[i]::s.drop (i+1))≠[]∨s[i]=38
  ·have hno:=ah3 hst;by_cases h1:s[i]=32
   ·rw[aj h1]at x32;simp only[WX,mO,mP,l0,l5,d0,hix,x32,iF,ga];exact hQ0 hno (X1 (G2 (X1 (G4 (X1 (G1 (d9 (cP (cw (X4 (X1 [])))))))))))
   ·rw[ak h1]at x32;by_cases h2:s[i]=38
    ·rw[aj h2]at x38;simp only[WX,mO,mP,l0,l5,d0,hix,x32,x38,iF,ga];exact hQ0 hno (X1 (G2 (X1 (G4 (X1 (G1 (d9 (cP (cw (X4 (X1 [])))))))))))
    ·rw[ak h2]at x38;have h3:bU (s[i]::s.drop (i+1))≠[]:=by
      rcases hst with h|h|h
      ·exact absurd h h1
      ·exact h
      ·exact absurd h h2
     rw[ak h3]at qsg;simp only[WX,mO,mP,l0,l5,d0,hix,x32,x38,hsl,h55,hsg,qsg,iF,ga];exact hQ0 hno (X1 (G2 (X1 (G4 (X1 (G1 (d9 (cP (cw (X4 (X1 [])))))))))))
  ·obtain⟨n32,n2,n38⟩:s[i]≠32∧bU (s[i]::s.drop (i+1))=[]∧s[i]≠38:=⟨fun e=>hst (.inl e),Classical.byContradiction fun e=>hst (.inr (.inl e)),fun e=>hst (.inr (.inr e))⟩
   rw[ak n32]at x32;rw[ak n38]at x38;rw[aj n2]at qsg;by_cases h39:s[i]=39
   ·rw[aj h39]at x39;simp only[WX,Gt,l0,l5,d0,hix,x32,x38,hsl,h55,hsg,qsg,x39,iF,ga,zV];exact hQ2 hlt h39 (X1 (G2 (X1 (G4 (X1 (G1 (d9 (cP (cw (X4 (X1 [])))))))))))
   ·rw[ak h39]at x39;by_cases hpx:za [36,63] (s[i]::s.drop (i+1))=true
    ·rw[hpx]at hpf;obtain⟨h36,t2,ht2⟩:s[i]=36∧ ∃t2,s.drop (i+1)=63::t2:=by
      cases hd:s.drop (i+1)with
      |nil=>rw[hd,Yr]at hpx;cases hpx
      |cons y t2=>
       rw[hd,ae2,ay]at hpx;exact⟨bL hpx.1,t2,by rw[bL hpx.2]⟩
     have hl2:i+2≤s.length:=by
      have:=congrArg List.length ht2;rw[aZ,av]at this;omega
     have hstat:stW (s[i]::s.drop (i+1))=some (some (1,[],true)):=by
      rw[h36]at hst⊢;rw[Br hst,ht2];rfl
     have hnext:gj (s[i]::s.drop (i+1)) w text sm i=gj (s.drop (i+2)) (gi w text) [] false (i+2):=by
      rw[yh hstat,List.drop_succ_cons,List.drop_drop]
     simp only[WX,mO,mP,BF,BG,Oo,BH,BI,BJ,l0,l5,d0,hix,x32,x38,hsl,h55,hsg,qsg,x39,h73,hpf];refine aw ((r74 Φ h74 ok0 hi hs (by omega) (by omega) hW').mono ?_);rintro r M2 c2 ⟨hW2,hle⟩;obtain⟨v2,tv2,q1,q2,gr2,h62,n0,n1,n2',n3,n4,n5,hA2,hT2⟩:=hW2;obtain⟨q1,hA2,hne⟩:∃q,bm M2 (b+6) c2 q 64 2 v2 (kL (LX w text sm (decide (s[i]?=some 36))))∧(q≠q2∨tv2= .l0):=by
      rcases zo (text:=[]) hA2 hT2 with⟨rfl,_⟩|⟨rfl,e2⟩|hn
      ·exact⟨q1,hA2,.inr rfl⟩
      ·rw[e2];exact⟨q2+1,bm.nil,.inl (by omega)⟩
      ·exact⟨q1,hA2,.inl hn⟩
     have ok2:=gr2.ok ok0;have l2:load1 F M2 (b+2) 0=some v2:=aq n2' 0;have hFb:flatten (V.b true)=[V.b true]:=rfl;have hR1:eH [V.s 0 0,V.b false] 1 [V.b true]=some [V.s 0 0,V.b true]:=rfl;have hG2:flatten (V.g [V.s 0 0,V.b true])=[V.s 0 0,V.b true]:=rfl;have hfl:(LX w text sm (decide (s[i]?=some 36))).length≤w.length+1:=by unfold LX;split<;>simp
     simp only[WX,Nat.reduceAdd,Oq,l2,hFb,hR1,hG2];refine aw ((qE ([],true) hA2 ok2 h62 (by omega)).mono ?_);rintro v3 M3 c3 ⟨q3,hA3,gr3,hle3,hold⟩;obtain⟨w1,w2,w3⟩:=jn hA3;have k2:=(gr3.old (b+2) (by omega)).trans n2';have k5:=(gr3.old (b+5) (by omega)).trans n5;have st2:=aH k2 0 [v3] (by simp) w3;have k5':(M3.set (b+2) (af 34 [v3])).get (b+5)=some (af 3 [.i .i64 (i:Int)]):=(ah _ _ (by omega)).trans k5;have l5':load1 F (M3.set (b+2) (af 34 [v3])) (b+5) 0=some (.i .i64 (i:Int)):=aq k5' 0;have q2':du .add (.i .i64 (i:Int)) (.i .i64 2)=some (.i .i64 ((i+2:Nat):Int)):=by rw[bJ _ _ (by omega) (by omega)];simp
     have st5:=aH k5' 0 [V.i .i64 ((i+2:Nat):Int)] (by simp) rfl;have grF:Gr b M0 c3 M3:=⟨by omega,fun x hx=>(gr3.old x (by omega)).trans (gr2.old x hx),gr3.new⟩
     have hT3:bm M3 (b+6) c3 q2 5 1 tv2 (bE []):=by
      rcases hT2 with⟨h0,hh|⟨h1,h2,h3,h4⟩⟩
      ·exact⟨h0,.inl hh⟩
      ·rcases hne with hne|hne
       ·exact⟨h0,.inr ⟨h1,by omega,h3,by rw[hold q2 (by omega) (fun e=>hne e.symm)];exact h4⟩⟩
       ·rw[hne];exact bm.nil
     rw[QZ (by rw[hgt,h36])]at hA3;simp only[WX,Gt,w2,st2,l5',q2',st5,iF,ga];refine hQ1 (X1 (G2 (X1 (G4 (X1 (G1 (d9 (cP (cw (X4 (X1 []))))))))))) _ _ (i+2) (gi w text) [] false (by omega) hl2 (by unfold gi;split<;>simp) (aB _) hnext ?_;exact⟨v3,tv2,q3,q2,(grF.set (b+2) _ (by omega) (by omega) (ag _)).set (b+5) _ (by omega) (by omega) (ag _),by omega,by rw[ah _ _ (by omega),ah _ _ (by omega)];exact(gr3.old b (by omega)).trans n0,by rw[ah _ _ (by omega),ah _ _ (by omega)];exact(gr3.old (b+1) (by omega)).trans n1,by rw[ah _ _ (by omega)];exact am _ _ _,by rw[ah _ _ (by omega),ah _ _ (by omega)];exact(gr3.old (b+3) (by omega)).trans n3,by rw[ah _ _ (by omega),ah _ _ (by omega)];exact(gr3.old (b+4) (by omega)).trans n4,am _ _ _,cz (cz hA3 (by omega)) (by omega),cz (cz hT3 (by omega)) (by omega)⟩
    ·rw[show za [36,63] (s[i]::s.drop (i+1))=false by simpa using hpx]at hpf;have hnx:oe s[i]=true→stW (s[i]::s.drop (i+1))=some (some (0,[s[i]],false)):=by
      intro hp;have h36:s[i]≠36:=fun e=>by rw[e]at hp;exact absurd hp (by decide)
      rw[YB hst h39 h36,ac hp]
     have hbad:oe s[i]=false→stW (s[i]::s.drop (i+1))=some none:=by
      intro hp;by_cases h36:s[i]=36
      ·have hh:(s.drop (i+1)).head?≠some 63:=by
        intro e;apply hpx;cases hd:s.drop (i+1)with
        |nil=>rw[hd]at e;cases e
        |cons y t2=>
         rw[hd]at e;rw[ae2,h36,show y=63 from ae e];rfl
       rw[h36]at hst⊢;rw[Br hst,ab hh]
      ·rw[YB hst h39 h36,ab (by rw[hp];decide)]
     cases hp:oe s[i]with
     |true=>
      rw[hp]at hh75;simp only[WX,mO,mP,BF,BG,Ot,Ou,BH,BI,BJ,l0,l5,d0,hix,x32,x38,hsl,h55,hsg,qsg,x39,h73,hpf,h75,hh75];refine d41 Φ ok0 hlt hs (by omega) (by omega) hW' _ (X1 (G2 (X1 (G4 (X1 (G1 (d9 (cP (cw (X4 (X1 []))))))))))) _ ?_;intro u M' c' hW2;have hW3:=Zk (j:=i+1) hW2;obtain⟨v,tv,p1,p0,gr,h6,m0,m1,m2,m3,m4,m5,hA,hT0⟩:=hW2;have l5:load1 F M' (b+5) 0=some (.i .i64 (i:Int)):=aq m5 0;have q3:du .add (.i .i64 (i:Int)) (.i .i64 1)=some (.i .i64 ((i+1:Nat):Int)):=by rw[bJ _ _ (by omega) (by omega)];simp
      have st5:=aH m5 0 [V.i .i64 ((i+1:Nat):Int)] (by simp) rfl;simp only[WX,Gt,l5,q3,st5,iF,ga];refine hQ1 (X1 (G2 (X1 (G4 (X1 (G1 (d9 (cP (cw (X4 (X1 []))))))))))) _ _ (i+1) w (text++[s[i]]) true (by omega) hlt (by omega) (by simp) ?_ hW3;rw[nU (hnx hp)];rfl
     |false=>
      rw[hp]at hh75;simp only[WX,Gt,l0,l5,d0,hix,x32,x38,hsl,h55,hsg,qsg,x39,h73,hpf,h75,hh75,hG0,st1];exact hQ3 (hbad hp) (X2 (G2 (d9 (cP (cw (X8 (X2 (X1 [])))))))) _ _ (gr.set (b+1) _ (by omega) (by omega) (ag _)) h6 (am _ _ _)
 ·obtain rfl:i=s.length:=by omega
  have d0:decide ((s.length:Int)=(s.length:Int))=true:=aj rfl;have hno:stW (s.drop s.length)=none:=by rw[cZ];rfl
  simp only[WX,mO,mP,l0,l5,iF,ga];exact hQ0 hno (X1 (G2 (X1 (G4 (X1 (G1 (d9 (cP (cw (X4 (X1 [])))))))))))
end
end Go.Proofs.YtmbpllipombieaaDoor.Ev
