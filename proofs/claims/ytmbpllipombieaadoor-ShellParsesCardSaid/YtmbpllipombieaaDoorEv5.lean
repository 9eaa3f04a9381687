/- What is proved here: pieces of the evaluator's soundness: if the evaluator comes to a value, the model's run comes to it, for every world and tape; no conditions beyond the hypotheses of each theorem. -/
import Derived.Test.YtmbpllipombieaaDoorEv4
set_option linter.unusedSimpArgs false
set_option linter.unusedVariables false
set_option linter.defProp false
set_option maxRecDepth 10000
set_option maxHeartbeats 16000000
namespace Go.Proofs.YtmbpllipombieaaDoor.Ev
open Go
noncomputable section
theorem Aq:∀(e p q:List V),q.length=e.length→over (p++q) p.length e=p++e
 |[],p,q,h=>by
  obtain rfl:q=[]:=List.eq_nil_of_length_eq_zero h;rfl
 |v::e,p,[],h=>by cases h
 |v::e,p,a::q,h=>by
  rw[over,List.set_append_right _ _ (aj _),Nat.sub_self,List.set_cons_zero];have:=Aq e (p++[v]) q (by simpa using h);rw[aH,List.length_singleton,aT,aT]at this;exact this
theorem Ap{z e:List V}(h:z.length=e.length):over z 0 e=e:=by
 have:=Aq e [] z h
 simpa using this
theorem ky{b:Nat}(mask:Nat):∀(reads:List (Nat×Nat)) (F:RO) (M:Mem) (s:List (Nat×bK)),bY b reads=true→bT M F=true→(M.get b).isSome=true→
 ∃F' M' s2,bQ mask reads F M s=Pr.mk F' M' (s2++s)∧M'.get b=M.get b∧bT M' F'=true∧(∀y,bT (M'.set b y) F'=true)∧ ∀y x,(b8 s2 (M'.set b y)).get x=(M.set b y).get x
 |[],F,M,s,h1,h2,h3=>by
  refine⟨F,M,[],rfl,rfl,h2,fun y=>?_,fun y x=>rfl⟩;refine qD _ F fun b' hb'=>?_;have:∃blk,(b',blk)∈F:=by
   clear h1 h2 h3
   induction F with
   |nil=>cases hb'
   |cons a F ih=>
    obtain⟨k,z⟩:=a;rw[cO]at hb';split at hb'
    ·rename_i e;have e:k=b':=e;exact⟨z,by rw[e];exact bX ..⟩
    ·obtain⟨blk,hm⟩:=ih hb';exact⟨blk,bJ _ hm⟩
  obtain⟨blk,hm⟩:=this;have hn:=gw F h2 b' blk hm;have:b'≠b:=by intro e;subst e;rw[hn]at h3;cases h3
  rw[ak _ _ this];exact hn
 |(i,x)::r,F,M,s,h1,h2,h3=>by
  have hx:x≠b∧bY b r=true:=by
   have h1':(bif Nat.beq x b then false else bY b r)=true:=h1;rw[bU]at h1';by_cases e:x=b
   ·rw[ah e]at h1';cases h1'
   ·rw[af e]at h1';exact⟨e,h1'⟩
  rw[bQ];cases ht:testBit mask i with
  |true=>exact ky mask r F M s hx.2 h2 h3
  |false=>
   show∃F' M' s2,(match M.get x with|none=>bQ mask r F M s|some blk=>(M.del x).force fun M=>bQ mask r ((x,blk)::F) M ((x,blk)::s))=_∧_;cases hb:M.get x with
   |none=>exact ky mask r F M s hx.2 h2 h3
   |some blk=>
    have hfr:bT (M.del x) ((x,blk)::F)=true:=by
     rw[dV,Tr.get_del,ac rfl,kD x h2];rfl
    have hgb:(M.del x).get b=M.get b:=by rw[Tr.get_del,ab (fun e=>hx.1 e.symm)]
    obtain⟨F',M',s2,g1,g2,g3,g4,g5⟩:=ky mask r ((x,blk)::F) (M.del x) ((x,blk)::s) hx.2 hfr (by rw[hgb];exact h3);refine⟨F',M',s2++[(x,blk)],?_,g2.trans hgb,g3,g4,fun y z=>?_⟩
    ·show((M.del x).force fun M=>bQ mask r ((x,blk)::F) M ((x,blk)::s))=_;rw[Tr.force_eq,g1,aT];rfl
    ·have key:∀(s2:List (Nat×bK)) (N:Mem),b8 (s2++[(x,blk)]) N=(b8 s2 N).set x blk:=by
      intro s2
      induction s2 with
      |nil=>intro N;show(N.set x blk).force (fun M=>M)=_;rw[Tr.force_eq];rfl
      |cons a s2 ih=>intro N;show(N.set a.1 a.2).force (fun M=>b8 (s2++[(x,blk)]) M)=_;rw[Tr.force_eq,ih];show _=((N.set a.1 a.2).force fun M=>b8 s2 M).set x blk;rw[Tr.force_eq]
     rw[key,Tr.get_set,g5,Tr.get_set,Tr.get_set,Tr.get_del];by_cases e1:z=x
     ·rw[ac e1,ab (by rw[e1];exact hx.1),e1,hb]
     ·rw[ab e1,ab e1]
theorem wz(mask:Nat):∀(pend:List (Nat×Nat×bK)) (M:Mem),(pend.all fun e=>testBit mask e.1)=true→en mask pend M=(dw pend M,[])
 |[],M,_=>rfl
 |(i,b,blk)::r,M,h=>by
  rw[List.all_cons,aV]at h;rw[en,h.1,fg];show((M.set b blk).force fun M=>en mask r M)=_;rw[Tr.force_eq,wz mask r _ h.2]
section
variable{Φ:Nat→Option CF}{rd:Option Nat}{fn:Nat}{F:RO}
theorem Vh(base i mask n:Nat)(p v:X)(r:List (Nat×Nat×CO))(t:T)(M:Mem)(c:Nat)(pend:List (Nat×Nat×bK))(reads:List (Nat×Nat))(R:DS→Prop){M1:Mem}{b ty:Nat}{z e:List V}
 (hm:(pend.all fun e=>testBit mask e.1)=true) (hM:dw pend M=M1) (hb:M1.get b=some (ae ty z)) (hp:p.ev t= .p b 0) (hv:flatten (v.ev t)=e) (ha:aK e=true) (hl:e.length=n) (hz:z.length=n) (hr:bY b reads=true) (hf:bT M1 F=true)
 (h:∀M',(∀x,M'.get x=(M1.set b (ae ty e)).get x)→ly base r (K Φ rd fn F) (.mk t M' c [] reads) R):
 ly base ((i,mask,.mk none (.e (.st n p v)) none)::r) (K Φ rd fn F) (.mk t M c pend reads) R:=by
 obtain⟨F',M',s2,g1,g2,g3,g4,g5⟩:=ky mask reads F M1 [] hr hf (by rw[hb];rfl)
 have hov:over z 0 e=e:=Ap (hz.trans hl.symm)
 have hst:bR M' b 0 e=some (M'.set b (ae ty e)):=by
  have:=aC (g2.trans hb) 0 e (by omega) ha
  rwa [hov]at this
 have hd:fc (.st n p v) (K Φ rd fn F') M' c t= .k undef (M'.set b (ae ty e)) c:=by
  rw[yf,hp];show(if(flatten (v.ev t)).length=n then er c (bR M' b 0 (flatten (v.ev t)))else .f)=_;rw[hv,ac hl,hst];rfl
 have he:rZ (K Φ rd fn F) base (i,mask,.mk none (.e (.st n p v)) none) (.mk t M c pend reads)=some (.mk t (b8 s2 (M'.set b (ae ty e))) c [] reads):=by
  show vk (.st n p v) (K Φ rd fn F) mask none t c reads (en mask pend M)=_;rw[wz mask pend M hm,hM];show qa (.st n p v) (K Φ rd fn F) none t c [] reads (bQ mask reads F M1 [])=_;rw[g1];show nk F' none t [] reads (s2++[]) (fc (.st n p v) (K Φ rd fn F') M' c t)=_;rw[hd,bH];show(bif bT (M'.set b (ae ty e)) F'&&true then(b8 s2 (M'.set b (ae ty e))).force fun M=>(setT t none undef).force fun t=>some (DS.mk t M c [] reads)else none)=_;rw[g4];show((b8 s2 (M'.set b (ae ty e))).force fun M=>(setT t none undef).force fun t=>some (DS.mk t M c [] reads))=_;rw[Tr.force_eq,Tr.force_eq];rfl
 rw[eS]
 exact⟨_,he,h _ (fun x=>g5 _ x)⟩
theorem iT{c:Nat}(mask:Nat):∀(reads:List (Nat×Nat)) (F:RO) (M:Mem) (s:List (Nat×bK)),bT M F=true→(∀x,c≤x→M.get x=none)→
 ∃F' M' s2,bQ mask reads F M s=Pr.mk F' M' (s2++s)∧bT M' F'=true∧(∀b,look F' M' b=look F M b)∧(∀x,c≤x→M'.get x=none)∧ ∀N:Mem,(∀x,x<c→N.get x=M'.get x)→ ∀x,(b8 s2 N).get x=if x<c then M.get x else N.get x
 |[],F,M,s,h2,h3=>⟨F,M,[],rfl,h2,fun _=>rfl,h3,fun N hN x=>by
  show N.get x=_;split
  ·rename_i h;exact hN x h
  ·rfl⟩
 |(i,x)::r,F,M,s,h2,h3=>by
  rw[bQ];cases ht:testBit mask i with
  |true=>exact iT mask r F M s h2 h3
  |false=>
   show∃F' M' s2,(match M.get x with|none=>bQ mask r F M s|some blk=>(M.del x).force fun M=>bQ mask r ((x,blk)::F) M ((x,blk)::s))=_∧_;cases hb:M.get x with
   |none=>exact iT mask r F M s h2 h3
   |some blk=>
    have hxc:x<c:=by
     apply Classical.byContradiction;intro hx;rw[h3 x (by omega)]at hb;cases hb
    have hfr:bT (M.del x) ((x,blk)::F)=true:=by
     rw[dV,Tr.get_del,ac rfl,kD x h2];rfl
    obtain⟨F',M',s2,g1,g2,g3,g4,g5⟩:=iT mask r ((x,blk)::F) (M.del x) ((x,blk)::s) hfr (fun y hy=>by rw[Tr.get_del];split<;>first|rfl|exact h3 y hy);refine⟨F',M',s2++[(x,blk)],?_,g2,fun b=>?_,g4,fun N hN z=>?_⟩
    ·show((M.del x).force fun M=>bQ mask r ((x,blk)::F) M ((x,blk)::s))=_;rw[Tr.force_eq,g1,aT];rfl
    ·rw[g3];by_cases e:b=x
     ·subst e;rw[ax hb,aY (by rw[Tr.get_del,ac rfl]),cO,ac rfl]
     ·cases hM:M.get b with
      |some y=>rw[ax hM,ax (by rw[Tr.get_del,ab e];exact hM)]
      |none=>rw[aY hM,aY (by rw[Tr.get_del,ab e];exact hM),cO,ab (fun h=>e h.symm)]
    ·have key:∀(s2:List (Nat×bK)) (N:Mem),b8 (s2++[(x,blk)]) N=(b8 s2 N).set x blk:=by
      intro s2
      induction s2 with
      |nil=>intro N;show(N.set x blk).force (fun M=>M)=_;rw[Tr.force_eq];rfl
      |cons a s2 ih=>intro N;show(N.set a.1 a.2).force (fun M=>b8 (s2++[(x,blk)]) M)=_;rw[Tr.force_eq,ih];show _=((N.set a.1 a.2).force fun M=>b8 s2 M).set x blk;rw[Tr.force_eq]
     rw[key,Tr.get_set,g5 N hN];by_cases e1:z=x
     ·subst e1;rw[ac rfl,ac hxc,hb]
     ·rw[ab e1,Tr.get_del,ab e1]
theorem wU(base i mask:Nat)(dst:Option aQ)(o:EO)(r:List (Nat×Nat×CO))(t:T)(M:Mem)(c:Nat)(reads:List (Nat×Nat))(R:DS→Prop)(ok:cR F M c)
 (h:∀F' M',cR F' M' c→(∀b,look F' M' b=look F M b)→lD (fc o (K Φ rd fn F') M' c t) fun v M2 c2=>Gr c M' c2 M2∧ ∀M3,Gr c M c2 M3→(∀x,c≤x→M3.get x=M2.get x)→ly base r (K Φ rd fn F) (.mk (setT t dst v) M3 c2 [] reads) R):
 ly base ((i,mask,.mk dst (.e o) none)::r) (K Φ rd fn F) (.mk t M c [] reads) R:=by
 obtain⟨F',M',s2,g1,g2,g3,g4,g5⟩:=iT (c:=c) mask reads F M [] ok.free ok.hiM
 have ok':cR F' M' c:=by
  refine⟨g4,fun b hb=>?_,fun b hb=>?_,ok.ge⟩
  ·have:=g3 b;rw[aY (g4 b hb),ok.look hb]at this;exact this
  ·have:∃blk,(b,blk)∈F':=by
    clear g1 g2 g3 g5 h
    induction F' with
    |nil=>cases hb
    |cons a F' ih=>
     obtain⟨k,z⟩:=a;rw[cO]at hb;split at hb
     ·rename_i e;have e:k=b:=e;exact⟨z,by rw[e];exact bX ..⟩
     ·obtain⟨blk,hm⟩:=ih hb;exact⟨blk,bJ _ hm⟩
   obtain⟨blk,hm⟩:=this;exact gw F' g2 b blk hm
 obtain⟨v,M2,c2,hd,hg,hR⟩:=h F' M' ok' g3
 have hun:=g5 M2 hg.old
 have he:rZ (K Φ rd fn F) base (i,mask,.mk dst (.e o) none) (.mk t M c [] reads)=some (.mk (setT t dst v) (b8 s2 M2) c2 [] reads):=by
  show qa o (K Φ rd fn F) dst t c [] reads (bQ mask reads F M [])=_;rw[g1];show nk F' dst t [] reads (s2++[]) (fc o (K Φ rd fn F') M' c t)=_;rw[hd,bH];show(bif bT M2 F'&&true then(b8 s2 M2).force fun M=>(setT t dst v).force fun t=>some (DS.mk t M c2 [] reads)else none)=_;rw[(hg.ok ok').free];show((b8 s2 M2).force fun M=>(setT t dst v).force fun t=>some (DS.mk t M c2 [] reads))=_;rw[Tr.force_eq,Tr.force_eq]
 rw[eS]
 have hle:=hg.le
 exact⟨_,he,hR _ ⟨hle,fun b hb=>by rw[hun,ac hb],fun b hb=>by rw[hun,ab (by omega)];exact hg.new b hb⟩ (fun x hx=>by rw[hun,ab (by omega)])⟩
theorem SP{F':RO}{M M':Mem}(h:∀b,look F' M' b=look F M b)(b o:Nat):load1 F' M' b o=load1 F M b o:=by
 show kd (look F' M' b) none (fun m d c=>cell m d c o)=kd (look F M b) none fun m d c=>cell m d c o
 rw[h]
theorem cE.lk{F':RO}{M M':Mem}{c sz:Nat}{v:V}{es:List (List V)}(h:∀b,look F' M' b=look F M b)(hs:cE F M c sz v es):cE F' M' c sz v es:=by
 obtain⟨h0,h1|⟨b,o,h1,h2,h3⟩⟩:=hs
 ·exact⟨h0,.inl h1⟩
 ·exact⟨h0,.inr ⟨b,o,h1,h2,fun k hk=>by rw[SP h];exact h3 k hk⟩⟩
end
section
variable{Φ:Nat→Option CF}{rd:Option Nat}{fn:Nat}{F:RO}
theorem mf{F:RO}{M:Mem}:∀{pend:List (Nat×Nat×bK)},(∀e∈pend,look F M e.2.1=none)→cC F M pend=true
 |[],_=>rfl
 |e::r,h=>by
  show(bif (look F M e.2.1).isNone then cC F M r else false)=true;rw[h e (bX ..)];exact mf fun x hx=>h x (bJ _ hx)
theorem u0{mask:Nat}{M:Mem}:∀{pend:List (Nat×Nat×bK)},(pend.all fun e=> !testBit mask e.1)=true→en mask pend M=(M,pend)
 |[],_=>rfl
 |(i,b,blk)::r,h=>by
  rw[List.all_cons,aV]at h;have h1:testBit mask i=false:=by have:=h.1;revert this;cases testBit mask i<;>simp
  show(bif testBit mask i then(M.set b blk).force fun M=>en mask r M else match en mask r M with|(M,p)=>(M,(i,b,blk)::p))=_;rw[h1,u0 h.2];rfl
theorem Vf(base i mask:Nat)(dst:Option aQ)(o:EO)(r:List (Nat×Nat×CO))(t:T)(M:Mem)(c:Nat)(pend:List (Nat×Nat×bK))(reads:List (Nat×Nat))(R:DS→Prop)(ok:cR F M c)
 (hm:(pend.all fun e=> !testBit mask e.1)=true) (hp:∀e∈pend,e.2.1<c∧look F M e.2.1=none)
 (h:∀F' M',cR F' M' c→(∀b,look F' M' b=look F M b)→lD (fc o (K Φ rd fn F') M' c t) fun v M2 c2=>Gr c M' c2 M2∧ ∀M3,Gr c M c2 M3→(∀x,c≤x→M3.get x=M2.get x)→ly base r (K Φ rd fn F) (.mk (setT t dst v) M3 c2 pend reads) R):
 ly base ((i,mask,.mk dst (.e o) none)::r) (K Φ rd fn F) (.mk t M c pend reads) R:=by
 obtain⟨F',M',s2,g1,g2,g3,g4,g5⟩:=iT (c:=c) mask reads F M [] ok.free ok.hiM
 have ok':cR F' M' c:=by
  refine⟨g4,fun b hb=>?_,fun b hb=>?_,ok.ge⟩
  ·have:=g3 b;rw[aY (g4 b hb),ok.look hb]at this;exact this
  ·have:∃blk,(b,blk)∈F':=by
    clear g1 g2 g3 g5 h
    induction F' with
    |nil=>cases hb
    |cons a F' ih=>
     obtain⟨k,z⟩:=a;rw[cO]at hb;split at hb
     ·rename_i e;have e:k=b:=e;exact⟨z,by rw[e];exact bX ..⟩
     ·obtain⟨blk,hm⟩:=ih hb;exact⟨blk,bJ _ hm⟩
   obtain⟨blk,hm⟩:=this;exact gw F' g2 b blk hm
 obtain⟨v,M2,c2,hd,hg,hR⟩:=h F' M' ok' g3
 have hun:=g5 M2 hg.old
 have hf1:cC F' M' pend=true:=mf fun e he=>(g3 _).trans (hp e he).2
 have hf2:cC F' M2 pend=true:=mf fun e he=>by
  have h1:=(hp e he).1;have h2:=(g3 e.2.1).trans (hp e he).2;obtain⟨h3,h4⟩:=gp h2;exact iu ((hg.old _ h1).trans h3) h4
 have he:rZ (K Φ rd fn F) base (i,mask,.mk dst (.e o) none) (.mk t M c pend reads)=some (.mk (setT t dst v) (b8 s2 M2) c2 pend reads):=by
  show vk o (K Φ rd fn F) mask dst t c reads (en mask pend M)=_;rw[u0 hm];show qa o (K Φ rd fn F) dst t c pend reads (bQ mask reads F M [])=_;rw[g1];show(bif cC F' M' pend then nk F' dst t pend reads (s2++[]) (fc o (K Φ rd fn F') M' c t)else none)=_;rw[hf1,cond_true,hd,bH];show(bif bT M2 F'&&cC F' M2 pend then(b8 s2 M2).force fun M=>(setT t dst v).force fun t=>some (DS.mk t M c2 pend reads)else none)=_;rw[(hg.ok ok').free,hf2];show((b8 s2 M2).force fun M=>(setT t dst v).force fun t=>some (DS.mk t M c2 pend reads))=_;rw[Tr.force_eq,Tr.force_eq]
 rw[eS]
 have hle:=hg.le
 exact⟨_,he,hR _ ⟨hle,fun b hb=>by rw[hun,ac hb],fun b hb=>by rw[hun,ab (by omega)];exact hg.new b hb⟩ (fun x hx=>by rw[hun,ab (by omega)])⟩
end
section
variable{Φ:Nat→Option CF}{rd:Option Nat}{fn:Nat}{F:RO}
structure eW(h:Nat→Prop)(c:Nat)(M:Mem)(c':Nat)(M':Mem):Prop where
 le:c≤c'
 old:∀b,b<c→ ¬h b→M'.get b=M.get b
 new:∀b,c'≤b→M'.get b=none
theorem eW.of{h:Nat→Prop}{c c':Nat}{M M':Mem}(g:Gr c M c' M'):eW h c M c' M':=⟨g.le,fun b hb _=>g.old b hb,g.new⟩
theorem eW.trans{h:Nat→Prop}{M M1 M2:Mem}{c c1 c2:Nat}(g:eW h c M c1 M1)(g2:eW h c1 M1 c2 M2):eW h c M c2 M2:=
 ⟨bm g.le g2.le,fun b hb hn=>(g2.old b (Nat.lt_of_lt_of_le hb g.le) hn).trans (g.old b hb hn),g2.new⟩
theorem eW.wk{h h':Nat→Prop}{M M1:Mem}{c c1:Nat}(g:eW h c M c1 M1)(hh:∀b,b<c→h b→h' b):eW h' c M c1 M1:=
 ⟨g.le,fun b hb hn=>g.old b hb fun hx=>hn (hh b hb hx),g.new⟩
theorem eW.gr{h:Nat→Prop}{M M1:Mem}{c0 c c1:Nat}(g:eW h c M c1 M1)(h0:c0≤c)(hh:∀b,b<c0→ ¬h b):Gr c0 M c1 M1:=
 ⟨bm h0 g.le,fun b hb=>g.old b (by omega) (hh b hb),g.new⟩
theorem eW.set{h:Nat→Prop}{M:Mem}{c b:Nat}(ok:cR F M c)(hb:b<c)(hh:h b)(x:bK):eW h c M c (M.set b x):=
 ⟨aj _,fun b' _ hn=>ak _ _ fun e=>hn (by rw[e];exact hh),fun b' hb'=>by rw[ak _ _ (by omega)];exact ok.hiM b' hb'⟩
theorem eW.ok{h:Nat→Prop}{M M1:Mem}{c c1:Nat}(g:eW h c M c1 M1)(ho:cR F M c)(hh:∀b,b<c→h b→ ∃x,M.get b=some x):cR F M1 c1:=by
 refine⟨g.new,fun b hb=>ho.hiF b (bm g.le hb),fun b hb=>?_,bm ho.ge g.le⟩
 have hlt:b<c:=by
  by_cases hc:b<c
  ·exact hc
  ·rw[ho.hiF b (by omega)]at hb;cases hb
 rw[g.old b hlt fun hx=>?_]
 ·exact ho.ap b hb
 ·obtain⟨x,hx⟩:=hh b hlt hx;rw[ho.ap b hb]at hx;cases hx
theorem jh{c:Nat}{h:Nat→Prop}(mask:Nat):∀(reads:List (Nat×Nat)) (F:RO) (M:Mem) (s:List (Nat×bK)),(∀e∈reads,¬h e.2)→bT M F=true→(∀x,c≤x→M.get x=none)→
 ∃F' M' s2,bQ mask reads F M s=Pr.mk F' M' (s2++s)∧bT M' F'=true∧(∀b,look F' M' b=look F M b)∧(∀x,c≤x→M'.get x=none)∧(∀x,(∀e∈reads,e.2≠x)→M'.get x=M.get x)∧ ∀N:Mem,(∀x,x<c→ ¬h x→N.get x=M'.get x)→ ∀x,(x<c→ ¬h x→(b8 s2 N).get x=M.get x)∧(c≤x∨h x→(b8 s2 N).get x=N.get x)
 |[],F,M,s,_,h2,h3=>⟨F,M,[],rfl,h2,fun _=>rfl,h3,fun _ _=>rfl,fun N hN x=>⟨fun h1 h2=>hN x h1 h2,fun _=>rfl⟩⟩
 |(i,x)::r,F,M,s,hr,h2,h3=>by
  have hr':∀e∈r,¬h e.2:=fun e he=>hr e (bJ _ he);rw[bQ];cases ht:testBit mask i with
  |true=>
   obtain⟨F',M',s2,g1,g2,g3,g4,g6,g5⟩:=jh mask r F M s hr' h2 h3;exact⟨F',M',s2,g1,g2,g3,g4,fun y hy=>g6 y fun e he=>hy e (bJ _ he),g5⟩
  |false=>
   show∃F' M' s2,(match M.get x with|none=>bQ mask r F M s|some blk=>(M.del x).force fun M=>bQ mask r ((x,blk)::F) M ((x,blk)::s))=_∧_;cases hb:M.get x with
   |none=>
    obtain⟨F',M',s2,g1,g2,g3,g4,g6,g5⟩:=jh mask r F M s hr' h2 h3;exact⟨F',M',s2,g1,g2,g3,g4,fun y hy=>g6 y fun e he=>hy e (bJ _ he),g5⟩
   |some blk=>
    have hxc:x<c:=by
     apply Classical.byContradiction;intro hx;rw[h3 x (by omega)]at hb;cases hb
    have hxh:¬h x:=hr (i,x) (bX ..);have hfr:bT (M.del x) ((x,blk)::F)=true:=by
     rw[dV,Tr.get_del,ac rfl,kD x h2];rfl
    obtain⟨F',M',s2,g1,g2,g3,g4,g6,g5⟩:=jh mask r ((x,blk)::F) (M.del x) ((x,blk)::s) hr' hfr (fun y hy=>by rw[Tr.get_del];split<;>first|rfl|exact h3 y hy);refine⟨F',M',s2++[(x,blk)],?_,g2,fun b=>?_,g4,fun y hy=>?_,fun N hN z=>?_⟩
    ·show((M.del x).force fun M=>bQ mask r ((x,blk)::F) M ((x,blk)::s))=_;rw[Tr.force_eq,g1,aT];rfl
    ·rw[g3];by_cases e:b=x
     ·subst e;rw[ax hb,aY (by rw[Tr.get_del,ac rfl]),cO,ac rfl]
     ·cases hM:M.get b with
      |some y=>rw[ax hM,ax (by rw[Tr.get_del,ab e];exact hM)]
      |none=>rw[aY hM,aY (by rw[Tr.get_del,ab e];exact hM),cO,ab (fun h=>e h.symm)]
    ·rw[g6 y fun e he=>hy e (bJ _ he),Tr.get_del,ab (fun e=>hy (i,x) (bX ..) e.symm)]
    ·have key:∀(s2:List (Nat×bK)) (N:Mem),b8 (s2++[(x,blk)]) N=(b8 s2 N).set x blk:=by
      intro s2
      induction s2 with
      |nil=>intro N;show(N.set x blk).force (fun M=>M)=_;rw[Tr.force_eq];rfl
      |cons a s2 ih=>intro N;show(N.set a.1 a.2).force (fun M=>b8 (s2++[(x,blk)]) M)=_;rw[Tr.force_eq,ih];show _=((N.set a.1 a.2).force fun M=>b8 s2 M).set x blk;rw[Tr.force_eq]
     obtain⟨k1,k2⟩:=g5 N hN z;rw[key,Tr.get_set];refine⟨fun a1 a2=>?_,fun a1=>?_⟩
     ·by_cases e1:z=x
      ·subst e1;rw[ac rfl,hb]
      ·rw[ab e1,k1 a1 a2,Tr.get_del,ab e1]
     ·have e1:¬z=x:=by
       intro e;rcases a1 with a1|a1
       ·omega
       ·exact hxh (by rw[←e];exact a1)
      rw[ab e1,k2 a1]
theorem Vg{hx:Nat→Prop}(base i mask:Nat)(dst:Option aQ)(o:EO)(r:List (Nat×Nat×CO))(t:T)(M:Mem)(c:Nat)(reads:List (Nat×Nat))(R:DS→Prop)(ok:cR F M c)(hr:∀e∈reads,¬hx e.2)(hs:∀b,b<c→hx b→ ∃x,M.get b=some x)
 (h:∀F' M',cR F' M' c→(∀b,look F' M' b=look F M b)→(∀b,(∀e∈reads,e.2≠b)→M'.get b=M.get b)→lD (fc o (K Φ rd fn F') M' c t) fun v M2 c2=>eW hx c M' c2 M2∧ ∀M3,eW hx c M c2 M3→(∀x,c≤x∨hx x→M3.get x=M2.get x)→ly base r (K Φ rd fn F) (.mk (setT t dst v) M3 c2 [] reads) R):
 ly base ((i,mask,.mk dst (.e o) none)::r) (K Φ rd fn F) (.mk t M c [] reads) R:=by
 obtain⟨F',M',s2,g1,g2,g3,g4,g6,g5⟩:=jh (c:=c) (h:=hx) mask reads F M [] hr ok.free ok.hiM
 have ok':cR F' M' c:=by
  refine⟨g4,fun b hb=>?_,fun b hb=>?_,ok.ge⟩
  ·have:=g3 b;rw[aY (g4 b hb),ok.look hb]at this;exact this
  ·have:∃blk,(b,blk)∈F':=by
    clear g1 g2 g3 g5 h
    induction F' with
    |nil=>cases hb
    |cons a F' ih=>
     obtain⟨k,z⟩:=a;rw[cO]at hb;split at hb
     ·rename_i e;have e:k=b:=e;exact⟨z,by rw[e];exact bX ..⟩
     ·obtain⟨blk,hm⟩:=ih hb;exact⟨blk,bJ _ hm⟩
   obtain⟨blk,hm⟩:=this;exact gw F' g2 b blk hm
 obtain⟨v,M2,c2,hd,hg,hR⟩:=h F' M' ok' g3 g6
 have hun:=g5 M2 hg.old
 have ok2:cR F' M2 c2:=hg.ok ok' fun b hb hxb=>by rw[g6 b fun e he e1=>hr e he (by rw[e1];exact hxb)];exact hs b hb hxb
 have he:rZ (K Φ rd fn F) base (i,mask,.mk dst (.e o) none) (.mk t M c [] reads)=some (.mk (setT t dst v) (b8 s2 M2) c2 [] reads):=by
  show qa o (K Φ rd fn F) dst t c [] reads (bQ mask reads F M [])=_;rw[g1];show nk F' dst t [] reads (s2++[]) (fc o (K Φ rd fn F') M' c t)=_;rw[hd,bH];show(bif bT M2 F'&&true then(b8 s2 M2).force fun M=>(setT t dst v).force fun t=>some (DS.mk t M c2 [] reads)else none)=_;rw[ok2.free];show((b8 s2 M2).force fun M=>(setT t dst v).force fun t=>some (DS.mk t M c2 [] reads))=_;rw[Tr.force_eq,Tr.force_eq]
 rw[eS]
 have hle:=hg.le
 refine⟨_,he,hR _ ⟨hle,fun b hb hn=>(hun b).1 hb hn,fun b hb=>?_⟩ fun x hx=>(hun x).2 hx⟩
 rw[(hun b).2 (.inl (by omega))];exact hg.new b hb
theorem Wm{M:Mem}{c b n ty sz bytes:Nat}{y:V}{es ns:List (List V)}(h:cE F M c sz (.l b 0 n n) es)(hn:es.length=n)(hsz:0<sz)(hy:cE F M c sz y ns)(hne:ns≠[])(h1:aK ns.flatten=true)(hr:mo (es.length+ns.length) bytes=true):
 lD (rU F M c ty sz bytes (.l b 0 n n) y) fun v' M' c'=>c'=c+1∧M'=M.set c (pC ty (es++ns).flatten)∧v'= .u c 0 (es++ns).length 0 (es++ns).length:=by
 unfold rU
 rw[AP hsz hy]
 have hnl:=fe hy.1
 have hn0:ns.length≠0:=fun e=>hne (List.length_eq_zero_iff.1 e)
 have e1:nW F M c ty sz bytes (.l b 0 n n) (some (ns.length,ns.flatten))=vY F M c ty sz bytes b 0 n n ns.length ns.flatten:=by
  show(bif aK ns.flatten&&Nat.beq ns.flatten.length (Nat.mul ns.length sz)then app F M c ty sz bytes (.l b 0 n n) ns.length ns.flatten else _)=_;rw[h1,bU,ah (show ns.flatten.length=Nat.mul ns.length sz from hnl)];show(bif Nat.beq ns.length 0 then _ else _)=_;rw[bU,af hn0];rfl
 have hcl:dh F M b 0 es.flatten:=by
  obtain⟨h0,⟨rfl,h2⟩|⟨b',o',hv,hb,hc⟩⟩:=h
  ·intro k hk;cases hk
  ·rcases hv with⟨cap,_,hv⟩|⟨el,kn,_,hv⟩
   ·injection hv with e1 e2;subst e1 e2;exact hc
   ·cases hv
 obtain⟨r,hrd⟩:=ml hsz h.1 hcl
 rw[hn]at hrd
 have e2:vY F M c ty sz bytes b 0 n n ns.length ns.flatten=i7 M c ty bytes (es.length+ns.length) 0 false (es.flatten++ns.flatten):=by
  unfold vY;rw[cG,af (show¬Nat.add n ns.length≤n by show¬n+ns.length≤n;omega),cond_false,hrd,←hn];rfl
 refine⟨_,_,_,(e1.trans e2).trans (p6 M c ty bytes _ _ hr),rfl,by rw[List.flatten_append],by rw[aH]⟩
theorem Gg{M:Mem}{c sz:Nat}{v:V}{es:List (List V)}(h:cE F M c sz v es)(hne:es≠[]):∃v',vu sz v (some (.i .i64 1)) none none=some v'∧cE F M c sz v' es.tail:=by
 have hl:1≤es.length:=by
  cases es with
  |nil=>exact absurd rfl hne
  |cons a r=>simp
 obtain⟨v',_,_,e3,_,hs⟩:=Ya (lo:=1) (hi:=es.length) h hl (aj _)
 exact⟨v',e3 rfl .i64,by rwa [List.take_length,List.drop_one]at hs⟩
end
def aC1:CC:=(.reg [(qq a4 (.mv (x6 0)))])
def aC2:CC:=(.reg [(qq a5 (.mv z0)),(qq a6 (.mv z1)),(qq a7 (.xib z5 z6)),(qq a4 (.mv z7))])
def c88:CF:= .mk 4 [.t a4] (.seq aC1 (.seq aC2 .ret))
theorem e88(v0 v1:V):bz 4 [v0,v1]=(.n (.n sG (some v1) sG) (some v0) jt):=rfl
def B88:=ai @e88 (ai (wu aC1.eq_1) (wu aC2.eq_1))
def aB9:CC:=(.reg [(qq a4 (.mv xF))])
def aC0:CC:=(.reg [(qq a5 (.mv z0)),(qq a6 (.ln .str z5)),(qq a7 (.mv z1)),(qq a8 (.ln .str z7)),(qq a9 (.bi .geq z6 z8)),(qq dJ (.mv z9)),(aE ey (.mv z0) dJ),(aE eU (.mv z1) dJ),(aE eC (.ln .str ei) dJ),(aE dR (.slS dE none (some eb)) dJ),(aE dA (.mv z1) dJ),(aE eX (.bi .eql fG gf) dJ),(qq gC (.pk eK gM xF)),(qq a4 (.mv gS))])
def c87:CF:= .mk 5 [.t a4] (.seq aB9 (.seq aC0 .ret))
theorem e87(v0 v1:V):bz 5 [v0,v1]=(.n (.n jt (some v1) jt) (some v0) nr):=rfl
def B87:=ai @e87 (ai (wu aB9.eq_1) (wu aC0.eq_1))
def pW:V→Option (List UInt8)
 | .s n x=>if ce (bl n x)=x then some (bl n x)else none
 |_=>none
theorem kS(l:List UInt8):pW (sV l)=some l:=by
 show(if ce (bl l.length (ce l))=ce l then some (bl l.length (ce l))else none)=_
 rw[kI,ac rfl]
theorem aW2{v:V}{l:List UInt8}(h:pW v=some l):v=sV l:=by
 unfold pW at h
 split at h
 ·rename_i n x;split at h
  ·rename_i hx;obtain rfl:=ag h;show V.s n x=V.s (bl n x).length (ce (bl n x));rw[hx,iD]
  ·cases h
 ·cases h
def vm(c:UInt8):List UInt8→Nat→Option Nat
 |[],_=>none
 |x::r,i=>if x=c then some i else vm c r (i+1)
theorem Dl{c:UInt8}:∀{l:List UInt8} {i k:Nat},vm c l i=some k→i≤k∧k<i+l.length
 |[],i,k,h=>by cases h
 |x::r,i,k,h=>by
  unfold vm at h;split at h
  ·obtain rfl:=ag h;simp
  ·have:=Dl h;rw[aA];omega
theorem Fp(c:UInt8):∀(l:List UInt8) (i:Nat),lR c.toNat l.length (ce l) i=vm c l i
 |[],i=>rfl
 |x::r,i=>by
  have hx:=UInt8.toNat_lt x;show(bif Nat.beq ((x.toNat+256*ce r)%256) c.toNat then some i else lR c.toNat r.length ((x.toNat+256*ce r)/256) (Nat.succ i))=_;rw[show(x.toNat+256*ce r)%256=x.toNat by omega,show(x.toNat+256*ce r)/256=ce r by omega,bU,vm];by_cases h:x=c
  ·subst h;rw[ah rfl,ac rfl];rfl
  ·rw[af (fun e=>h (UInt8.toNat_inj.1 e)),ab h,cond_false];exact Fp c r (i+1)
def c26(x c:V):Option V:=(cX (.xib (.c x) (.c c)) [] .e .e).val
theorem bS2{F:RO}(x c:X)(M:Mem)(t:T):(cX (.xib x c) F M t).val=c26 (x.ev t) (c.ev t):=Eq.trans rfl (Eq.refl _)
def vn:Option Nat→Int
 |some k=>(k:Int)
 |none=> -1
theorem bs4(l:List UInt8)(c:UInt8):c26 (sV l) (bV c)=some (.i .i64 (vn (vm c l 0))):=by
 show(DT (lR (Nat.mod c.toNat 256) l.length (ce l) 0)).val=_
 have:=UInt8.toNat_lt c
 rw[show Nat.mod c.toNat 256=c.toNat from Nat.mod_eq_of_lt (by omega),Fp]
 cases vm c l 0<;>rfl
theorem t88(Φ:Nat→Option CF)(h:Φ 88=some c88)(l:List UInt8)(b:UInt8)(ct:Nat):To Φ 88 [sV l,bV b] ct (.i .i64 (vn (vm b l 0))):=by
 refine eR h ?_
 simp only[WX,B88,bS2,bs4]
def VM:V→Option UInt8
 | .i .u8 (.ofNat n)=>if n<256 then some (UInt8.ofNat n)else none
 |_=>none
theorem JE(b:UInt8):VM (bV b)=some b:=by
 have:=UInt8.toNat_lt b
 show(if b.toNat<256 then some (UInt8.ofNat b.toNat)else none)=_
 rw[ac (by omega),UInt8.ofNat_toNat]
theorem aW1{v:V}{b:UInt8}(h:VM v=some b):v=bV b:=by
 unfold VM at h
 split at h
 ·rename_i n;split at h
  ·obtain rfl:=ag h;show V.i .u8 (n:Int)=V.i .u8 ((UInt8.ofNat n).toNat:Int);rw[UInt8.toNat_ofNat',Nat.mod_eq_of_lt (by omega)]
  ·cases h
 ·cases h
def h88:List V→Option V
 |[v,w]=>(pW v).bind fun l=>(VM w).bind fun b=>some (.i .i64 (vn (vm b l 0)))
 |_=>none
theorem Dp(l:List UInt8)(b:UInt8):h88 [sV l,bV b]=some (.i .i64 (vn (vm b l 0))):=by
 show(pW (sV l)).bind (fun l=>(VM (bV b)).bind fun b=>some (V.i .i64 (vn (vm b l 0))))=_
 rw[kS,Option.bind_some,JE,Option.bind_some]
theorem aT0{F:RO}(x:X)(lo hi:Option X)(M:Mem)(t:T):lq (.slS x lo hi) F M t=oV (uq (x.ev t) (lo.map fun x=>x.ev t) (hi.map fun x=>x.ev t)):=by
 refine(fw ?_).trans (congrArg oV (aJ3 (F:=F) x lo hi M t))
 intro F' M'
 refine jQ ?_
 show((wC (x.ev t) QR.f fun n s=>js n s (optN t 0 lo) (optN t n hi))= .f∨ ∃y,(wC (x.ev t) QR.f fun n s=>js n s (optN t 0 lo) (optN t n hi))= .v y)
 cases x.ev t with
 |s n s=>
  show QV (js n s (optN t 0 lo) (optN t n hi));generalize optN t 0 lo=a;generalize optN t n hi=b;cases a with
  |none=>exact .inl rfl
  |some a=>
   cases b with
   |none=>exact .inl rfl
   |some b=>
    show QV (Bool.rec (motive:=fun _=>QR) .f (Bool.rec (motive:=fun _=>QR) .f (vS (b-a) (s/256^a%256^(b-a))) (Nat.ble b n)) (Nat.ble a b));cases Nat.ble a b with
    |false=>exact .inl rfl
    |true=>
     cases Nat.ble b n with
     |false=>exact .inl rfl
     |true=>exact .inr ⟨_,by show vS _ _=_;unfold vS;rw[bG,bG]⟩
 |_=>exact .inl rfl
theorem t87(Φ:Nat→Option CF)(h:Φ 87=some c87)(l p:List UInt8)(ct:Nat):To Φ 87 [sV l,sV p] ct (.b (decide (p.length≤l.length∧l.take p.length=p))):=by
 refine eR h ?_
 by_cases h1:p.length≤l.length
 ·have d1:decide ((p.length:Int)≤(l.length:Int))=true:=ah (by omega);have s1:=TN l .i64 p.length h1;have e:decide (p.length≤l.length∧l.take p.length=p)=decide (l.take p.length=p):=by simp[h1]
  rw[e];simp only[WX,B87,d1,s1]
 ·have d1:decide ((p.length:Int)≤(l.length:Int))=false:=af (by omega);have e:decide (p.length≤l.length∧l.take p.length=p)=false:=af (fun hh=>h1 hh.1);rw[e];simp only[WX,B87,d1]
def Sv:List V→Option V
 |[v,w]=>(pW v).bind fun l=>(pW w).bind fun p=>some (.b (decide (p.length≤l.length∧l.take p.length=p)))
 |_=>none
theorem aU5(l p:List UInt8):Sv [sV l,sV p]=some (.b (decide (p.length≤l.length∧l.take p.length=p))):=by
 show(pW (sV l)).bind (fun l=>(pW (sV p)).bind fun p=>some (V.b (decide (p.length≤l.length∧l.take p.length=p))))=_
 rw[kS,Option.bind_some,kS,Option.bind_some]
def ax0:CC:=(.reg [(qq a4 (.mv xF))])
def ax1:CC:=(.reg [(qq a5 (.mv z0)),(qq a6 (.mv z1)),(ee a7 (.call 87 [z5,z6])),(qq a4 (.mv z7))])
def c73:CF:= .mk 4 [.t a4] (.seq ax0 (.seq ax1 .ret))
theorem e73(v0 v1:V):bz 4 [v0,v1]=(.n (.n sG (some v1) sG) (some v0) jt):=rfl
def B73:=ai @e73 (ai (wu ax0.eq_1) (wu ax1.eq_1))
def ax8:CC:=(.reg [(qq a4 (.mv (x6 0)))])
def ax9:CC:=(.reg [(qq a5 (.mv z0)),(qq a6 (.mv z1)),(ee a7 (.call 88 [z5,z6])),(qq a4 (.mv z7))])
def c76:CF:= .mk 4 [.t a4] (.seq ax8 (.seq ax9 .ret))
theorem e76(v0 v1:V):bz 4 [v0,v1]=(.n (.n sG (some v1) sG) (some v0) jt):=rfl
def B76:=ai @e76 (ai (wu ax8.eq_1) (wu ax9.eq_1))
def ax6:CC:=(.reg [(qq a3 (.mv z0)),(qq a4 (.bi .gtr z3 (.c (.i .u8 32)))),(qq a5 (.mv z4)),(aE a6 (.mv z0) a5),(aE a7 (.bi .lss z6 (.c (.i .u8 127))) a5),(qq a8 (.pk z5 z7 xF)),(qq a9 (.mv z8)),(aE dJ (.mv z0) a9),(p5 ey (.call 76 [(.c (.s 8 2603404095485934631)),eK]) a9),(aE eU (.bi .lss dE (x6 0)) a9),(qq eC (.pk z9 ei xF)),(qq a2 (.mv eb))])
def ax7:CC:=(.seq (.reg [(qq a2 (.mv xF))]) (.seq ax6 .ret))
def c75:CF:= .mk 4 [.t a2] ax7
theorem e75(v0:V):bz 4 [v0]=(.n jt (some v0) jt):=rfl
def B75:=ai @e75 (ai (wu ax6.eq_1) (wu ax7.eq_1))
def ay9:CC:=(.reg [(qq a3 (.mv z0)),(qq a4 (.bi .geq z3 (.c (.i .u8 32)))),(qq a5 (.mv z4)),(aE a6 (.mv z0) a5),(aE a7 (.bi .lss z6 (.c (.i .u8 127))) a5),(qq a8 (.pk z5 z7 xF)),(qq a9 (.mv z8)),(aE dJ (.mv z0) a9),(aE ey (.bi .neq eK (.c (.i .u8 39))) a9),(qq eU (.pk z9 dE xF)),(qq a2 (.mv ei))])
def az0:CC:=(.seq (.reg [(qq a2 (.mv xF))]) (.seq ay9 .ret))
def c78:CF:= .mk 4 [.t a2] az0
theorem e78(v0:V):bz 4 [v0]=(.n jt (some v0) jt):=rfl
def B78:=ai @e78 (ai (wu ay9.eq_1) (wu az0.eq_1))
def av5:CC:=(.reg [(qq a5 (.bi .eql z3 (.c (.i .u8 39)))),(qq a4 (.mv z5))])
def av6:CC:=(.reg [(qq a6 (.bi .eql z3 (.c (.i .u8 124)))),(qq a4 (.mv z6))])
def av7:CC:=(.reg [(qq a7 (.bi .eql z3 (.c (.i .u8 60)))),(qq a4 (.mv z7))])
def av8:CC:=(.reg [(qq a8 (.bi .eql z3 (.c (.i .u8 62)))),(qq a4 (.mv z8))])
def av9:CC:=(.reg [(qq a9 (.bi .eql z3 (.c (.i .u8 59)))),(qq a4 (.mv z9))])
def aw0:CC:=(.reg [(qq dJ (.bi .eql z3 (.c (.i .u8 38)))),(qq a4 (.mv eK))])
def aw1:CC:=(.reg [(qq ey (.bi .eql z3 (.c (.i .u8 33)))),(qq a4 (.mv dE))])
def aw2:CC:=(.reg [(qq eU (.bi .eql z3 (.c (.i .u8 36)))),(qq a4 (.mv ei))])
def aw3:CC:=(.cond z4 .skip (.seq aw1 (.cond z4 .skip aw2)))
def Rf:CC:=(.seq av9 (.cond z4 .skip (.seq aw0 aw3)))
def Rg:CC:=(.cond z4 .skip (.seq av8 (.cond z4 .skip Rf)))
def Rh:CC:=(.seq av6 (.cond z4 .skip (.seq av7 Rg)))
def Ri:CC:=(.seq (.reg [(qq a2 (.mv xF))]) .ret)
def Rj:CC:=(.seq (.seq av5 (.cond z4 .skip Rh)) (.cond z4 Ri .skip))
def Rk:CC:=(.seq (.reg [(qq a3 (.mv z0))]) (.block 0 Rj))
def Rl:CC:=(.reg [(qq eC (.mv z0)),(qq dR (.bi .geq eb (.c (.i .u8 33)))),(qq dA (.mv fG)),(aE eX (.mv z0) dA),(aE gC (.bi .leq gM (.c (.i .u8 126))) dA),(qq fK (.pk gf gS xF)),(qq a2 (.mv hU))])
def Rm:CC:=(.seq (.reg [(qq a2 (.mv xF))]) (.seq Rk (.seq Rl .ret)))
def c68:CF:= .mk 5 [.t a2] Rm
theorem e68(v0:V):bz 5 [v0]=(.n nr (some v0) nr):=rfl
def VJ:=ai @e68 (ai (wu av5.eq_1) (ai (wu av6.eq_1) (ai (wu av7.eq_1) (ai (wu av8.eq_1) (ai (wu av9.eq_1) (ai (wu aw0.eq_1) (ai (wu aw1.eq_1) (ai (wu aw2.eq_1) (ai (wu aw3.eq_1) (ai (wu Rf.eq_1) (ai (wu Rg.eq_1) (ai (wu Rh.eq_1) (ai (wu Ri.eq_1) (ai (wu Rj.eq_1) (ai (wu Rk.eq_1) (ai (wu Rl.eq_1) (wu Rm.eq_1)))))))))))))))))
def aw4:CC:=(.reg [(qq a3 (.mv z0)),(qq a4 (.bi .geq z3 (.c (.i .u8 32)))),(qq a5 (.mv z4)),(aE a6 (.mv z0) a5),(aE a7 (.bi .leq z6 (.c (.i .u8 126))) a5),(qq a8 (.pk z5 z7 xF)),(qq a9 (.mv z8)),(aE dJ (.mv z0) a9),(aE ey (.bi .neq eK (.c (.i .u8 39))) a9),(qq eU (.pk z9 dE xF)),(qq a2 (.mv ei))])
def aw5:CC:=(.seq (.reg [(qq a2 (.mv xF))]) (.seq aw4 .ret))
def c69:CF:= .mk 4 [.t a2] aw5
theorem e69(v0:V):bz 4 [v0]=(.n jt (some v0) jt):=rfl
def B69:=ai @e69 (ai (wu aw4.eq_1) (wu aw5.eq_1))
def BD(p l:List UInt8):Bool:=decide (p.length≤l.length∧l.take p.length=p)
theorem t73(Φ:Nat→Option CF)(h:Φ 73=some c73)(Sv:Φ 87=some (.orc (aG Sv)))(l p:List UInt8)(ct:Nat):To Φ 73 [sV l,sV p] ct (.b (BD p l)):=by
 refine eR h ?_
 have h1:=aU5 l p
 simp only[WX,B73,Sv,h1]
 rfl
def h73:List V→Option V
 |[v,w]=>(pW v).bind fun l=>(pW w).bind fun p=>some (V.b (BD p l))
 |_=>none
theorem Su(l p:List UInt8):h73 [sV l,sV p]=some (V.b (BD p l)):=by
 show(pW (sV l)).bind (fun l=>(pW (sV p)).bind fun p=>some (V.b (BD p l)))=_
 rw[kS,Option.bind_some,kS,Option.bind_some]
theorem t76(Φ:Nat→Option CF)(h:Φ 76=some c76)(h88:Φ 88=some (.orc (aG h88)))(l:List UInt8)(b:UInt8)(ct:Nat):To Φ 76 [sV l,bV b] ct (.i .i64 (vn (vm b l 0))):=by
 refine eR h ?_
 have h1:=Dp l b
 simp only[WX,B76,h88,h1]
def nJ(b:UInt8):Bool:=decide (32<b.toNat)&&(decide (b.toNat<127)&&decide (vn (vm b [39,124,60,62,59,38,33,36] 0)<0))
def l8(b:UInt8):Bool:=decide (32≤b.toNat)&&(decide (b.toNat<127)&&decide (b.toNat≠39))
theorem aZ6:V.s 8 2603404095485934631=sV [39,124,60,62,59,38,33,36]:=rfl
theorem t75(Φ:Nat→Option CF)(h:Φ 75=some c75)(h76:Φ 76=some (.orc (aG h88)))(b:UInt8)(ct:Nat):To Φ 75 [bV b] ct (.b (nJ b)):=by
 refine eR h ?_
 have h1:=Dp [39,124,60,62,59,38,33,36] b
 rw[←aZ6]at h1
 have hb:bV b= .i .u8 (b.toNat:Int):=rfl
 have hlt:=UInt8.toNat_lt b
 have d1:decide ((32:Int)<(b.toNat:Int))=decide (32<b.toNat):=by congr 1;exact propext (by omega)
 have d2:decide ((b.toNat:Int)<127)=decide (b.toNat<127):=by congr 1;exact propext (by omega)
 unfold nJ
 rw[hb]at h1⊢
 cases x1:decide (32<b.toNat)with
 |false=>simp only[WX,B75,d1,x1,Bool.false_and]
 |true=>
  cases x2:decide (b.toNat<127)with
  |false=>simp only[WX,B75,d1,d2,x1,x2,Bool.false_and]
  |true=>simp only[WX,B75,h76,h1,d1,d2,x1,x2]
theorem t78(Φ:Nat→Option CF)(h:Φ 78=some c78)(b:UInt8)(ct:Nat):To Φ 78 [bV b] ct (.b (l8 b)):=by
 refine eR h ?_
 have hb:bV b= .i .u8 (b.toNat:Int):=rfl
 have hlt:=UInt8.toNat_lt b
 have d1:decide ((32:Int)≤(b.toNat:Int))=decide (32≤b.toNat):=by congr 1;exact propext (by omega)
 have d2:decide ((b.toNat:Int)<127)=decide (b.toNat<127):=by congr 1;exact propext (by omega)
 have d3:decide ((b.toNat:Int)≠39)=decide (b.toNat≠39):=by congr 1;exact propext (by omega)
 unfold l8
 rw[hb]
 cases x1:decide (32≤b.toNat)with
 |false=>simp only[WX,B78,d1,x1,Bool.false_and]
 |true=>
  cases x2:decide (b.toNat<127)with
  |false=>simp only[WX,B78,d1,d2,x1,x2,Bool.false_and]
  |true=>simp only[WX,B78,d1,d2,d3,x1,x2]
theorem t69(Φ:Nat→Option CF)(h:Φ 69=some c69)(b:UInt8)(ct:Nat):To Φ 69 [bV b] ct (.b (l8 b)):=by
 refine eR h ?_
 have hb:bV b= .i .u8 (b.toNat:Int):=rfl
 have hlt:=UInt8.toNat_lt b
 have d1:decide ((32:Int)≤(b.toNat:Int))=decide (32≤b.toNat):=by congr 1;exact propext (by omega)
 have d2:decide ((b.toNat:Int)≤126)=decide (b.toNat<127):=by congr 1;exact propext (by omega)
 have d3:decide ((b.toNat:Int)≠39)=decide (b.toNat≠39):=by congr 1;exact propext (by omega)
 unfold l8
 rw[hb]
 cases x1:decide (32≤b.toNat)with
 |false=>simp only[WX,B69,d1,x1,Bool.false_and]
 |true=>
  cases x2:decide (b.toNat<127)with
  |false=>simp only[WX,B69,d1,d2,x1,x2,Bool.false_and]
  |true=>simp only[WX,B69,d1,d2,d3,x1,x2]
theorem aX2(b:UInt8):nJ b=(!(decide (b.toNat=39)||(decide (b.toNat=124)||(decide (b.toNat=60)||(decide (b.toNat=62)||(decide (b.toNat=59)||(decide (b.toNat=38)||(decide (b.toNat=33)||decide (b.toNat=36))))))))&&(decide (33≤b.toNat)&&decide (b.toNat≤126))):=by
 have key:∀n,n<256→nJ (UInt8.ofNat n)=(!(decide ((UInt8.ofNat n).toNat=39)||(decide ((UInt8.ofNat n).toNat=124)||(decide ((UInt8.ofNat n).toNat=60)||(decide ((UInt8.ofNat n).toNat=62)||(decide ((UInt8.ofNat n).toNat=59)||(decide ((UInt8.ofNat n).toNat=38)||(decide ((UInt8.ofNat n).toNat=33)||decide ((UInt8.ofNat n).toNat=36))))))))&&(decide (33≤(UInt8.ofNat n).toNat)&&decide ((UInt8.ofNat n).toNat≤126))):=by decide+kernel
 have:=key b.toNat (UInt8.toNat_lt b)
 rwa [UInt8.ofNat_toNat]at this
theorem t68(Φ:Nat→Option CF)(h:Φ 68=some c68)(b:UInt8)(ct:Nat):To Φ 68 [bV b] ct (.b (nJ b)):=by
 refine eR h ?_
 have hb:bV b= .i .u8 (b.toNat:Int):=rfl
 have q:∀k:Nat,decide ((b.toNat:Int)=(k:Int))=decide (b.toNat=k):=fun k=>by congr 1;exact propext (by omega)
 have q1:=q 39;have q2:=q 124;have q3:=q 60;have q4:=q 62;have q5:=q 59;have q6:=q 38;have q7:=q 33;have q8:=q 36
 have d1:decide ((33:Int)≤(b.toNat:Int))=decide (33≤b.toNat):=by congr 1;exact propext (by omega)
 have d2:decide ((b.toNat:Int)≤126)=decide (b.toNat≤126):=by congr 1;exact propext (by omega)
 simp only[Int.cast_ofNat_Int]at q1 q2 q3 q4 q5 q6 q7 q8
 rw[aX2,hb]
 generalize decide (b.toNat=39)=y1 at q1⊢
 generalize decide (b.toNat=124)=y2 at q2⊢
 generalize decide (b.toNat=60)=y3 at q3⊢
 generalize decide (b.toNat=62)=y4 at q4⊢
 generalize decide (b.toNat=59)=y5 at q5⊢
 generalize decide (b.toNat=38)=y6 at q6⊢
 generalize decide (b.toNat=33)=y7 at q7⊢
 generalize decide (b.toNat=36)=y8 at q8⊢
 generalize decide (33≤b.toNat)=z1 at d1⊢
 generalize decide (b.toNat≤126)=z2 at d2⊢
 cases y1 with
 |true=>simp only[WX,VJ,q1,Bool.true_or,Bool.false_and]
 |false=>
  cases y2 with
  |true=>simp only[WX,VJ,q1,q2,Bool.true_or,Bool.false_or,Bool.false_and]
  |false=>
   cases y3 with
   |true=>simp only[WX,VJ,q1,q2,q3,Bool.true_or,Bool.false_or,Bool.false_and]
   |false=>
    cases y4 with
    |true=>simp only[WX,VJ,q1,q2,q3,q4,Bool.true_or,Bool.false_or,Bool.false_and]
    |false=>
     cases y5 with
     |true=>simp only[WX,VJ,q1,q2,q3,q4,q5,Bool.true_or,Bool.false_or,Bool.false_and]
     |false=>
      cases y6 with
      |true=>simp only[WX,VJ,q1,q2,q3,q4,q5,q6,Bool.true_or,Bool.false_or,Bool.false_and]
      |false=>
       cases y7 with
       |true=>simp only[WX,VJ,q1,q2,q3,q4,q5,q6,q7,Bool.true_or,Bool.false_or,Bool.false_and]
       |false=>
        cases y8 with
        |true=>simp only[WX,VJ,q1,q2,q3,q4,q5,q6,q7,q8,Bool.false_or,Bool.false_and]
        |false=>
         cases z1 with
         |false=>simp only[WX,VJ,q1,q2,q3,q4,q5,q6,q7,q8,d1,Bool.false_or,Bool.false_and]
         |true=>simp only[WX,VJ,q1,q2,q3,q4,q5,q6,q7,q8,d1,d2,Bool.false_or]
abbrev aH1(u:List (Option V))(x0 x1 x7 x8:V):T:=(.n (.n (.n (.n (gy u 15) (some x7) (gy u 23)) (uO u 3) (fm u 19 11 27)) (some x1) (aq u 17 9 25 5 21 13 29)) (some x0) (.n (.n (.n (gy u 16) (some x8) (gy u 24)) (uO u 4) (fm u 20 12 28)) (uO u 2) (aq u 18 10 26 6 22 14 30)))
abbrev bO3(u:List (Option V))(x0 x5 x6 x7:V):T:=(.n (.n (.n (.n (gy u 15) (some x7) (gy u 23)) (uO u 3) (fm u 19 11 27)) (uO u 1) (.n (fm u 17 9 25) (some x5) (fm u 21 13 29))) (some x0) (.n (aq u 16 8 24 4 20 12 28) (uO u 2) (.n (fm u 18 10 26) (some x6) (fm u 22 14 30))))
def ay0:CC:=(.reg [(qq a4 (.mv xF))])
def ay1:CC:=(.reg [(qq a6 (.mv z0)),(qq a7 (.ln .str z6)),(qq a8 (.mv (x6 0)))])
def ay2:CC:=(.reg [(qq a9 (.bi .lss z8 z7))])
def ay3:CC:=(.reg [(qq dJ (.mv z8)),(qq a5 (.mv eK))])
def ay4:CC:=(.reg [(qq ey (.mv z1)),(qq eU (.mv z0)),(qq eC (.mv z5)),(qq dR (.ixS ei eb)),(ee dA (.cv dE [fG])),(qq eX (.un .not gf))])
def ay5:CC:=(.reg [(qq a4 (.mv xF))])
def ay6:CC:=(.seq ay4 (.cond gM (.seq ay5 .ret) .skip))
def ay7:CC:=(.reg [(qq gC (.bi .add z8 (x6 1))),(qq a8 (.mv gS))])
def ay8:CC:=(.seq (.cond z9 .skip (.exit 0)) (.seq (.block 1 (.seq ay3 ay6)) ay7))
def Rn:CC:=(.reg [(qq a4 (.mv xT))])
def Ro:CC:=(.seq (.seq ay1 (.block 0 (.loop (.seq ay2 ay8)))) (.seq Rn .ret))
def c77:CF:= .mk 5 [.t a4] (.seq ay0 Ro)
theorem e77(v0 v1:V):bz 5 [v0,v1]=(.n (.n jt (some v1) jt) (some v0) nr):=rfl
def YK:=ai @e77 (ai (wu ay0.eq_1) (ai (wu ay1.eq_1) (ai (wu ay2.eq_1) (ai (wu ay3.eq_1) (ai (wu ay4.eq_1) (ai (wu ay5.eq_1) (ai (wu ay6.eq_1) (ai (wu ay7.eq_1) (ai (wu ay8.eq_1) (ai (wu Rn.eq_1) (wu Ro.eq_1)))))))))))
def an1:CC:=(.reg [(aa a5 (.bsl 9 8 1 [(.s 0 0)] [(0,(.c (.s 2 15934))),(1,(.c (.s 2 9766))),(2,(.c (.s 2 31868))),(3,(.c (.s 1 124))),(4,(.c (.s 1 60))),(5,(.c (.s 1 62))),(6,(.c (.s 1 59))),(7,(.c (.s 1 33)))])),(qq a6 (.ln .slice z5)),(qq a7 (.mv (x6 0)))])
def an2:CC:=(.reg [(qq a8 (.bi .lss z7 z6))])
def an3:CC:=(.reg [(qq a9 (.iaS 1 z5 z7)),(qq dJ (.ld1 z9)),(qq a4 (.mv eK))])
def an4:CC:=(.reg [(qq ey (.mv z0)),(qq eU (.mv z4)),(ee eC (.call 73 [dE,ei]))])
def an5:CC:=(.reg [(qq dR (.mv z4)),(qq a2 (.mv fG))])
def an6:CC:=(.seq an4 (.cond eb (.seq an5 .ret) .skip))
def an7:CC:=(.reg [(qq dA (.bi .add z7 (x6 1))),(qq a7 (.mv gf))])
def an8:CC:=(.seq (.cond z8 .skip (.exit 0)) (.seq (.block 1 (.seq an3 an6)) an7))
def an9:CC:=(.seq (.reg [(qq a2 (.mv (.c (.s 0 0))))]) .ret)
def OW:CC:=(.seq (.seq an1 (.block 0 (.loop (.seq an2 an8)))) an9)
def OX:CC:=(.seq (.reg [(qq a2 (.mv (.c (.s 0 0))))]) OW)
def c55:CF:= .mk 5 [.t a2] OX
theorem e55(v0:V):bz 5 [v0]=(.n nr (some v0) nr):=rfl
def B55:=ai @e55 (ai (wu an1.eq_1) (ai (wu an2.eq_1) (ai (wu an3.eq_1) (ai (wu an4.eq_1) (ai (wu an5.eq_1) (ai (wu an6.eq_1) (ai (wu an7.eq_1) (ai (wu an8.eq_1) (ai (wu an9.eq_1) (ai (wu OW.eq_1) (wu OX.eq_1)))))))))))
def ak7:CC:=(.reg [(qq a3 (.mv z0)),(qq a4 (.ln .str z3)),(qq a5 (.bi .geq z4 (x6 2))),(qq a6 (.mv z5)),(aE a7 (.mv z0) a6),(aE a8 (.slS z7 none (some (x6 2))) a6),(aE a9 (.bi .eql z8 (.c (.s 2 15934))) a6),(aE dJ (.mv z9) a6),(aw ey (.mv z0) dJ),(aw eU (.slS dE none (some (x6 2))) dJ),(aw eC (.bi .eql ei (.c (.s 2 9766))) dJ),(aE dR (.pk eK xT eb) a6),(aE dA (.mv fG) a6),(aw eX (.mv z0) dA),(aw gC (.slS gM none (some (x6 2))) dA),(aw fK (.bi .eql gS (.c (.s 2 31868))) dA),(aE i5 (.pk gf xT hU) a6),(qq gh (.pk z6 jz xF))])
def ak8:CC:=(.reg [(qq fE (.mv z0)),(qq j9 (.slS ju none (some (x6 2)))),(qq a2 (.mv kL))])
def ak9:CC:=(.seq ak7 (.cond k7 (.seq ak8 .ret) .skip))
def al0:CC:=(.reg [(qq gO (.mv z0)),(qq jn (.ixS k8 (x6 0)))])
def al1:CC:=(.reg [(qq ja (.bi .eql jA (.c (.i .u8 124)))),(qq gP (.mv lw))])
def al2:CC:=(.reg [(qq gQ (.bi .eql jA (.c (.i .u8 60)))),(qq gP (.mv lB))])
def al3:CC:=(.reg [(qq kQ (.bi .eql jA (.c (.i .u8 62)))),(qq gP (.mv mH))])
def al4:CC:=(.reg [(qq gU (.bi .eql jA (.c (.i .u8 59)))),(qq gP (.mv mI))])
def al5:CC:=(.reg [(qq jv (.bi .eql jA (.c (.i .u8 33)))),(qq gP (.mv nv))])
def Ob:CC:=(.seq al4 (.cond kM .skip al5))
def Oc:CC:=(.seq al3 (.cond kM .skip Ob))
def Od:CC:=(.seq al2 (.cond kM .skip Oc))
def Oe:CC:=(.seq al1 (.cond kM .skip Od))
def Of:CC:=(.reg [(qq jC (.mv z0)),(qq lz (.slS ny none (some (x6 1)))),(qq a2 (.mv oC))])
def Og:CC:=(.cond kM (.seq Of .ret) .skip)
def Oh:CC:=(.seq (.reg [(qq a2 (.mv (.c (.s 0 0))))]) .ret)
def Oi:CC:=(.seq ak9 (.seq (.seq al0 (.block 0 (.seq Oe Og))) Oh))
def Oj:CC:=(.seq (.reg [(qq a2 (.mv (.c (.s 0 0))))]) Oi)
def c44:CF:= .mk 6 [.t a2] Oj
theorem e44(v0:V):bz 6 [v0]=(.n nu (some v0) nu):=rfl
def BP:=ai @e44 (ai (wu ak7.eq_1) (ai (wu ak8.eq_1) (ai (wu ak9.eq_1) (ai (wu al0.eq_1) (ai (wu al1.eq_1) (ai (wu al2.eq_1) (ai (wu al3.eq_1) (ai (wu al4.eq_1) (ai (wu al5.eq_1) (ai (wu Ob.eq_1) (ai (wu Oc.eq_1) (ai (wu Od.eq_1) (ai (wu Oe.eq_1) (ai (wu Of.eq_1) (ai (wu Og.eq_1) (ai (wu Oh.eq_1) (ai (wu Oi.eq_1) (wu Oj.eq_1))))))))))))))))))
def h75:List V→Option V
 |[v]=>(VM v).bind fun b=>some (V.b (nJ b))
 |_=>none
theorem yn(b:UInt8):h75 [bV b]=some (V.b (nJ b)):=by
 show(VM (bV b)).bind (fun b=>some (V.b (nJ b)))=_
 rw[JE,Option.bind_some]
def h78:List V→Option V
 |[v]=>(VM v).bind fun b=>some (V.b (l8 b))
 |_=>none
theorem Do(b:UInt8):h78 [bV b]=some (V.b (l8 b)):=by
 show(VM (bV b)).bind (fun b=>some (V.b (l8 b)))=_
 rw[JE,Option.bind_some]
theorem t77(Φ:Nat→Option CF)(h:Φ 77=some c77)(h78:Φ 78=some (.orc (aG h78)))(l:List UInt8)(hl:l.length≤1000000)(ct:Nat):To Φ 77 [sV l,.f 78 [] []] ct (.b (l.all l8)):=by
 refine eR h ?_
 simp only[WX,YK]
 obtain⟨I1,hI1⟩:∃I:Nat→St→Prop,∀n s',I n s'↔(∃(i:Nat) (u:List (Option V)),n=l.length-i∧i≤l.length∧s'= .mk ((aH1 u (sV l) (.f 78 [] []) (.i .i64 (l.length:Int)) (.i .i64 (i:Int)))) [] .e ct∧l.all l8=(l.drop i).all l8):=⟨fun n s'=>_,fun _ _=>Iff.rfl⟩
 refine bw I1 ?_ l.length _ ((hI1 _ _).2 ⟨0,(G2 (X4 (X1 (G2 (br (X4 (X2 []))))))),rfl,aD _,rfl,by rw[List.drop_zero]⟩)
 intro n s' hIs
 obtain⟨i,u,rfl,hi,rfl,hb⟩:=(hI1 _ _).1 hIs
 clear hIs
 have q8:cB .add (.i .i64 (i:Int)) (.i .i64 1)=some (.i .i64 ((i+1:Nat):Int)):=by rw[be _ _ (by omega) (by omega)];simp
 by_cases hlt:i<l.length
 ·have d1:decide ((i:Int)<(l.length:Int))=true:=ah (by omega);have hix:nn (sV l) (.i .i64 (i:Int))=some (bV l[i]):=qj l .i64 i hlt;have hd:l.drop i=l[i]::l.drop (i+1):=bS hlt;have hh:=Do l[i];cases ho:l8 l[i]with
  |true=>
   rw[ho]at hh;simp only[WX,YK,d1,hix,h78,hh,q8];exact⟨l.length-(i+1),by omega,(hI1 _ _).2 ⟨i+1,(G2 (X4 (X1 (G2 (br (X4 (X2 []))))))),rfl,by omega,rfl,by rw[hb,hd,List.all_cons,ho,Bool.true_and]⟩⟩
  |false=>
   rw[ho]at hh;rw[show l.all l8=false by rw[hb,hd,List.all_cons,ho,Bool.false_and]];simp only[WX,YK,d1,hix,h78,hh]
 ·obtain rfl:i=l.length:=by omega
  have d1:decide ((l.length:Int)<(l.length:Int))=false:=af (by omega);rw[show l.all l8=true by rw[hb,cj];rfl];simp only[WX,YK,d1]
theorem cr1(Φ:Nat→Option CF)(h:Φ 77=some c77)(h75:Φ 75=some (.orc (aG h75)))(l:List UInt8)(hl:l.length≤1000000)(ct:Nat):To Φ 77 [sV l,.f 75 [] []] ct (.b (l.all nJ)):=by
 refine eR h ?_
 simp only[WX,YK]
 obtain⟨I1,hI1⟩:∃I:Nat→St→Prop,∀n s',I n s'↔(∃(i:Nat) (u:List (Option V)),n=l.length-i∧i≤l.length∧s'= .mk ((aH1 u (sV l) (.f 75 [] []) (.i .i64 (l.length:Int)) (.i .i64 (i:Int)))) [] .e ct∧l.all nJ=(l.drop i).all nJ):=⟨fun n s'=>_,fun _ _=>Iff.rfl⟩
 refine bw I1 ?_ l.length _ ((hI1 _ _).2 ⟨0,(G2 (X4 (X1 (G2 (br (X4 (X2 []))))))),rfl,aD _,rfl,by rw[List.drop_zero]⟩)
 intro n s' hIs
 obtain⟨i,u,rfl,hi,rfl,hb⟩:=(hI1 _ _).1 hIs
 clear hIs
 have q8:cB .add (.i .i64 (i:Int)) (.i .i64 1)=some (.i .i64 ((i+1:Nat):Int)):=by rw[be _ _ (by omega) (by omega)];simp
 by_cases hlt:i<l.length
 ·have d1:decide ((i:Int)<(l.length:Int))=true:=ah (by omega);have hix:nn (sV l) (.i .i64 (i:Int))=some (bV l[i]):=qj l .i64 i hlt;have hd:l.drop i=l[i]::l.drop (i+1):=bS hlt;have hh:=yn l[i];cases ho:nJ l[i]with
  |true=>
   rw[ho]at hh;simp only[WX,YK,d1,hix,h75,hh,q8];exact⟨l.length-(i+1),by omega,(hI1 _ _).2 ⟨i+1,(G2 (X4 (X1 (G2 (br (X4 (X2 []))))))),rfl,by omega,rfl,by rw[hb,hd,List.all_cons,ho,Bool.true_and]⟩⟩
  |false=>
   rw[ho]at hh;rw[show l.all nJ=false by rw[hb,hd,List.all_cons,ho,Bool.false_and]];simp only[WX,YK,d1,hix,h75,hh]
 ·obtain rfl:i=l.length:=by omega
  have d1:decide ((l.length:Int)<(l.length:Int))=false:=af (by omega);rw[show l.all nJ=true by rw[hb,cj];rfl];simp only[WX,YK,d1]
def gJ(l:List (List UInt8)):List (List V):=l.map fun w=>[sV w]
theorem qL{F:RO}{M:Mem}{c:Nat}{v:V}{l:List (List UInt8)}(hs:cE F M c 1 v (gJ l))(i:Nat)(hi:i<l.length):
 ∃b o,b<c∧(∀k,eV 1 v (.i k (i:Int))=some (.p b o))∧load1 F M b o=some (sV l[i]):=
 cE.one hs i (by simpa [gJ]using hi) (by simp[gJ])
def J9:List (List UInt8):=[[62,62],[38,38],[124,124],[124],[60],[62],[59],[33]]
def yI(l:List UInt8):List UInt8:=(J9.find? fun x=>BD x l).getD []
theorem r55(Φ:Nat→Option CF)(h:Φ 55=some c55)(h73:Φ 73=some (.orc (aG h73))){F:RO}{M:Mem}{c:Nat}(ok:cR F M c)(l:List UInt8):
 Calls Φ F 55 [sV l] M c fun r _ _=>r=sV (yI l):=by
 refine aN h ?_
 simp only[WX,Nat.reduceAdd,B55]
 have hs:cE F (M.set c (cL [V.s 0 0] 9 [V.s 2 15934,V.s 2 9766,V.s 2 31868,V.s 1 124,V.s 1 60,V.s 1 62,V.s 1 59,V.s 1 33])) (c+1) 1 (.l c 0 8 8) (gJ J9):=II (d:=[V.s 0 0]) (ty:=9) ((am _ _ _).trans (by rfl)) (by omega) (by intro e he;obtain⟨x,_,rfl⟩:=List.mem_map.1 he;rfl) rfl
 generalize M.set c (cL [V.s 0 0] 9 [V.s 2 15934,V.s 2 9766,V.s 2 31868,V.s 1 124,V.s 1 60,V.s 1 62,V.s 1 59,V.s 1 33])=M1 at hs⊢
 have h8:((8:Nat):Int)=8:=rfl
 obtain⟨I1,hI1⟩:∃I:Nat→St→Prop,∀n s',I n s'↔(∃(i:Nat) (u:List (Option V)),n=8-i∧i≤8∧s'= .mk ((bO3 u (sV l) (.l c 0 8 8) (.i .i64 ((8:Nat):Int)) (.i .i64 (i:Int)))) [] M1 (c+1)∧yI l=((J9.drop i).find? fun x=>BD x l).getD []):=⟨fun n s'=>_,fun _ _=>Iff.rfl⟩
 refine bw I1 ?_ 8 _ ((hI1 _ _).2 ⟨0,(G1 (X4 (G2 (G1 (br (X4 (X2 (X1 [])))))))),rfl,aD _,rfl,rfl⟩)
 intro n s' hIs
 obtain⟨i,u,rfl,hi,rfl,hb⟩:=(hI1 _ _).1 hIs
 clear hIs
 have q8:cB .add (.i .i64 (i:Int)) (.i .i64 1)=some (.i .i64 ((i+1:Nat):Int)):=by rw[be _ _ (by omega) (by omega)];simp
 by_cases hlt:i<8
 ·have d1:decide ((i:Int)<((8:Nat):Int))=true:=ah (by omega);have hlt':i<J9.length:=hlt;obtain⟨bb,oo,_,hia,hld⟩:=qL hs i hlt';have hia:=hia .i64;have hd:J9.drop i=J9[i]::J9.drop (i+1):=bS hlt';have hh:=Su l J9[i];rw[hd,List.find?_cons]at hb;cases ho:BD J9[i] l with
  |true=>
   rw[ho]at hh hb;simp only[WX,B55,d1,hia,hld,h73,hh];rw[hb];rfl
  |false=>
   rw[ho]at hh hb;simp only[WX,B55,d1,hia,hld,h73,hh,q8];exact⟨8-(i+1),by omega,(hI1 _ _).2 ⟨i+1,(G1 (X4 (G2 (G1 (br (X4 (X2 (X1 [])))))))),rfl,by omega,rfl,hb⟩⟩
 ·obtain rfl:i=8:=by omega
  have d1:decide (((8:Nat):Int)<((8:Nat):Int))=false:=af (by omega);simp only[WX,B55,d1];rw[hb];rfl
def h55:List V→Option V
 |[v]=>(pW v).bind fun l=>some (sV (yI l))
 |_=>none
theorem Ss(l:List UInt8):h55 [sV l]=some (sV (yI l)):=by
 show(pW (sV l)).bind (fun l=>some (sV (yI l)))=_
 rw[kS,Option.bind_some]
def cS:List UInt8→List UInt8
 |[]=>[]
 |[a]=>if a=124∨a=60∨a=62∨a=59∨a=33 then[a]else[]
 |a::b::_=>if(a=62∧b=62)∨(a=38∧b=38)∨(a=124∧b=124)then[a,b]else if a=124∨a=60∨a=62∨a=59∨a=33 then[a]else[]
theorem aW9(x y a b:UInt8)(l:List UInt8):BD [x,y] (a::b::l)=(decide (a=x)&&decide (b=y)):=by
 unfold BD
 rw[←Bool.decide_and]
 congr 1
 simp
theorem bL9(x a:UInt8)(l:List UInt8):BD [x] (a::l)=decide (a=x):=by
 unfold BD
 congr 1
 simp
theorem aG2(x y a:UInt8):BD [x,y] [a]=false:=af (by simp)
theorem XF(x:UInt8)(p:List UInt8):BD (x::p) []=false:=af (by simp)
theorem TE:∀l:List UInt8,yI l=cS l
 |[]=>by unfold yI J9;simp only[List.find?,XF];rfl
 |[a]=>by
  unfold yI J9 cS;simp only[List.find?,aG2,bL9];by_cases e1:a=124
  ·subst e1;rfl
  ·by_cases e2:a=60
   ·subst e2;rfl
   ·by_cases e3:a=62
    ·subst e3;rfl
    ·by_cases e4:a=59
     ·subst e4;rfl
     ·by_cases e5:a=33
      ·subst e5;rfl
      ·simp[e1,e2,e3,e4,e5]
 |a::b::r=>by
  unfold yI J9 cS;simp only[List.find?,aW9,bL9];by_cases e1:a=124
  ·subst e1;by_cases f:b=124
   ·subst f;rfl
   ·simp[f]
  ·by_cases e3:a=62
   ·subst e3;by_cases f:b=62
    ·subst f;rfl
    ·simp[f]
   ·by_cases e6:a=38
    ·subst e6;by_cases f:b=38
     ·subst f;rfl
     ·simp[f]
    ·by_cases e2:a=60
     ·subst e2;rfl
     ·by_cases e4:a=59
      ·subst e4;rfl
      ·by_cases e5:a=33
       ·subst e5;rfl
       ·simp[e1,e2,e3,e4,e5,e6]
def sg1(n:Nat):Bool:=decide (n=124)||(decide (n=60)||(decide (n=62)||(decide (n=59)||decide (n=33))))
theorem Gb(a:UInt8):cS [a]=if a=124∨a=60∨a=62∨a=59∨a=33 then[a]else[]:=rfl
theorem pG(a b:UInt8)(r:List UInt8):cS (a::b::r)=if(a=62∧b=62)∨(a=38∧b=38)∨(a=124∧b=124)then[a,b]else if a=124∨a=60∨a=62∨a=59∨a=33 then[a]else[]:=rfl
theorem um{a b:UInt8}{r:List UInt8}(h:(decide ([a,b]=[62,62])||(decide ([a,b]=[38,38])||decide ([a,b]=[124,124])))=true):cS (a::b::r)=[a,b]:=by
 rw[pG,ac (by simpa using h)]
theorem Ga(a:UInt8):sg1 a.toNat=true↔a=124∨a=60∨a=62∨a=59∨a=33:=by
 have q:∀k:UInt8,(a.toNat=k.toNat)↔a=k:=fun k=>UInt8.toNat_inj
 have q1:=q 124;have q2:=q 60;have q3:=q 62;have q4:=q 59;have q5:=q 33
 simp only[UInt8.reduceToNat]at q1 q2 q3 q4 q5
 unfold sg1
 simp only[Bool.or_eq_true,decide_eq_true_eq,q1,q2,q3,q4,q5]
theorem AK{a:UInt8}{t:List UInt8}(h:t=[]∨ ∃b r,t=b::r∧(decide ([a,b]=[62,62])||(decide ([a,b]=[38,38])||decide ([a,b]=[124,124])))=false):cS (a::t)=if sg1 a.toNat=true then[a]else[]:=by
 have key:(if a=124∨a=60∨a=62∨a=59∨a=33 then[a]else[])=if sg1 a.toNat=true then[a]else[]:=by
  by_cases hs:sg1 a.toNat=true
  ·rw[ac hs,ac ((Ga a).1 hs)]
  ·rw[ab hs,ab (fun e=>hs ((Ga a).2 e))]
 rcases h with rfl|⟨b,r,rfl,h⟩
 ·rw[Gb,key]
 ·rw[pG,ab (by intro hh;rw[←Bool.not_eq_true]at h;exact h (by simpa using hh)),key]
theorem t44(Φ:Nat→Option CF)(h:Φ 44=some c44)(a:UInt8)(t:List UInt8)(ht:t.length≤1000000)(ct:Nat):To Φ 44 [sV (a::t)] ct (sV (cS (a::t))):=by
 refine eR h ?_
 have hix:nn (sV (a::t)) (.i .i64 0)=some (.i .u8 (a.toNat:Int)):=qj (a::t) .i64 0 (by simp)
 have s1:uq (sV (a::t)) none (some (.i .i64 1))=some (sV [a]):=TN (a::t) .i64 1 (by simp)
 have q:∀k:Nat,decide ((a.toNat:Int)=(k:Int))=decide (a.toNat=k):=fun k=>by congr 1;exact propext (by omega)
 have q1:=q 124;have q2:=q 60;have q3:=q 62;have q4:=q 59;have q5:=q 33
 simp only[Int.cast_ofNat_Int]at q1 q2 q3 q4 q5
 clear q
 have e1:V.s 2 15934=sV [62,62]:=rfl
 have e2:V.s 2 9766=sV [38,38]:=rfl
 have e3:V.s 2 31868=sV [124,124]:=rfl
 cases t with
 |nil=>
  obtain⟨n,hn⟩:∃n,n=([a]:List UInt8).length:=⟨_,rfl⟩
  have ln:=@aV3 [] [a];rw[←hn]at ln;have x0:decide ((2:Int)≤(n:Int))=false:=by rw[hn];rfl
  rw[AK (.inl rfl)];unfold sg1;generalize decide (a.toNat=124)=w1 at q1⊢;generalize decide (a.toNat=60)=w2 at q2⊢;generalize decide (a.toNat=62)=w3 at q3⊢;generalize decide (a.toNat=59)=w4 at q4⊢;generalize decide (a.toNat=33)=w5 at q5⊢;cases w1 with
  |true=>simp only[WX,BP,ln,x0,hix,s1,q1,Bool.true_or]
  |false=>
   cases w2 with
   |true=>simp only[WX,BP,ln,x0,hix,s1,q1,q2,Bool.true_or,Bool.or_true]
   |false=>
    cases w3 with
    |true=>simp only[WX,BP,ln,x0,hix,s1,q1,q2,q3,Bool.true_or,Bool.or_true]
    |false=>
     cases w4 with
     |true=>simp only[WX,BP,ln,x0,hix,s1,q1,q2,q3,q4,Bool.true_or,Bool.or_true]
     |false=>
      cases w5 with
      |true=>simp only[WX,BP,ln,x0,hix,s1,q1,q2,q3,q4,q5,Bool.or_true]
      |false=>
       simp only[WX,BP,ln,x0,hix,q1,q2,q3,q4,q5,Bool.or_false];rfl
 |cons b r=>
  obtain⟨n,hn⟩:∃n,n=(a::b::r).length:=⟨_,rfl⟩
  have ln:=@aV3 [] (a::b::r);rw[←hn]at ln;have x0:decide ((2:Int)≤(n:Int))=true:=ah (by rw[hn,aA,aA];omega);have s2:uq (sV (a::b::r)) none (some (.i .i64 2))=some (sV [a,b]):=TN (a::b::r) .i64 2 (by simp);have p1:=cM [a,b] [62,62];have p2:=cM [a,b] [38,38];have p3:=cM [a,b] [124,124];rw[←e1]at p1;rw[←e2]at p2;rw[←e3]at p3;cases y1:decide ([a,b]=[62,62])with
  |true=>
   rw[y1]at p1;rw[um (by rw[y1];rfl)];simp only[WX,BP,ln,x0,s2,p1]
  |false=>
   rw[y1]at p1;cases y2:decide ([a,b]=[38,38])with
   |true=>
    rw[y2]at p2;rw[um (by rw[y1,y2];rfl)];simp only[WX,BP,ln,x0,s2,p1,p2]
   |false=>
    rw[y2]at p2;cases y3:decide ([a,b]=[124,124])with
    |true=>
     rw[y3]at p3;rw[um (by rw[y1,y2,y3];rfl)];simp only[WX,BP,ln,x0,s2,p1,p2,p3]
    |false=>
     rw[y3]at p3;rw[AK (.inr ⟨b,r,rfl,by rw[y1,y2,y3];rfl⟩)];unfold sg1;generalize decide (a.toNat=124)=w1 at q1⊢;generalize decide (a.toNat=60)=w2 at q2⊢;generalize decide (a.toNat=62)=w3 at q3⊢;generalize decide (a.toNat=59)=w4 at q4⊢;generalize decide (a.toNat=33)=w5 at q5⊢;cases w1 with
     |true=>simp only[WX,BP,ln,x0,s2,p1,p2,p3,hix,s1,q1,Bool.true_or]
     |false=>
      cases w2 with
      |true=>simp only[WX,BP,ln,x0,s2,p1,p2,p3,hix,s1,q1,q2,Bool.true_or,Bool.or_true]
      |false=>
       cases w3 with
       |true=>simp only[WX,BP,ln,x0,s2,p1,p2,p3,hix,s1,q1,q2,q3,Bool.true_or,Bool.or_true]
       |false=>
        cases w4 with
        |true=>simp only[WX,BP,ln,x0,s2,p1,p2,p3,hix,s1,q1,q2,q3,q4,Bool.true_or,Bool.or_true]
        |false=>
         cases w5 with
         |true=>simp only[WX,BP,ln,x0,s2,p1,p2,p3,hix,s1,q1,q2,q3,q4,q5,Bool.or_true]
         |false=>
          simp only[WX,BP,ln,x0,s2,p1,p2,p3,hix,q1,q2,q3,q4,q5,Bool.or_false];rfl
abbrev bO4(u:List (Option V))(x2 x4 x5 x6 x7:V):T:=(.n (.n (.n (.n (.n (aq u 127 63 191 31 159 95 223) (uO u 15) (aq u 143 79 207 47 175 111 239)) (some x7) (.n (aq u 135 71 199 39 167 103 231) (uO u 23) (aq u 151 87 215 55 183 119 247))) (uO u 3) (.n (.n (aq u 131 67 195 35 163 99 227) (uO u 19) (aq u 147 83 211 51 179 115 243)) (uO u 11) (.n (aq u 139 75 203 43 171 107 235) (uO u 27) (aq u 155 91 219 59 187 123 251)))) (uO u 1) (.n (.n (.n (aq u 129 65 193 33 161 97 225) (uO u 17) (aq u 145 81 209 49 177 113 241)) (uO u 9) (.n (aq u 137 73 201 41 169 105 233) (uO u 25) (aq u 153 89 217 57 185 121 249))) (some x5) (.n (.n (aq u 133 69 197 37 165 101 229) (uO u 21) (aq u 149 85 213 53 181 117 245)) (uO u 13) (.n (aq u 141 77 205 45 173 109 237) (uO u 29) (aq u 157 93 221 61 189 125 253))))) (uO u 0) (.n (.n (.n (.n (aq u 128 64 192 32 160 96 224) (uO u 16) (aq u 144 80 208 48 176 112 240)) (uO u 8) (.n (aq u 136 72 200 40 168 104 232) (uO u 24) (aq u 152 88 216 56 184 120 248))) (some x4) (.n (.n (aq u 132 68 196 36 164 100 228) (uO u 20) (aq u 148 84 212 52 180 116 244)) (uO u 12) (.n (aq u 140 76 204 44 172 108 236) (uO u 28) (aq u 156 92 220 60 188 124 252)))) (some x2) (.n (.n (.n (aq u 130 66 194 34 162 98 226) (uO u 18) (aq u 146 82 210 50 178 114 242)) (uO u 10) (.n (aq u 138 74 202 42 170 106 234) (uO u 26) (aq u 154 90 218 58 186 122 250))) (some x6) (.n (.n (aq u 134 70 198 38 166 102 230) (uO u 22) (aq u 150 86 214 54 182 118 246)) (uO u 14) (.n (aq u 142 78 206 46 174 110 238) (uO u 30) (aq u 158 94 222 62 190 126 254))))))
abbrev bO5(u:List (Option V))(x2 x4 x5:V):T:=(.n (.n (.n (.n (.n (aq u 127 63 191 31 159 95 223) (uO u 15) (aq u 143 79 207 47 175 111 239)) (uO u 7) (.n (aq u 135 71 199 39 167 103 231) (uO u 23) (aq u 151 87 215 55 183 119 247))) (uO u 3) (.n (.n (aq u 131 67 195 35 163 99 227) (uO u 19) (aq u 147 83 211 51 179 115 243)) (uO u 11) (.n (aq u 139 75 203 43 171 107 235) (uO u 27) (aq u 155 91 219 59 187 123 251)))) (uO u 1) (.n (.n (.n (aq u 129 65 193 33 161 97 225) (uO u 17) (aq u 145 81 209 49 177 113 241)) (uO u 9) (.n (aq u 137 73 201 41 169 105 233) (uO u 25) (aq u 153 89 217 57 185 121 249))) (some x5) (.n (.n (aq u 133 69 197 37 165 101 229) (uO u 21) (aq u 149 85 213 53 181 117 245)) (uO u 13) (.n (aq u 141 77 205 45 173 109 237) (uO u 29) (aq u 157 93 221 61 189 125 253))))) (uO u 0) (.n (.n (.n (.n (aq u 128 64 192 32 160 96 224) (uO u 16) (aq u 144 80 208 48 176 112 240)) (uO u 8) (.n (aq u 136 72 200 40 168 104 232) (uO u 24) (aq u 152 88 216 56 184 120 248))) (some x4) (.n (.n (aq u 132 68 196 36 164 100 228) (uO u 20) (aq u 148 84 212 52 180 116 244)) (uO u 12) (.n (aq u 140 76 204 44 172 108 236) (uO u 28) (aq u 156 92 220 60 188 124 252)))) (some x2) (.n (.n (.n (aq u 130 66 194 34 162 98 226) (uO u 18) (aq u 146 82 210 50 178 114 242)) (uO u 10) (.n (aq u 138 74 202 42 170 106 234) (uO u 26) (aq u 154 90 218 58 186 122 250))) (uO u 6) (.n (.n (aq u 134 70 198 38 166 102 230) (uO u 22) (aq u 150 86 214 54 182 118 246)) (uO u 14) (.n (aq u 142 78 206 46 174 110 238) (uO u 30) (aq u 158 94 222 62 190 126 254))))))
abbrev Pc:=List UInt8×Bool
def Ar(p:Pc):List V:=[sV p.1,.b p.2]
def jy(w:List Pc):List (List V):=w.map Ar
def qn(t:List UInt8):Nat:=(t.takeWhile l8).length
theorem FW(x:UInt8)(t:List UInt8):qn (x::t)=if l8 x=true then qn t+1 else 0:=by
 unfold qn
 rw[List.takeWhile_cons]
 split<;>rfl
def mr:List UInt8→Option (Option (Nat×List UInt8×Bool))
 |[]=>none
 |c::t=>if c=32∨cS (c::t)≠[]∨c=38 then none
  else if c=39 then(if(t.drop (qn t)).head?=some 39 then some (some (qn t+1,t.take (qn t),false))else some none)
  else if c=36 then(if t.head?=some 63 then some (some (1,[],true))else some none)
  else if nJ c=true then some (some (0,[c],false))else some none
theorem Eg{r:List UInt8}{x:Option (Nat×List UInt8×Bool)}(h:mr r=some x):0<r.length:=by
 cases r with
 |nil=>cases h
 |cons c t=>simp
def nK(w:List Pc)(text:List UInt8)(sm:Bool):List Pc:=if text≠[]∨(sm=true∧w=[])then w++[(text,false)]else w
def ji(w:List Pc)(text:List UInt8):List Pc:=(if text≠[]then w++[(text,false)]else w)++[([],true)]
def BE:Nat→List UInt8→List Pc→List UInt8→Bool→Nat→Option (List Pc×Nat)
 |0,_,_,_,_,_=>none
 |f+1,r,w,text,sm,n=>match mr r with
  |none=>some (nK w text sm,n)
  |some none=>none
  |some (some (k,bs,true))=>BE f (r.drop (k+1)) (ji w text) [] false (n+(k+1))
  |some (some (k,bs,false))=>BE f (r.drop (k+1)) w (text++bs) true (n+(k+1))
theorem py:∀(f g:Nat) (r:List UInt8) (w:List Pc) (text:List UInt8) (sm:Bool) (n:Nat),r.length<f→r.length<g→BE f r w text sm n=BE g r w text sm n
 |0,_,_,_,_,_,_,h,_=>by omega
 |_,0,_,_,_,_,_,_,h=>by omega
 |f+1,g+1,r,w,text,sm,n,h1,h2=>by
  unfold BE;cases hs:mr r with
  |none=>rfl
  |some x=>
   have hr:=Eg hs
   match x with
   |none=>rfl
   |some (k,bs,true)=>exact py f g _ _ _ _ _ (by rw[bu];omega) (by rw[bu];omega)
   |some (k,bs,false)=>exact py f g _ _ _ _ _ (by rw[bu];omega) (by rw[bu];omega)
def mj(r:List UInt8)(w:List Pc)(text:List UInt8)(sm:Bool)(n:Nat):Option (List Pc×Nat):=BE (r.length+1) r w text sm n
theorem uh{r:List UInt8}{w:List Pc}{text:List UInt8}{sm:Bool}{n:Nat}(h:mr r=none):mj r w text sm n=some (nK w text sm,n):=by
 unfold mj BE;rw[h]
theorem kB{r:List UInt8}{w:List Pc}{text:List UInt8}{sm:Bool}{n:Nat}(h:mr r=some none):mj r w text sm n=none:=by
 unfold mj BE;rw[h]
theorem Az{r:List UInt8}{w:List Pc}{text bs:List UInt8}{sm:Bool}{n k:Nat}(h:mr r=some (some (k,bs,true))):mj r w text sm n=mj (r.drop (k+1)) (ji w text) [] false (n+(k+1)):=by
 have hr:=Eg h
 unfold mj
 rw[BE,h]
 exact py _ _ _ _ _ _ _ (by rw[bu];omega) (by omega)
theorem pz{r:List UInt8}{w:List Pc}{text bs:List UInt8}{sm:Bool}{n k:Nat}(h:mr r=some (some (k,bs,false))):mj r w text sm n=mj (r.drop (k+1)) w (text++bs) true (n+(k+1)):=by
 have hr:=Eg h
 unfold mj
 rw[BE,h]
 exact py _ _ _ _ _ _ _ (by rw[bu];omega) (by omega)
def al6:CC:=(.reg [(aa a2 (.al 36 [.l0])),(qq a3 (.mv (x6 0)))])
def bY4:=wu al6.eq_1
def al7:CC:=(.reg [(qq a5 (.mv (x6 0)))])
def bY5:=wu al7.eq_1
def al8:CC:=(.reg [(qq a6 (.mv (.c (.s 0 0)))),(qq a7 (.mv xF))])
def bY6:=wu al8.eq_1
def al9:CC:=(.reg [(qq dJ (.mv z5)),(qq ey (.mv z0)),(qq eU (.ln .str dE)),(qq eC (.bi .lss eK ei))])
def Bb:=wu al9.eq_1
def am0:CC:=(.reg [(qq dR (.mv z0)),(qq dA (.mv z5)),(qq eX (.ixS fG gf)),(qq a8 (.mv gM))])
def GA:=wu am0.eq_1
def am1:CC:=(.reg [(qq gC (.mv z8)),(qq fK (.bi .eql gS (.c (.i .u8 32)))),(qq i5 (.mv hU)),(aw gh (.mv z0) i5),(aw fE (.mv z5) i5),(aw j9 (.slS k7 (some ju) none) i5),(jJ gO (.call 44 [kL]) i5),(aw jn (.bi .neq k8 (.c (.s 0 0))) i5),(qq gP (.pk jz xT jA)),(qq ja (.mv kM)),(aw gQ (.mv z8) ja),(aw kQ (.bi .eql lB (.c (.i .u8 38))) ja),(qq gU (.pk lw xT mH))])
def GB:=wu am1.eq_1
def am2:CC:=(.seq am1 (.cond mI (.exit 0) .skip))
def GC:=wu am2.eq_1
def am3:CC:=(.reg [(qq lz (.mv z8)),(qq lE (.bi .eql oC (.c (.i .u8 39)))),(qq jC (.mv pQ))])
def bY7:=wu am3.eq_1
def am4:CC:=(.reg [(qq jx (.mv z5)),(qq iK (.bi .add pR (x6 1))),(qq a9 (.mv pM))])
def bY8:=wu am4.eq_1
def Ok:CC:=(.reg [(qq mK (.mv z9)),(qq ka (.mv z0)),(qq mL (.ln .str oF)),(qq lA (.bi .lss pS qS)),(qq nj (.mv qT)),(aE jb (.mv z0) nj),(aE kR (.mv z9) nj),(aE oK (.ixS pT rK) nj),(p5 lF (.call 69 [rL]) nj),(qq oL (.pk rJ qU xF))])
def bi8:=wu Ok.eq_1
def Ol:CC:=(.seq Ok (.cond rM .skip (.exit 3)))
def bi9:=wu Ol.eq_1
def Om:CC:=(.reg [(qq ll (.mv z9)),(qq oM (.bi .add sO (x6 1))),(qq a9 (.mv rN))])
def bj0:=wu Om.eq_1
def On:CC:=(.reg [(qq kb (.mv z9)),(qq lG (.mv z0)),(qq qZ (.ln .str uN)),(qq r0 (.bi .eql sq uZ)),(qq mM (.mv uP)),(aw sv (.mv z0) mM),(aw uS (.mv z9) mM),(aw pO (.ixS vD wW) mM),(aw sZ (.bi .neq za (.c (.i .u8 39))) mM),(qq vN (.pk v7 xT vE))])
def bj1:=wu On.eq_1
def Oo:CC:=(.reg [(qq vO (.bld [.l0] [])),(ez (.st 1 z2 Bg)),(qq a3 (.mv (x6 0)))])
def bj2:=wu Oo.eq_1
def Oq:CC:=(.cond BH (.seq Oo .ret) .skip)
def bj3:=wu Oq.eq_1
def Ot:CC:=(.reg [(qq sw (.mv z6)),(qq vP (.mv z0)),(qq sy (.mv z5)),(qq vQ (.bi .add BI (x6 1))),(qq nA (.mv z9)),(qq vR (.slS Bi (some Bj) (some zk))),(qq ve (.bi .add Bh BJ)),(qq a6 (.mv zb)),(qq a7 (.mv xT))])
def bj4:=wu Ot.eq_1
def Ou:CC:=(.reg [(qq oN (.mv z9)),(qq rS (.bi .add zl (x6 1))),(qq a5 (.mv vF))])
def bj5:=wu Ou.eq_1
def Ov:CC:=(.seq (.block 3 (.loop (.seq Ol (.block 4 Om)))) (.seq (.seq On Oq) (.seq Ot Ou)))
def bj6:=wu Ov.eq_1
def Ow:CC:=(.reg [(qq uT (.mv z8)),(qq uU (.bi .eql ze (.c (.i .u8 36)))),(qq vf (.mv zm))])
def bj7:=wu Ow.eq_1
def Ox:CC:=(.reg [(qq oD (.mv z5)),(qq uV (.bi .add zf (x6 1))),(qq fF (.mv z0)),(qq pP (.ln .str ss)),(qq vg (.bi .geq zn zo)),(qq r4 (.mv zq)),(aw vT (.mv z0) r4),(aw vU (.mv z5) r4),(aw vV (.bi .add Bn (x6 1)) r4),(aw uW (.ixS Bm Bo) r4),(aw xe (.bi .neq BK (.c (.i .u8 63))) r4),(qq oO (.pk zr xT BL))])
def bj8:=wu Ox.eq_1
def Oy:CC:=(.reg [(qq t0 (.bld [.l0] [])),(ez (.st 1 z2 BN)),(qq a3 (.mv (x6 0)))])
def bj9:=wu Oy.eq_1
def Oz:CC:=(.cond BM (.seq Oy .ret) .skip)
def bk0:=wu Oz.eq_1
def OA:CC:=(.reg [(qq zB (.mv z6)),(qq vW (.bi .neq BO (.c (.s 0 0))))])
def bk1:=wu OA.eq_1
def OB:CC:=(.reg [(qq Bv (.fa 0 z4)),(qq Bw (.ld1 GH)),(qq rT (.mv z6)),(qq Bx (.bld [(.s 0 0),(.b false)] [(0,1,EU)])),(aa BU (.bsl 64 1 2 [(.s 0 0),(.b false)] [(0,EV)])),(ee BV (.app 64 2 24 ET GI)),(qq BW (.fa 0 z4)),(ez (.st 1 GJ EW))])
def bk2:=wu OB.eq_1
def OC:CC:=(.seq OA (.cond ES OB .skip))
def bk3:=wu OC.eq_1
def OD:CC:=(.reg [(qq a6 (.mv (.c (.s 0 0)))),(qq a7 (.mv xF))])
def bk4:=wu OD.eq_1
def OE:CC:=(.reg [(qq BX (.fa 0 z4)),(qq BZ (.ld1 GK)),(qq Bz (.bld [(.s 0 0),(.b false)] [(1,1,xT)])),(aa xf (.bsl 64 1 2 [(.s 0 0),(.b false)] [(0,Ja)])),(ee H5 (.app 64 2 24 GL Jb)),(qq H6 (.fa 0 z4)),(ez (.st 1 Jd Jc))])
def bk5:=wu OE.eq_1
def OG:CC:=(.reg [(qq H7 (.mv z5)),(qq oJ (.bi .add Je (x6 2))),(qq a5 (.mv qR))])
def bk6:=wu OG.eq_1
def OH:CC:=(.seq (.seq Ox Oz) (.seq OC (.seq OD (.seq OE OG))))
def bk7:=wu OH.eq_1
def OI:CC:=(.reg [(qq sU (.mv z8)),(ee sW (.call 68 [vz])),(qq ie (.mv vA))])
def bk8:=wu OI.eq_1
def OJ:CC:=(.reg [(qq rQ (.mv z6)),(qq BS (.mv z0)),(qq v9 (.mv z5)),(qq GT (.mv z5)),(qq GU (.bi .add Vt (x6 1))),(qq GV (.slS IW (some IX) (some Vu))),(qq GW (.bi .add vC Vv)),(qq a6 (.mv Vw)),(qq a7 (.mv xT))])
def bk9:=wu OJ.eq_1
def OL:CC:=(.reg [(qq sX (.mv z5)),(qq H0 (.bi .add Vx (x6 1))),(qq a5 (.mv Vy))])
def bl0:=wu OL.eq_1
def OM:CC:=(.reg [(qq jv (.bld [.l0] [])),(ez (.st 1 z2 nv)),(qq a3 (.mv (x6 0)))])
def bl1:=wu OM.eq_1
def ON:CC:=(.cond yZ (.seq OJ OL) (.seq OM .ret))
def bl2:=wu ON.eq_1
def OO:CC:=(.cond zd OH (.seq OI ON))
def bl3:=wu OO.eq_1
def OP:CC:=(.cond ny (.seq am4 Ov) (.seq Ow OO))
def bl4:=wu OP.eq_1
def OQ:CC:=(.block 1 (.seq am0 (.seq am2 (.block 2 (.seq am3 OP)))))
def yS:=wu OQ.eq_1
def OR:CC:=(.seq (.seq al9 (.cond eb .skip (.exit 0))) OQ)
def uE:=wu OR.eq_1
def OS:CC:=(.reg [(qq H1 (.mv z6)),(qq H2 (.bi .neq Vz (.c (.s 0 0)))),(qq va (.mv IY)),(aw BT (.mv z7) va),(aw vd (.mv J0) va),(aE rR (.fa 0 z4) vd),(aE H3 (.ld1 VB) vd),(aE Jo (.ln .slice VD) vd),(aE Jp (.bi .eql YB (x6 0)) vd),(aw Jq (.pk VA YC xF) va),(qq Jr (.pk IZ xT YD))])
def EH:=wu OS.eq_1
def OT:CC:=(.reg [(qq Js (.fa 0 z4)),(qq Jt (.ld1 YF)),(qq sY (.mv z6)),(qq Ju (.bld [(.s 0 0),(.b false)] [(0,1,YH)])),(aa W7 (.bsl 64 1 2 [(.s 0 0),(.b false)] [(0,YI)])),(ee W8 (.app 64 2 24 YG bs6)),(qq W9 (.fa 0 z4)),(ez (.st 1 bs8 bs7))])
def bl5:=wu OT.eq_1
def CE:CC:=(.seq OS (.cond YE OT .skip))
def EI:=wu CE.eq_1
def xP:CC:=(.reg [(qq Wa (.ldn 1 z4)),(qq Wb (.mv z5)),(ez (.st 1 z2 bs9)),(qq a3 (.mv bt0))])
def bl6:=wu xP.eq_1
def OU:CC:=(.seq (.block 0 (.loop OR)) (.seq CE (.seq xP .ret)))
def bl7:=wu OU.eq_1
def OV:CC:=(.seq (.reg [(aa a4 (.al 36 [.l0]))]) (.seq al7 (.seq al8 OU)))
def bl8:=wu OV.eq_1
def c45:CF:= .mk 8 [.cn a2 1,.t a3] (.seq al6 OV)
theorem e45(v0:V):bz 8 [v0]=(.n sk7 (some v0) sk7):=rfl
def vH:=ai @e45 (ai @bY4 (ai @bY5 (ai @bY6 (ai @Bb (ai @GA (ai @GB (ai @GC (ai @bY7 (ai @bY8 (ai @bi8 (ai @bi9 (ai @bj0 (ai @bj1 (ai @bj2 (ai @bj3 (ai @bj4 (ai @bj5 (ai @bj6 (ai @bj7 (ai @bj8 (ai @bj9 (ai @bk0 (ai @bk1 (ai @bk2 (ai @bk3 (ai @bk4 (ai @bk5 (ai @bk6 (ai @bk7 (ai @bk8 (ai @bk9 (ai @bl0 (ai @bl1 (ai @bl2 (ai @bl3 (ai @bl4 (ai @yS (ai @uE (ai @EH (ai @bl5 (ai @EI (ai @bl6 (ai @bl7 (@bl8))))))))))))))))))))))))))))))))))))))))))))
def h44:List V→Option V
 |[v]=>(pW v).bind fun l=>match l with|[]=>none|a::t=>if t.length≤1000000 then some (sV (cS (a::t)))else none
 |_=>none
theorem Sr(a:UInt8)(t:List UInt8)(ht:t.length≤1000000):h44 [sV (a::t)]=some (sV (cS (a::t))):=by
 show(pW (sV (a::t))).bind (fun l=>match l with|[]=>none|a::t=>if t.length≤1000000 then some (sV (cS (a::t)))else none)=_
 rw[kS,Option.bind_some];exact ac ht
def W6(F:RO)(s:List UInt8)(c:Nat)(r:V)(M':Mem)(c':Nat):Prop:=(∃ps n v,mj s [] [] false 0=some (ps,n)∧n≤s.length∧r= .t [.g [v],.i .i64 (n:Int)]∧ ∃b,aX M' c c' b 64 2 v (jy ps))∨(mj s [] [] false 0=none∧r= .t [.g [.l0],.i .i64 0])
theorem XE(w:List Pc)(p:Pc):jy (w++[p])=jy w++[Ar p]:=by unfold jy;rw[List.map_append];rfl
theorem ep(w:List Pc):(jy w).length=w.length:=List.length_map ..
theorem F4{M:Mem}{c0 c b:Nat}{v:V}{w:List Pc}(h:aX M c0 c b 64 2 v (jy w)):pf v=some (.i .i64 (w.length:Int)):=by
 have:=(h.sl (F:=[])).len;rwa [ep]at this
theorem ej{M:Mem}{c0 c b:Nat}{v:V}{w:List Pc}(h:aX M c0 c b 64 2 v (jy w)):bC v=true∧flatten v=[v]∧aK [v]=true:=by
 rcases h with⟨_,⟨_,rfl⟩|⟨_,_,rfl,_⟩⟩<;>exact⟨rfl,rfl,rfl⟩
theorem iz{F:RO}{M1:Mem}{c0 c1 b1:Nat}{v:V}{w:List Pc}(p:Pc)(hA:aX M1 c0 c1 b1 64 2 v (jy w))(ok1:cR F M1 c1)(h0:c0≤c1)(hw:w.length≤1000000):
 lD (rU F (M1.set c1 (cL [V.s 0 0,V.b false] 64 [sV p.1,.b p.2])) (c1+1) 64 2 24 v (.l c1 0 1 1)) fun v' M' c'=>∃b',aX M' c0 c' b' 64 2 v' (jy (w++[p]))∧Gr c0 M1 c' M'∧c1+1≤c'∧(∀x,x<c1→x≠b1→M'.get x=M1.get x):=by
 have grY:Gr c0 M1 (c1+1) (M1.set c1 (cL [V.s 0 0,V.b false] 64 [sV p.1,.b p.2])):=⟨by omega,fun b hb=>ak _ _ (by omega),fun b hb=>by rw[ak _ _ (by omega)];exact ok1.hiM b (by omega)⟩
 have hy:cE F (M1.set c1 (cL [V.s 0 0,V.b false] 64 [sV p.1,.b p.2])) (c1+1) 2 (.l c1 0 1 1) (jy [p]):=II (d:=[V.s 0 0,V.b false]) (ty:=64) (by rw[am];rfl) (by omega) (fun e he=>by obtain⟨x,_,rfl⟩:=List.mem_map.1 he;rfl) rfl
 refine(fO (bytes:=24) (hA.up (show c1≤c1+1 by omega) (fun hx=>ak _ _ (by omega))) (c0:=c0) (M0:=M1) grY (by decide) hy rfl (eP (by rw[ep,ep];simp;omega) (by rw[ep,ep];simp;omega))).mono ?_
 rintro v' M' c' ⟨b',h1,h2,h3,h4,_⟩
 exact⟨b',by rw[XE];exact h1,h2,h3,fun x hx hb=>(h4 x (by omega) hb).trans (ak _ _ (by omega))⟩
theorem xn{M:Mem}{c0 c0' c b ty sz:Nat}{v:V}{es:List (List V)}(h:aX M c0 c b ty sz v es)(hx:c0'≤c0):aX M c0' c b ty sz v es:=by
 rcases h with⟨h0,h|⟨h1,h2,h3,h4⟩⟩
 ·exact⟨h0,.inl h⟩
 ·exact⟨h0,.inr ⟨by omega,h2,h3,h4⟩⟩
theorem fL{M:Mem}{c0 c1 b x ty sz:Nat}{y:bK}{v:V}{es:List (List V)}(h:aX M c0 c1 b ty sz v es)(hx:x<c0):aX (M.set x y) c0 c1 b ty sz v es:=by
 rcases h with⟨h0,h|⟨h1,h2,h3,h4⟩⟩
 ·exact⟨h0,.inl h⟩
 ·exact⟨h0,.inr ⟨h1,h2,h3,by rw[ak _ _ (by omega)];exact h4⟩⟩
theorem Fk(Φ:Nat→Option CF){F:RO}{M M1:Mem}{c c1 b1:Nat}(ok:cR F M c)(s:List UInt8)(i:Nat)(hi:i≤s.length)(v:V)(w:List Pc)(text:List UInt8)(sm:Bool)(hw:w.length≤1000000)(gr:Gr c M c1 M1)(hc:M1.get c=some (ae 36 [.l0]))(hc1:M1.get (c+1)=some (ae 36 [v]))(hlt:c+2≤c1)(hA:aX M1 (c+2) c1 b1 64 2 v (jy w))(hres:mj s [] [] false 0=some (nK w text sm,i))(u:List (Option V)):
 Wp CE (K Φ none 45 F) (.mk ((bO4 u (.p c 0) (.p (c+1) 0) (.i .i64 (i:Int)) (sV text) (.b sm))) [] M1 c1) (eg (xP.seq CC.ret) (K Φ none 45 F) (j6 F [.cn (.r .h) 1,.t (.l (.l .h))] fun r M' c'=>W6 F s c r M' c'∧Gr c M c' M')):=by
 have hF:∀w,flatten (sV w)=[sV w]:=fun _=>rfl
 have hO:∀w,bC (sV w)=true:=fun _=>rfl
 have hR:∀t,ew [V.s 0 0,V.b false] 0 [sV t]=some [sV t,V.b false]:=fun _=>rfl
 have hG:∀t,flatten (V.g [sV t,V.b false])=[sV t,V.b false]:=fun _=>rfl
 have hG1:∀v,flatten (V.g [v])=[v]:=fun _=>rfl
 have ok1:=gr.ok ok
 have l1:load1 F M1 (c+1) 0=some v:=au hc1 0
 have qn:=iL text []
 have e0:V.s 0 0=sV []:=rfl
 rw[←e0]at qn
 have e1:sV []=V.s 0 0:=rfl
 have FIN:∀(v':V) (M2:Mem) (c2 b2:Nat) (W:List Pc),nK w text sm=W→aX M2 (c+2) c2 b2 64 2 v' (jy W)→Gr (c+2) M1 c2 M2→c1≤c2→W6 F s c (V.t [V.g [v'],V.i IntKind.i64 (i:Int)]) ((M2.set (c+1) (ae 36 [v'])).set c (ae 36 [v'])) c2∧Gr c M c2 ((M2.set (c+1) (ae 36 [v'])).set c (ae 36 [v'])):=by
  intro v' M2 c2 b2 W hW hA2 gr2 hle;refine⟨.inl ⟨W,i,v',by rw[hres,hW],hi,rfl,b2,xn (fL (fL hA2 (by omega)) (by omega)) (by omega)⟩,?_⟩;exact⟨by omega,fun b hb=>by rw[ak _ _ (by omega),ak _ _ (by omega),gr2.old b (by omega),gr.old b hb],fun b hb=>by rw[ak _ _ (by omega),ak _ _ (by omega)];exact gr2.new b hb⟩
 have gr0:Gr (c+2) M1 c1 M1:=⟨hlt,fun _ _=>rfl,ok1.hiM⟩
 by_cases ht:text=[]
 ·subst ht;rw[ah rfl]at qn;rw[e1]at qn⊢
  have NOP:∀u:List (Option V),nK w [] sm=w→Wp xP (K Φ none 45 F) (.mk ((bO5 u (.p c 0) (.p (c+1) 0) (.i .i64 (i:Int)))) [] M1 c1) (eg .ret (K Φ none 45 F) (j6 F [.cn (.r .h) 1,.t (.l (.l .h))] fun r M' c'=>W6 F s c r M' c'∧Gr c M c' M')):=by
   intro u hW;obtain⟨w1,w2,w3⟩:=ej hA;have hld:=aP (F:=F) hc1 1 rfl;have hst2:=aC hc 0 [v] (by simp) w3;have hld2:=aP (F:=F) (am M1 c (ae 36 [v])) 1 rfl;have:=FIN v M1 c1 b1 w hW hA gr0 (aj _);rw[←cq hc1]at this;simp only[WX,vH,hld,hG1,hst2,hld2];exact this
  have hlv:=F4 hA;cases sm with
  |false=>
   simp only[WX,EH,EI,qn];exact NOP (X2 (G1 (X1 (G2 (bf (bf (bf (bA (br (X8 (X1 []))))))))))) (ab (by simp))
  |true=>
   by_cases hwn:w=[]
   ·have d1:decide ((w.length:Int)=0)=true:=ah (by rw[hwn];rfl);simp only[WX,Nat.reduceAdd,Nat.reduceLeDiff,vH,qn,l1,hlv,d1];refine az ((iz ([],false) hA ok1 hlt hw).mono ?_);rintro v' M2 c2 ⟨b2,hA2,gr2,hle2,hold⟩;have m2c1:=(gr2.old (c+1) (by omega)).trans hc1;have m2c:=(gr2.old c (by omega)).trans hc;obtain⟨w1,w2,w3⟩:=ej hA2;have hst1:=aC m2c1 0 [v'] (by simp) w3;have hld:=aP (F:=F) (am M2 (c+1) (ae 36 [v'])) 1 rfl;have hst2:=aC ((ak M2 (ae 36 [v']) (show c≠c+1 by omega)).trans m2c) 0 [v'] (by simp) w3;have hld2:=aP (F:=F) (am (M2.set (c+1) (ae 36 [v'])) c (ae 36 [v'])) 1 rfl;simp only[WX,vH,w2,hst1,hld,hG1,hst2,hld2];exact FIN v' M2 c2 b2 _ (ac (.inr ⟨rfl,hwn⟩)) hA2 gr2 (by omega)
   ·have d1:decide ((w.length:Int)=0)=false:=af (fun e=>hwn (List.length_eq_zero_iff.1 (by omega)));simp only[WX,EH,EI,qn,l1,hlv,d1];exact NOP (X2 (G1 (X1 (G2 (bf (bf (bf (bA (br (X8 (X1 []))))))))))) (ab (by simp[hwn]))
 ·rw[af ht]at qn;simp only[WX,Nat.reduceAdd,vH,qn,l1,hF,hO,hR,hG];refine az ((iz (text,false) hA ok1 hlt hw).mono ?_);rintro v' M2 c2 ⟨b2,hA2,gr2,hle2,hold⟩;have m2c1:=(gr2.old (c+1) (by omega)).trans hc1;have m2c:=(gr2.old c (by omega)).trans hc;obtain⟨w1,w2,w3⟩:=ej hA2;have hst1:=aC m2c1 0 [v'] (by simp) w3;have hld:=aP (F:=F) (am M2 (c+1) (ae 36 [v'])) 1 rfl;have hst2:=aC ((ak M2 (ae 36 [v']) (show c≠c+1 by omega)).trans m2c) 0 [v'] (by simp) w3;have hld2:=aP (F:=F) (am (M2.set (c+1) (ae 36 [v'])) c (ae 36 [v'])) 1 rfl;simp only[WX,vH,w2,hst1,hld,hG1,hst2,hld2];exact FIN v' M2 c2 b2 _ (ac (.inl ht)) hA2 gr2 (by omega)
abbrev bO6(u:List (Option V))(x0 x2 x4 x5 x6 x7:V):T:=(.n (.n (.n (.n (.n (aq u 127 63 191 31 159 95 223) (uO u 15) (aq u 143 79 207 47 175 111 239)) (some x7) (.n (aq u 135 71 199 39 167 103 231) (uO u 23) (aq u 151 87 215 55 183 119 247))) (uO u 3) (.n (.n (aq u 131 67 195 35 163 99 227) (uO u 19) (aq u 147 83 211 51 179 115 243)) (uO u 11) (.n (aq u 139 75 203 43 171 107 235) (uO u 27) (aq u 155 91 219 59 187 123 251)))) (uO u 1) (.n (.n (.n (aq u 129 65 193 33 161 97 225) (uO u 17) (aq u 145 81 209 49 177 113 241)) (uO u 9) (.n (aq u 137 73 201 41 169 105 233) (uO u 25) (aq u 153 89 217 57 185 121 249))) (some x5) (.n (.n (aq u 133 69 197 37 165 101 229) (uO u 21) (aq u 149 85 213 53 181 117 245)) (uO u 13) (.n (aq u 141 77 205 45 173 109 237) (uO u 29) (aq u 157 93 221 61 189 125 253))))) (some x0) (.n (.n (.n (.n (aq u 128 64 192 32 160 96 224) (uO u 16) (aq u 144 80 208 48 176 112 240)) (uO u 8) (.n (aq u 136 72 200 40 168 104 232) (uO u 24) (aq u 152 88 216 56 184 120 248))) (some x4) (.n (.n (aq u 132 68 196 36 164 100 228) (uO u 20) (aq u 148 84 212 52 180 116 244)) (uO u 12) (.n (aq u 140 76 204 44 172 108 236) (uO u 28) (aq u 156 92 220 60 188 124 252)))) (some x2) (.n (.n (.n (aq u 130 66 194 34 162 98 226) (uO u 18) (aq u 146 82 210 50 178 114 242)) (uO u 10) (.n (aq u 138 74 202 42 170 106 234) (uO u 26) (aq u 154 90 218 58 186 122 250))) (some x6) (.n (.n (aq u 134 70 198 38 166 102 230) (uO u 22) (aq u 150 86 214 54 182 118 246)) (uO u 14) (.n (aq u 142 78 206 46 174 110 238) (uO u 30) (aq u 158 94 222 62 190 126 254))))))
abbrev bO7(u:List (Option V))(x0 x2 x4 x5 x6 x7 x9:V):T:=(.n (.n (.n (.n (.n (aq u 127 63 191 31 159 95 223) (uO u 15) (aq u 143 79 207 47 175 111 239)) (some x7) (.n (aq u 135 71 199 39 167 103 231) (uO u 23) (aq u 151 87 215 55 183 119 247))) (uO u 3) (.n (.n (aq u 131 67 195 35 163 99 227) (uO u 19) (aq u 147 83 211 51 179 115 243)) (uO u 11) (.n (aq u 139 75 203 43 171 107 235) (uO u 27) (aq u 155 91 219 59 187 123 251)))) (uO u 1) (.n (.n (.n (aq u 129 65 193 33 161 97 225) (uO u 17) (aq u 145 81 209 49 177 113 241)) (some x9) (.n (aq u 137 73 201 41 169 105 233) (uO u 25) (aq u 153 89 217 57 185 121 249))) (some x5) (.n (.n (aq u 133 69 197 37 165 101 229) (uO u 21) (aq u 149 85 213 53 181 117 245)) (uO u 13) (.n (aq u 141 77 205 45 173 109 237) (uO u 29) (aq u 157 93 221 61 189 125 253))))) (some x0) (.n (.n (.n (.n (aq u 128 64 192 32 160 96 224) (uO u 16) (aq u 144 80 208 48 176 112 240)) (uO u 8) (.n (aq u 136 72 200 40 168 104 232) (uO u 24) (aq u 152 88 216 56 184 120 248))) (some x4) (.n (.n (aq u 132 68 196 36 164 100 228) (uO u 20) (aq u 148 84 212 52 180 116 244)) (uO u 12) (.n (aq u 140 76 204 44 172 108 236) (uO u 28) (aq u 156 92 220 60 188 124 252)))) (some x2) (.n (.n (.n (aq u 130 66 194 34 162 98 226) (uO u 18) (aq u 146 82 210 50 178 114 242)) (uO u 10) (.n (aq u 138 74 202 42 170 106 234) (uO u 26) (aq u 154 90 218 58 186 122 250))) (some x6) (.n (.n (aq u 134 70 198 38 166 102 230) (uO u 22) (aq u 150 86 214 54 182 118 246)) (uO u 14) (.n (aq u 142 78 206 46 174 110 238) (uO u 30) (aq u 158 94 222 62 190 126 254))))))
theorem Gi(c:UInt8)(t:List UInt8):mr (c::t)=if c=32∨cS (c::t)≠[]∨c=38 then none
 else if c=39 then(if(t.drop (qn t)).head?=some 39 then some (some (qn t+1,t.take (qn t),false))else some none)
 else if c=36 then(if t.head?=some 63 then some (some (1,[],true))else some none)
 else if nJ c=true then some (some (0,[c],false))else some none:=rfl
theorem TR{t:List UInt8}(h:¬((39:UInt8)=32∨cS (39::t)≠[]∨(39:UInt8)=38)):mr (39::t)=if(t.drop (qn t)).head?=some 39 then some (some (qn t+1,t.take (qn t),false))else some none:=by
 rw[Gi,ab h,ac rfl]
theorem yJ{t:List UInt8}(h:¬((36:UInt8)=32∨cS (36::t)≠[]∨(36:UInt8)=38)):mr (36::t)=if t.head?=some 63 then some (some (1,[],true))else some none:=by
 rw[Gi,ab h,ab (by decide),ac rfl]
theorem TW{x:UInt8}{t:List UInt8}(h:¬(x=32∨cS (x::t)≠[]∨x=38))(h1:x≠39)(h2:x≠36):mr (x::t)=if nJ x=true then some (some (0,[x],false))else some none:=by
 rw[Gi,ab h,ab h1,ab h2]
theorem TS{x:UInt8}{t:List UInt8}(h:x=32∨cS (x::t)≠[]∨x=38):mr (x::t)=none:=by
 rw[Gi,ac h]
theorem xp{M:Mem}{c0 c1 b x:Nat}{y:bK}{v:V}{es:List (List V)}(h:aX M c0 c1 b 64 2 v es)(hx:x<c0):aX (M.set x y) c0 c1 b 64 2 v es:=by
 rcases h with⟨h0,h|⟨h1,h2,h3,h4⟩⟩
 ·exact⟨h0,.inl h⟩
 ·exact⟨h0,.inr ⟨h1,h2,h3,by rw[ak _ _ (by omega)];exact h4⟩⟩
theorem r45(Φ:Nat→Option CF)(h:Φ 45=some c45)(h44:Φ 44=some (.orc (aG h44)))(h68:Φ 68=some (.orc (aG h75)))(h69:Φ 69=some (.orc (aG h78))){F:RO}{M:Mem}{c:Nat}(ok:cR F M c)(s:List UInt8)(hs:s.length≤400000):
 Calls Φ F 45 [sV s] M c fun r M' c'=>W6 F s c r M' c'∧Gr c M c' M':=by
 refine aN h ?_
 simp only[WX,Nat.reduceAdd,vH]
 have g0:Gr c M (c+2) ((M.set c (ae 36 [V.l0])).set (c+1) (ae 36 [V.l0])):=((Gr.refl ok).set c _ (aj _) (ay _) (aJ _)).set (c+1) _ (by omega) (by omega) (by omega)
 obtain⟨I1,hI1⟩:∃I:Nat→St→Prop,∀n s',I n s'↔(∃(i:Nat) (v:V) (M1:Mem) (c1 b1:Nat) (w:List Pc) (text:List UInt8) (sm:Bool) (u:List (Option V)),n=s.length-i∧i≤s.length∧s'= .mk ((bO6 u (sV s) (.p c 0) (.p (c+1) 0) (.i .i64 (i:Int)) (sV text) (.b sm))) [] M1 c1∧Gr c M c1 M1∧M1.get c=some (ae 36 [.l0])∧M1.get (c+1)=some (ae 36 [v])∧c+2≤c1∧aX M1 (c+2) c1 b1 64 2 v (jy w)∧w.length≤2*i∧text.length≤i∧mj s [] [] false 0=mj (s.drop i) w text sm i):=⟨fun n s'=>_,fun _ _=>Iff.rfl⟩
 refine bw I1 ?_ s.length _ ((hI1 _ _).2 ⟨0,.l0,_,_,0,[],[],false,(G1 (X1 (G1 (X1 (G4 (bf (bf (bf (bA (br (X4 (X2 (X1 []))))))))))))),rfl,aD _,rfl,g0,by rw[ak _ _ (by omega)];exact am _ _ _,am _ _ _,aj _,aX.nil,aD _,aj _,by rw[List.drop_zero]⟩)
 intro n s' hIs
 obtain⟨i,v,M1,c1,b1,w,text,sm,u,rfl,hi,rfl,gr1,hc,hc1,hlt2,hA,hw,htx,hpre⟩:=(hI1 _ _).1 hIs
 clear hIs g0
 have ok1:=gr1.ok ok
 have q8:∀k:Nat,k≤1000000→cB .add (.i .i64 (k:Int)) (.i .i64 1)=some (.i .i64 ((k+1:Nat):Int)):=fun k hk=>by rw[be _ _ (by omega) (by omega)];simp
 have qq8:=q8 i (by omega)
 by_cases hlt:i<s.length
 ·have d1:decide ((i:Int)<(s.length:Int))=true:=ah (by omega);have hix:nn (sV s) (.i .i64 (i:Int))=some (.i .u8 ((s[i]).toNat:Int)):=qj s .i64 i hlt;have hdr:s.drop i=s[i]::s.drop (i+1):=bS hlt;have hsl:uq (sV s) (some (.i .i64 (i:Int))) none=some (sV (s[i]::s.drop (i+1))):=by rw[←hdr];exact AN s .i64 i hi
  rw[hdr]at hpre;have htl:(s.drop (i+1)).length≤1000000:=by rw[bu];omega
  have hsg:=Sr s[i] (s.drop (i+1)) htl;have hxn:∀k:UInt8,decide (((s[i]).toNat:Int)=(k.toNat:Int))=decide (s[i]=k):=fun k=>by congr 1;exact propext ⟨fun e=>UInt8.toNat_inj.1 (by omega),fun e=>by rw[e]⟩
  have x32:=hxn 32;have x38:=hxn 38;have x39:=hxn 39;have x36:=hxn 36;simp only[UInt8.reduceToNat,Int.cast_ofNat_Int]at x32 x38 x39 x36;have qsg:=iL (cS (s[i]::s.drop (i+1))) [];have e0:V.s 0 0=sV []:=rfl;rw[←e0]at qsg;clear hxn;generalize hx:s[i]=x at *;generalize htt:s.drop (i+1)=t at *;by_cases hst:x=32∨cS (x::t)≠[]∨x=38
  ·have hres:=hpre.trans (uh (TS hst));by_cases h1:x=32
   ·rw[ah h1]at x32;simp only[WX,reduceCtorEq,Bb,GA,GB,GC,yS,uE,d1,hix,x32];exact Fk Φ ok s i hi v w text sm (by omega) gr1 hc hc1 hlt2 hA hres (X2 (G1 (X1 (G4 (bf (bf (bf (bA (br (X4 (X2 (X1 []))))))))))))
   ·rw[af h1]at x32;by_cases h2:cS (x::t)=[]
    ·rw[ah h2]at qsg
     have h3:x=38:=by rcases hst with h|h|h
                      ·exact absurd h h1
                      ·exact absurd h2 h
                      ·exact h
     rw[ah h3]at x38;simp only[WX,reduceCtorEq,Bb,GA,GB,GC,yS,uE,d1,hix,x32,hsl,h44,hsg,qsg,x38];exact Fk Φ ok s i hi v w text sm (by omega) gr1 hc hc1 hlt2 hA hres (X2 (G1 (X1 (G4 (bf (bf (bf (bA (br (X4 (X2 (X1 []))))))))))))
    ·rw[af h2]at qsg;simp only[WX,reduceCtorEq,Bb,GA,GB,GC,yS,uE,d1,hix,x32,hsl,h44,hsg,qsg];exact Fk Φ ok s i hi v w text sm (by omega) gr1 hc hc1 hlt2 hA hres (X2 (G1 (X1 (G4 (bf (bf (bf (bA (br (X4 (X2 (X1 []))))))))))))
  ·obtain⟨n32,n2,n38⟩:x≠32∧cS (x::t)=[]∧x≠38:=⟨fun e=>hst (.inl e),Classical.byContradiction fun e=>hst (.inr (.inl e)),fun e=>hst (.inr (.inr e))⟩
   rw[af n32]at x32;rw[af n38]at x38;rw[ah n2]at qsg;have hF:∀w,flatten (sV w)=[sV w]:=fun _=>rfl;have hO:∀w,bC (sV w)=true:=fun _=>rfl;have hR:∀t,ew [V.s 0 0,V.b false] 0 [sV t]=some [sV t,V.b false]:=fun _=>rfl;have hG:∀t,flatten (V.g [sV t,V.b false])=[sV t,V.b false]:=fun _=>rfl;have hG0:flatten (V.g [V.l0])=[V.l0]:=rfl;have stz:=aC hc 0 [V.l0] (by simp) rfl;have ldz:=aP (F:=F) (am M1 c (ae 36 [V.l0])) 1 rfl;have grB:=gr1.set c (ae 36 [.l0]) (aj _) (by omega) (aj _);by_cases h39:x=39
   ·subst h39;rw[ah rfl]at x39;have hs39:=TR hst;simp only[WX,vH,d1,hix,x32,hsl,h44,hsg,qsg,x38,x39,qq8];obtain⟨J,hJ⟩:∃J:Nat→St→Prop,∀n s',J n s'↔(∃(e:Nat) (u:List (Option V)),n=s.length-e∧i+1≤e∧e≤s.length∧s'= .mk ((bO7 u (sV s) (.p c 0) (.p (c+1) 0) (.i .i64 (i:Int)) (sV text) (.b sm) (.i .i64 (e:Int)))) [] M1 c1∧qn t=(e-(i+1))+qn (s.drop e)):=⟨fun n s'=>_,fun _ _=>Iff.rfl⟩
    refine bw J ?_ (s.length-(i+1)) _ ((hJ _ _).2 ⟨i+1,(G1 (X1 (G1 (X1 (G4 (X1 (G1 (bf (bf (bf (bA (br (X4 (X1 [])))))))))))))),rfl,aj _,hlt,rfl,by rw[htt];omega⟩);intro n s' hIs;obtain⟨e,u,rfl,hie,hel,rfl,hq⟩:=(hJ _ _).1 hIs;clear hIs;have dne:∀k,t.drop k=s.drop (i+1+k):=fun k=>by rw[←htt,List.drop_drop]
    by_cases he:e<s.length
    ·have d1e:decide ((e:Int)<(s.length:Int))=true:=ah (by omega);have hixe:nn (sV s) (.i .i64 (e:Int))=some (.i .u8 ((s[e]).toNat:Int)):=qj s .i64 e he;have hh:h78 [.i .u8 ((s[e]).toNat:Int)]=some (V.b (l8 s[e])):=Do s[e];have hqe:s.drop e=s[e]::s.drop (e+1):=bS he;rw[hqe,FW]at hq;have qe:=q8 e (by omega);cases ho:l8 s[e]with
     |true=>
      rw[ho]at hh;rw[ac ho]at hq;simp only[WX,vH,d1e,hixe,h69,hh,qe];exact⟨s.length-(e+1),by omega,(hJ _ _).2 ⟨e+1,(G1 (X1 (G1 (X1 (G4 (X1 (G1 (bf (bf (bf (bA (br (X4 (X1 [])))))))))))))),rfl,by omega,he,rfl,by omega⟩⟩
     |false=>
      rw[ho]at hh;rw[ab (by rw[ho];decide)]at hq;have hq2:t.drop (qn t)=s.drop e:=by rw[dne];congr 1;omega
      have d2e:decide ((e:Int)=(s.length:Int))=false:=af (by omega);by_cases h3:s[e]=39
      ·have d3:decide (((s[e]).toNat:Int)≠39)=false:=af (fun hh=>hh (by rw[h3];rfl));rw[ac (by rw[hq2,hqe,h3];rfl)]at hs39;have hsl2:=Gf s .i64 .i64 (i+1) e hie hel;have hX:(s.take e).drop (i+1)=t.take (qn t):=by rw[List.drop_take,htt];congr 1;omega
       have hXl:(t.take (qn t)).length≤e-(i+1):=by rw[List.length_take];omega
       rw[hX]at hsl2;have hcat:=fj text (t.take (qn t)) (by omega);simp only[WX,Nat.reduceEqDiff,reduceCtorEq,vH,d1e,hixe,h69,hh,d2e,d3,qq8,hsl2,hcat,qe];refine⟨s.length-(e+1),by omega,(hI1 _ _).2 ⟨e+1,v,M1,c1,b1,w,text++t.take (qn t),true,(G1 (X1 (G1 (X1 (G4 (bf (bf (bf (bA (br (X4 (X2 (X1 []))))))))))))),rfl,he,rfl,gr1,hc,hc1,hlt2,hA,by omega,by rw[aH];omega,?_⟩⟩;rw[hpre,pz hs39,List.drop_succ_cons,dne,show i+1+(qn t+1)=e+1 by omega,show i+(qn t+1+1)=e+1 by omega]
      ·have d3:decide (((s[e]).toNat:Int)≠39)=true:=ah (fun hh=>h3 (UInt8.toNat_inj.1 (by rw[show(39:UInt8).toNat=39 from rfl];omega)));rw[ab (by rw[hq2,hqe];intro hh;exact h3 (ag hh))]at hs39;simp only[WX,Nat.reduceEqDiff,reduceCtorEq,vH,d1e,hixe,h69,hh,d2e,d3,hG0,stz,ldz];exact⟨.inr ⟨hpre.trans (kB hs39),rfl⟩,grB⟩
    ·obtain rfl:e=s.length:=by omega
     have d1e:decide ((s.length:Int)<(s.length:Int))=false:=af (by omega);have hq2:t.drop (qn t)=[]:=by rw[dne];apply List.drop_eq_nil_of_le;rw[cj]at hq;have:qn ([]:List UInt8)=0:=rfl;omega
     rw[ab (by rw[hq2];intro hh;cases hh)]at hs39;simp only[WX,Nat.reduceEqDiff,reduceCtorEq,vH,d1e,eq_self,hG0,stz,ldz];exact⟨.inr ⟨hpre.trans (kB hs39),rfl⟩,grB⟩
   ·rw[af h39]at x39;by_cases h36:x=36
    ·subst h36;rw[ah rfl]at x36;have hs36:=yJ hst;have q2:cB .add (.i .i64 (i:Int)) (.i .i64 2)=some (.i .i64 ((i+2:Nat):Int)):=by rw[be _ _ (by omega) (by omega)];simp
     by_cases hl2:i+1<s.length
     ·have d2:decide ((s.length:Int)≤((i+1:Nat):Int))=false:=af (by omega);have hixy:nn (sV s) (.i .i64 ((i+1:Nat):Int))=some (.i .u8 ((s[i+1]).toNat:Int)):=qj s .i64 (i+1) hl2;have hty:t=s[i+1]::s.drop (i+2):=by rw[←htt];exact bS hl2
      by_cases h63:s[i+1]=63
      ·have d3:decide (((s[i+1]).toNat:Int)≠63)=false:=af (fun hh=>hh (by rw[h63];rfl));rw[ac (by rw[hty,h63];rfl)]at hs36;have hnext:mj s [] [] false 0=mj (s.drop (i+2)) (ji w text) [] false (i+2):=by
        rw[hpre,Az hs36,List.drop_succ_cons,←htt,List.drop_drop]
       have hFb:flatten (V.b true)=[V.b true]:=rfl;have hR1:ew [V.s 0 0,V.b false] 1 [V.b true]=some [V.s 0 0,V.b true]:=rfl;have hG2:flatten (V.g [V.s 0 0,V.b true])=[V.s 0 0,V.b true]:=rfl;have l1:load1 F M1 (c+1) 0=some v:=au hc1 0;have qtx:=iL text [];rw[←e0]at qtx;by_cases htn:text=[]
       ·rw[ah htn]at qtx;simp only[WX,Nat.reduceAdd,vH,d1,hix,x32,hsl,h44,hsg,qsg,x38,x39,x36,qq8,d2,hixy,d3,qtx,l1,hFb,hR1,hG2];refine az ((iz ([],true) hA ok1 hlt2 (by omega)).mono ?_);rintro v' M2 c2 ⟨b2,hA2,gr2,hle2,hold⟩;obtain⟨w1,w2,w3⟩:=ej hA2;have m2c1:=(gr2.old (c+1) (by omega)).trans hc1;have m2c:=(gr2.old c (by omega)).trans hc;have hst1:=aC m2c1 0 [v'] (by simp) w3;simp only[WX,vH,w2,hst1,q2];refine⟨s.length-(i+2),by omega,(hI1 _ _).2 ⟨i+2,v',M2.set (c+1) (ae 36 [v']),c2,b2,w++[([],true)],[],false,(G1 (X1 (G1 (X1 (G4 (bf (bf (bf (bA (br (X4 (X2 (X1 []))))))))))))),rfl,by omega,rfl,⟨by omega,fun b hb=>by rw[ak _ _ (by omega),gr2.old b (by omega),gr1.old b hb],fun b hb=>by rw[ak _ _ (by omega)];exact gr2.new b hb⟩,by rw[ak _ _ (by omega)];exact m2c,am _ _ _,by omega,xp hA2 (by omega),by simp;omega,by simp,?_⟩⟩;rw[hnext];unfold ji;rw[ab (fun hh=>hh htn)]
       ·rw[af htn]at qtx;simp only[WX,Nat.reduceAdd,vH,d1,hix,x32,hsl,h44,hsg,qsg,x38,x39,x36,qq8,d2,hixy,d3,qtx,l1,hF,hO,hR,hG];refine az ((iz (text,false) hA ok1 hlt2 (by omega)).mono ?_);rintro v' M2 c2 ⟨b2,hA2,gr2,hle2,hold⟩;obtain⟨w1,w2,w3⟩:=ej hA2;have m2c1:=(gr2.old (c+1) (by omega)).trans hc1;have m2c:=(gr2.old c (by omega)).trans hc;have hst1:=aC m2c1 0 [v'] (by simp) w3;have m3c1:=am M2 (c+1) (ae 36 [v']);have m3c:(M2.set (c+1) (ae 36 [v'])).get c=some (ae 36 [.l0]):=(ak _ _ (by omega)).trans m2c;have l3:load1 F (M2.set (c+1) (ae 36 [v'])) (c+1) 0=some v':=au m3c1 0;have hA3:=xp (y:=ae 36 [v']) hA2 (show c+1<c+2 by omega);have gr3:Gr c M c2 (M2.set (c+1) (ae 36 [v'])):=⟨by omega,fun b hb=>by rw[ak _ _ (by omega),gr2.old b (by omega),gr1.old b hb],fun b hb=>by rw[ak _ _ (by omega)];exact gr2.new b hb⟩
        have hover:ae 36 (over [v] 0 [v'])=ae 36 [v']:=rfl;rw[hover]at hst1;simp only[WX,Nat.reduceAdd,vH,w2,hst1,hFb,hR1,hG2];generalize M2.set (c+1) (ae 36 [v'])=M3 at m3c1 m3c l3 hA3 gr3⊢;refine az ((iz ([],true) hA3 (gr3.ok ok) (by omega) (by simp;omega)).mono ?_);rintro v4 M4 c4 ⟨b4,hA4,gr4,hle4,hold4⟩;obtain⟨y1,y2,y3⟩:=ej hA4;have m4c1:=(gr4.old (c+1) (by omega)).trans m3c1;have m4c:=(gr4.old c (by omega)).trans m3c;have hst4:=aC m4c1 0 [v4] (by simp) y3;simp only[WX,vH,y2,hst4,q2];refine⟨s.length-(i+2),by omega,(hI1 _ _).2 ⟨i+2,v4,M4.set (c+1) (ae 36 [v4]),c4,b4,w++[(text,false)]++[([],true)],[],false,(G1 (X1 (G1 (X1 (G4 (bf (bf (bf (bA (br (X4 (X2 (X1 []))))))))))))),rfl,by omega,rfl,⟨by omega,fun b hb=>by rw[ak _ _ (by omega),gr4.old b (by omega),gr3.old b hb],fun b hb=>by rw[ak _ _ (by omega)];exact gr4.new b hb⟩,by rw[ak _ _ (by omega)];exact m4c,am _ _ _,by omega,xp hA4 (by omega),by simp;omega,by simp,?_⟩⟩;rw[hnext];unfold ji;rw[ac htn]
      ·have d3:decide (((s[i+1]).toNat:Int)≠63)=true:=ah (fun hh=>h63 (UInt8.toNat_inj.1 (by rw[show(63:UInt8).toNat=63 from rfl];omega)));rw[ab (by rw[hty];intro hh;exact h63 (ag hh))]at hs36;simp only[WX,vH,d1,hix,x32,hsl,h44,hsg,qsg,x38,x39,x36,qq8,d2,hixy,d3,hG0,stz,ldz];exact⟨.inr ⟨hpre.trans (kB hs36),rfl⟩,grB⟩
     ·have d2:decide ((s.length:Int)≤((i+1:Nat):Int))=true:=ah (by omega);rw[ab (by rw[←htt,List.drop_eq_nil_of_le (by omega)];intro hh;cases hh)]at hs36;simp only[WX,vH,d1,hix,x32,hsl,h44,hsg,qsg,x38,x39,x36,qq8,d2,hG0,stz,ldz];exact⟨.inr ⟨hpre.trans (kB hs36),rfl⟩,grB⟩
    ·rw[af h36]at x36;have hsx:=TW hst h39 h36;have hh75:h75 [.i .u8 (x.toNat:Int)]=some (V.b (nJ x)):=yn x;cases ho:nJ x with
     |true=>
      rw[ho]at hh75;rw[ac ho]at hsx;have hsl2:=Gf s .i64 .i64 i (i+1) (by omega) hlt;rw[show(s.take (i+1)).drop i=[x] by rw[List.drop_take,hdr];simp]at hsl2;have hcat:=fj text [x] (by simp;omega);simp only[WX,vH,d1,hix,x32,hsl,h44,hsg,qsg,x38,x39,x36,h68,hh75,qq8,hsl2,hcat];refine⟨s.length-(i+1),by omega,(hI1 _ _).2 ⟨i+1,v,M1,c1,b1,w,text++[x],true,(G1 (X1 (G1 (X1 (G4 (bf (bf (bf (bA (br (X4 (X2 (X1 []))))))))))))),rfl,hlt,rfl,gr1,hc,hc1,hlt2,hA,by omega,by simp;omega,?_⟩⟩;rw[hpre,pz hsx,←htt];rfl
     |false=>
      rw[ho]at hh75;rw[ab (by rw[ho];decide)]at hsx;simp only[WX,vH,d1,hix,x32,hsl,h44,hsg,qsg,x38,x39,x36,h68,hh75,hG0,stz,ldz];exact⟨.inr ⟨hpre.trans (kB hsx),rfl⟩,grB⟩
 ·obtain rfl:i=s.length:=by omega
  have d1:decide ((s.length:Int)<(s.length:Int))=false:=af (by omega);have hres:=hpre.trans (uh (by rw[cj];rfl));simp only[WX,Bb,uE,d1];exact Fk Φ ok s s.length hi v w text sm (by omega) gr1 hc hc1 hlt2 hA hres (X2 (G1 (X1 (G4 (bf (bf (bf (bA (br (X4 (X2 (X1 []))))))))))))
def ax2:CC:=(.reg [(qq a5 (.ld1 z0)),(qq a6 (.ln .slice z5)),(qq a7 (.bi .gtr z6 (x6 0))),(qq a8 (.mv z7)),(aw a9 (.ld1 z1) a8),(aw dJ (.mv z9) a8),(aE ey (.ld1 z2) dJ),(aE eU (.ln .slice dE) dJ),(aE eC (.bi .eql ei (x6 0)) dJ),(aw dR (.pk eK eb xF) a8),(aw dA (.mv fG) a8),(aE eX (.ld1 z3) dA),(aE gC (.ld1 z4) dA),(aE fK (.ln .str gS) dA),(aE i5 (.bi .geq gM hU) dA),(aE gh (.mv jz) dA),(aw fE (.ld1 z4) gh),(aw j9 (.ld1 z3) gh),(aw gO (.ixS ju kL) gh),(aw jn (.bi .neq k8 (.c (.i .u8 36))) gh),(aE gP (.pk k7 xT jA) dA),(aw ja (.pk gf kM xF) a8),(qq gQ (.pk z8 xT lw))])
def ax3:CC:=(.reg [(qq kQ (.ld1 z2)),(qq gU (.ld1 z0)),(qq jv (.bs mI)),(qq jC (.bld [(.s 0 0),(.b false)] [(0,1,nv)])),(aa lz (.bsl 64 1 2 [(.s 0 0),(.b false)] [(0,ny)])),(ee lE (.app 64 2 24 mH oC)),(ez (.st 1 z2 pQ))])
def ax4:CC:=(.seq ax2 (.cond lB ax3 .skip))
def ax5:CC:=(.reg [(ez (.st 1 z0 (.c .l0))),(ez (.st 1 z1 xF))])
def Ww:CF:= .mk 6 [] (.seq ax4 ax5)
theorem e74(v0 v1 v2 v3 v4:V):bz 6 [v0,v1,v2,v3,v4]=(.n (.n (.n jt (some v3) jt) (some v1) nr) (some v0) (.n (.n jt (some v4) jt) (some v2) nr)):=rfl
def W3:=ai @e74 (ai (wu ax2.eq_1) (ai (wu ax3.eq_1) (ai (wu ax4.eq_1) (wu ax5.eq_1))))
def bE(l:List UInt8):List (List V):=l.map fun x=>[bV x]
theorem nT(l:List UInt8):(bE l).length=l.length:=List.length_map ..
def WS(M0:Mem)(b:Nat)(s:List UInt8)(M:Mem)(c1:Nat)(w:List Pc)(text:List UInt8)(sm:Bool)(i:Nat):Prop:=
 ∃(v tv:V) (p1 p2:Nat),Gr b M0 c1 M∧b+6≤c1∧M.get b=some (ae 9 [sV s])∧M.get (b+1)=some (ae 36 [.l0])∧M.get (b+2)=some (ae 34 [v])∧M.get (b+3)=some (ae 96 [tv])∧M.get (b+4)=some (ae 4 [.b sm])∧M.get (b+5)=some (ae 3 [.i .i64 (i:Int)])∧aX M (b+6) c1 p1 64 2 v (jy w)∧aX M (b+6) c1 p2 5 1 tv (bE text)
def Sp(w:List Pc)(text:List UInt8)(sm:Bool)(d:Bool):List Pc:=if text≠[]∨(sm=true∧w=[]∧d=false)then w++[(text,false)]else w
theorem C4{M:Mem}{c0 c1 p1 p2:Nat}{v tv:V}{w:List Pc}{text:List UInt8}(h1:aX M c0 c1 p1 64 2 v (jy w))(h2:aX M c0 c1 p2 5 1 tv (bE text)):tv= .l0∧text=[]∨v= .l0∧w=[]∨p1≠p2:=by
 rcases h2 with⟨_,⟨e2,rfl⟩|⟨_,_,_,g2⟩⟩
 ·exact .inl ⟨rfl,List.map_eq_nil_iff.1 e2⟩
 ·rcases h1 with⟨_,⟨e1,rfl⟩|⟨_,_,_,g1⟩⟩
  ·exact .inr (.inl ⟨rfl,List.map_eq_nil_iff.1 e1⟩)
  ·refine .inr (.inr fun e=>?_);subst e;rw[g1]at g2;injection g2 with g2
   injection g2 with g3
   cases g3
theorem cU{M:Mem}{c0 c1 b x ty sz:Nat}{y:bK}{v:V}{es:List (List V)}(h:aX M c0 c1 b ty sz v es)(hx:x<c0):aX (M.set x y) c0 c1 b ty sz v es:=by
 rcases h with⟨h0,h|⟨h1,h2,h3,h4⟩⟩
 ·exact⟨h0,.inl h⟩
 ·exact⟨h0,.inr ⟨h1,h2,h3,by rw[ak _ _ (by omega)];exact h4⟩⟩
theorem yW{M0 M3:Mem}{b c2 b2 i:Nat}{s:List UInt8}{W:List Pc}{v':V}(gr:Gr b M0 c2 M3)(h6:b+6≤c2)(m0:M3.get b=some (ae 9 [sV s]))(m1:M3.get (b+1)=some (ae 36 [.l0]))(m2:M3.get (b+2)=some (ae 34 [v']))(m5:M3.get (b+5)=some (ae 3 [.i .i64 (i:Int)]))(hA:aX M3 (b+6) c2 b2 64 2 v' (jy W)):
 WS M0 b s ((M3.set (b+3) (ae 96 [.l0])).set (b+4) (ae 4 [.b false])) c2 W [] false i:=
 ⟨v',.l0,b2,0,(gr.set (b+3) _ (by omega) (by omega) (aj _)).set (b+4) _ (by omega) (by omega) (aj _),h6,by rw[ak _ _ (by omega),ak _ _ (by omega)];exact m0,by rw[ak _ _ (by omega),ak _ _ (by omega)];exact m1,by rw[ak _ _ (by omega),ak _ _ (by omega)];exact m2,by rw[ak _ _ (by omega)];exact am _ _ _,am _ _ _,by rw[ak _ _ (by omega),ak _ _ (by omega)];exact m5,cU (cU hA (by omega)) (by omega),aX.nil⟩
theorem r74(Φ:Nat→Option CF)(h:Φ 74=some Ww){F:RO}{M0 M:Mem}{b c1 i:Nat}{s text:List UInt8}{w:List Pc}{sm:Bool}(ok0:cR F M0 b)(hi:i≤s.length)(hs:s.length≤400000)(hw:w.length≤1000000)(ht:text.length≤1000000)(hW:WS M0 b s M c1 w text sm i):
 Calls Φ F 74 [.p (b+3) 0,.p (b+4) 0,.p (b+2) 0,.p (b+5) 0,.p b 0] M c1 fun r M' c'=>WS M0 b s M' c' (Sp w text sm (decide (s[i]?=some 36))) [] false i∧c1≤c':=by
 refine aN h ?_
 obtain⟨v,tv,p1,p2,gr,h6,m0,m1,m2,m3,m4,m5,hA,hT⟩:=hW
 have ok1:=gr.ok ok0
 have l0:load1 F M b 0=some (sV s):=au m0 0
 have l2:load1 F M (b+2) 0=some v:=au m2 0
 have l3:load1 F M (b+3) 0=some tv:=au m3 0
 have l4:load1 F M (b+4) 0=some (.b sm):=au m4 0
 have l5:load1 F M (b+5) 0=some (.i .i64 (i:Int)):=au m5 0
 have hlt:pf tv=some (.i .i64 (text.length:Int)):=by have:=(hT.sl (F:=[])).len;rwa [nT]at this
 have hlv:=F4 hA
 have st3:=aC m3 0 [V.l0] (by simp) rfl
 have st4:=aC ((ak M (ae 96 [V.l0]) (show b+4≠b+3 by omega)).trans m4) 0 [V.b false] (by simp) rfl
 have NOP:∀W,W=w→WS M0 b s ((M.set (b+3) (ae 96 [V.l0])).set (b+4) (ae 4 [V.b false])) c1 W [] false i:=fun W e=>by rw[e];exact yW (b2:=p1) gr h6 m0 m1 m2 m5 hA
 by_cases htn:text=[]
 ·have d1:decide ((0:Int)<(text.length:Int))=false:=af (by rw[htn];simp);cases sm with
  |false=>
   simp only[WX,W3,l3,hlt,d1,l4,st3,st4];exact⟨NOP _ (ab (by simp[htn])),aj _⟩
  |true=>
   by_cases hwn:w=[]
   ·have d2:decide ((w.length:Int)=0)=true:=ah (by rw[hwn];rfl);have hbs:bsV F M tv=some (sV text):=aD5 hT.sl;have hF:∀w,flatten (sV w)=[sV w]:=fun _=>rfl;have hO:∀w,bC (sV w)=true:=fun _=>rfl;have hR:∀t,ew [V.s 0 0,V.b false] 0 [sV t]=some [sV t,V.b false]:=fun _=>rfl;have hG:∀t,flatten (V.g [sV t,V.b false])=[sV t,V.b false]:=fun _=>rfl;by_cases hil:i<s.length
    ·have d3:decide ((s.length:Int)≤(i:Int))=false:=af (by omega);have hix:nn (sV s) (.i .i64 (i:Int))=some (.i .u8 ((s[i]).toNat:Int)):=qj s .i64 i hil;have hg:s[i]?=some s[i]:=List.getElem?_eq_getElem hil;by_cases h36:s[i]=36
     ·have d4:decide (((s[i]).toNat:Int)≠36)=false:=af (fun hh=>hh (by rw[h36];rfl));simp only[WX,W3,l3,hlt,d1,l4,l2,hlv,d2,l5,l0,d3,hix,d4,st3,st4];exact⟨NOP _ (ab (by rw[hg,h36];simp[htn])),aj _⟩
     ·have d4:decide (((s[i]).toNat:Int)≠36)=true:=ah (fun hh=>h36 (UInt8.toNat_inj.1 (by rw[show(36:UInt8).toNat=36 from rfl];omega)));simp only[WX,Nat.reduceAdd,W3,l3,hlt,d1,l4,l2,hlv,d2,l5,l0,d3,hix,d4,hbs,hF,hO,hR,hG];refine az ((iz (text,false) hA ok1 h6 hw).mono ?_);rintro v' M2 c2 ⟨b2,hA2,gr2,hle2,hold⟩;obtain⟨w1,w2,w3⟩:=ej hA2;have n2:=(gr2.old (b+2) (by omega)).trans m2;have st2:=aC n2 0 [v'] (by simp) w3;have st3:=aC ((ak M2 (ae 34 [v']) (show b+3≠b+2 by omega)).trans ((gr2.old (b+3) (by omega)).trans m3)) 0 [V.l0] (by simp) rfl;have st4:=aC ((ak (M2.set (b+2) (ae 34 [v'])) (ae 96 [V.l0]) (show b+4≠b+3 by omega)).trans ((ak M2 (ae 34 [v']) (show b+4≠b+2 by omega)).trans ((gr2.old (b+4) (by omega)).trans m4))) 0 [V.b false] (by simp) rfl;simp only[WX,W3,w2,st2,st3,st4];refine⟨?_,by omega⟩;rw[show Sp w text true (decide (s[i]?=some 36))=w++[(text,false)]from ac (.inr ⟨rfl,hwn,by rw[hg];exact af (fun hh=>h36 (ag hh))⟩)];exact yW (b2:=b2) ⟨by omega,fun x hx=>by rw[ak _ _ (by omega),gr2.old x (by omega),gr.old x hx],fun x hx=>by rw[ak _ _ (by omega)];exact gr2.new x hx⟩ (by omega) (by rw[ak _ _ (by omega)];exact(gr2.old b (by omega)).trans m0) (by rw[ak _ _ (by omega)];exact(gr2.old (b+1) (by omega)).trans m1) (am _ _ _) (by rw[ak _ _ (by omega)];exact(gr2.old (b+5) (by omega)).trans m5) (cU hA2 (by omega))
    ·have d3:decide ((s.length:Int)≤(i:Int))=true:=ah (by omega);have hg:s[i]?=none:=List.getElem?_eq_none (by omega);simp only[WX,Nat.reduceAdd,W3,l3,hlt,d1,l4,l2,hlv,d2,l5,l0,d3,hbs,hF,hO,hR,hG];refine az ((iz (text,false) hA ok1 h6 hw).mono ?_);rintro v' M2 c2 ⟨b2,hA2,gr2,hle2,hold⟩;obtain⟨w1,w2,w3⟩:=ej hA2;have n2:=(gr2.old (b+2) (by omega)).trans m2;have st2:=aC n2 0 [v'] (by simp) w3;have st3:=aC ((ak M2 (ae 34 [v']) (show b+3≠b+2 by omega)).trans ((gr2.old (b+3) (by omega)).trans m3)) 0 [V.l0] (by simp) rfl;have st4:=aC ((ak (M2.set (b+2) (ae 34 [v'])) (ae 96 [V.l0]) (show b+4≠b+3 by omega)).trans ((ak M2 (ae 34 [v']) (show b+4≠b+2 by omega)).trans ((gr2.old (b+4) (by omega)).trans m4))) 0 [V.b false] (by simp) rfl;simp only[WX,W3,w2,st2,st3,st4];refine⟨?_,by omega⟩;rw[show Sp w text true (decide (s[i]?=some 36))=w++[(text,false)]from ac (.inr ⟨rfl,hwn,by rw[hg];rfl⟩)];exact yW (b2:=b2) ⟨by omega,fun x hx=>by rw[ak _ _ (by omega),gr2.old x (by omega),gr.old x hx],fun x hx=>by rw[ak _ _ (by omega)];exact gr2.new x hx⟩ (by omega) (by rw[ak _ _ (by omega)];exact(gr2.old b (by omega)).trans m0) (by rw[ak _ _ (by omega)];exact(gr2.old (b+1) (by omega)).trans m1) (am _ _ _) (by rw[ak _ _ (by omega)];exact(gr2.old (b+5) (by omega)).trans m5) (cU hA2 (by omega))
   ·have d2:decide ((w.length:Int)=0)=false:=af (fun e=>hwn (List.length_eq_zero_iff.1 (by omega)));simp only[WX,W3,l3,hlt,d1,l4,l2,hlv,d2,st3,st4];exact⟨NOP _ (ab (by simp[htn,hwn])),aj _⟩
 ·have d1:decide ((0:Int)<(text.length:Int))=true:=ah (by have:text.length≠0:=fun e=>htn (List.length_eq_zero_iff.1 e);omega);have hbs:bsV F M tv=some (sV text):=aD5 hT.sl;have hF:∀w,flatten (sV w)=[sV w]:=fun _=>rfl;have hO:∀w,bC (sV w)=true:=fun _=>rfl;have hR:∀t,ew [V.s 0 0,V.b false] 0 [sV t]=some [sV t,V.b false]:=fun _=>rfl;have hG:∀t,flatten (V.g [sV t,V.b false])=[sV t,V.b false]:=fun _=>rfl;simp only[WX,Nat.reduceAdd,W3,l3,hlt,d1,l2,hbs,hF,hO,hR,hG];refine az ((iz (text,false) hA ok1 h6 hw).mono ?_);rintro v' M2 c2 ⟨b2,hA2,gr2,hle2,hold⟩;obtain⟨w1,w2,w3⟩:=ej hA2;have n2:=(gr2.old (b+2) (by omega)).trans m2;have st2:=aC n2 0 [v'] (by simp) w3;have st3:=aC ((ak M2 (ae 34 [v']) (show b+3≠b+2 by omega)).trans ((gr2.old (b+3) (by omega)).trans m3)) 0 [V.l0] (by simp) rfl;have st4:=aC ((ak (M2.set (b+2) (ae 34 [v'])) (ae 96 [V.l0]) (show b+4≠b+3 by omega)).trans ((ak M2 (ae 34 [v']) (show b+4≠b+2 by omega)).trans ((gr2.old (b+4) (by omega)).trans m4))) 0 [V.b false] (by simp) rfl;simp only[WX,W3,w2,st2,st3,st4];refine⟨?_,by omega⟩;rw[show Sp w text sm (decide (s[i]?=some 36))=w++[(text,false)]from ac (.inl htn)];exact yW (b2:=b2) ⟨by omega,fun x hx=>by rw[ak _ _ (by omega),gr2.old x (by omega),gr.old x hx],fun x hx=>by rw[ak _ _ (by omega)];exact gr2.new x hx⟩ (by omega) (by rw[ak _ _ (by omega)];exact(gr2.old b (by omega)).trans m0) (by rw[ak _ _ (by omega)];exact(gr2.old (b+1) (by omega)).trans m1) (am _ _ _) (by rw[ak _ _ (by omega)];exact(gr2.old (b+5) (by omega)).trans m5) (cU hA2 (by omega))
abbrev jU(u:List (Option V))(x1 x2 x4 x5 x6 x7 x9:V):T:=(.n (.n (.n (.n (aq u 63 31 95 15 79 47 111) (some x7) (aq u 71 39 103 23 87 55 119)) (uO u 3) (.n (aq u 67 35 99 19 83 51 115) (uO u 11) (aq u 75 43 107 27 91 59 123))) (some x1) (.n (.n (aq u 65 33 97 17 81 49 113) (some x9) (aq u 73 41 105 25 89 57 121)) (some x5) (.n (aq u 69 37 101 21 85 53 117) (uO u 13) (aq u 77 45 109 29 93 61 125)))) (uO u 0) (.n (.n (.n (aq u 64 32 96 16 80 48 112) (uO u 8) (aq u 72 40 104 24 88 56 120)) (some x4) (.n (aq u 68 36 100 20 84 52 116) (uO u 12) (aq u 76 44 108 28 92 60 124))) (some x2) (.n (.n (aq u 66 34 98 18 82 50 114) (uO u 10) (aq u 74 42 106 26 90 58 122)) (some x6) (.n (aq u 70 38 102 22 86 54 118) (uO u 14) (aq u 78 46 110 30 94 62 126)))))
def ao0:CC:=(.reg [(aa a1 (.bx 9 1 z0)),(aa a2 (.al 36 [.l0])),(qq a3 (.mv (x6 0)))])
def bY9:=wu ao0.eq_1
def ao1:CC:=(.reg [(aa a6 (.al 4 [(.b false)])),(ez (.st 1 z6 xF))])
def aM4:=wu ao1.eq_1
def ao2:CC:=(.reg [(aa a7 (.al 3 [(.i .i64 0)])),(ez (.st 1 z7 (x6 0))),(qq a8 (.mv (x6 0)))])
def aM5:=wu ao2.eq_1
def ao3:CC:=(.reg [(qq dJ (.mkf 74 [] [z5,z6,z4,z7,z1])),(qq a9 (.mv eK))])
def aM6:=wu ao3.eq_1
def ao4:CC:=(.reg [(qq ey (.ld1 z7)),(qq eU (.ld1 z1)),(qq eC (.ln .str ei)),(qq dR (.bi .eql dE eb)),(qq dA (.mv fG)),(aw eX (.ld1 z1) dA),(aw gC (.ld1 z7) dA),(aw fK (.ixS gM gS) dA),(aw i5 (.bi .eql hU (.c (.i .u8 32))) dA),(qq gh (.pk gf xT jz)),(qq fE (.mv k7)),(aw j9 (.ld1 z1) fE),(aw gO (.ld1 z7) fE),(aw jn (.ixS kL k8) fE),(aw gP (.bi .eql jA (.c (.i .u8 38))) fE),(qq ja (.pk ju xT kM)),(qq gQ (.mv lw)),(aw kQ (.ld1 z1) gQ),(aw gU (.ld1 z7) gQ),(aw jv (.slS mH (some mI) none) gQ),(jJ jC (.call 55 [nv]) gQ),(aw lz (.bi .neq ny (.c (.s 0 0))) gQ),(qq lE (.pk lB xT oC))])
def bZ0:=wu ao4.eq_1
def PL:CC:=(.seq ao4 (.cond pQ (.goto 0) .skip))
def bZ1:=wu PL.eq_1
def ao5:CC:=(.reg [(qq mK (.ld1 z1)),(qq ka (.ld1 z7)),(qq mL (.ixS pS oF)),(qq lA (.bi .eql qS (.c (.i .u8 39)))),(qq iK (.mv qT))])
def bZ2:=wu ao5.eq_1
def ao6:CC:=(.reg [(qq jb (.ld1 z1)),(qq kR (.ld1 z7)),(qq oK (.slS pT (some rK) none)),(ee lF (.call 73 [rL,(.c (.s 2 16164))])),(qq nj (.mv qU))])
def bZ3:=wu ao6.eq_1
def ao7:CC:=(.reg [(qq oL (.mv z9)),(ee ll (.cv rM []))])
def bZ4:=wu ao7.eq_1
def OY:CC:=(.reg [(qq oM (.ld1 z4)),(qq kb (.bld [(.s 0 0),(.b false)] [(1,1,xT)])),(aa lG (.bsl 64 1 2 [(.s 0 0),(.b false)] [(0,sq)])),(ee qZ (.app 64 2 24 rN uN)),(ez (.st 1 z4 uZ))])
def bl9:=wu OY.eq_1
def OZ:CC:=(.reg [(qq r0 (.ld1 z7)),(qq mM (.bi .add uP (x6 2))),(ez (.st 1 z7 v7))])
def bm0:=wu OZ.eq_1
def P0:CC:=(.reg [(qq uS (.ld1 z1)),(qq pO (.ld1 z7)),(qq sZ (.ixS wW za)),(ee vN (.call 75 [vE])),(qq sv (.mv BH))])
def bm1:=wu P0.eq_1
def P3:CC:=(.dreg 8 [(0,0,(qq vO (.ld1 z5))),(1,0,(qq sw (.ld1 z1))),(2,0,(qq vP (.ld1 z7))),(3,6,(qq sy (.ixS Bh Bi))),(4,14,(aa vQ (.bsl 5 1 1 [(.i .u8 0)] [(0,BI)]))),(5,31,(ee nA (.app 5 1 1 Bg Bj))),(6,63,(ez (.st 1 z5 zk))),(7,127,(ez (.st 1 z6 xT)))])
def bm2:=wu P3.eq_1
def P4:CC:=(.reg [(qq vR (.ld1 z7)),(qq ve (.bi .add BJ (x6 1))),(ez (.st 1 z7 zb))])
def bm3:=wu P4.eq_1
def P5:CC:=(.reg [(qq jx (.bld [.l0] [])),(ez (.st 1 z2 pR)),(qq a3 (.mv (x6 0)))])
def bm4:=wu P5.eq_1
def P6:CC:=(.cond vD (.seq P3 P4) (.seq P5 .ret))
def bm5:=wu P6.eq_1
def P7:CC:=(.cond rJ (.seq ao7 (.seq OY OZ)) (.seq P0 P6))
def bm6:=wu P7.eq_1
def P8:CC:=(.cond pM (.goto 2) (.seq ao6 P7))
def bm7:=wu P8.eq_1
def P9:CC:=(.reg [(qq oN (.ld1 z1)),(qq rS (.ld1 z7)),(qq vf (.bi .add vF (x6 1))),(qq uT (.slS zl (some zd) none)),(ee uU (.call 76 [ze,(.c (.i .u8 39))])),(qq a8 (.mv zm))])
def bm8:=wu P9.eq_1
def Pa:CC:=(.reg [(qq oD (.mv z8)),(qq uV (.bi .lss zf (x6 0))),(qq fF (.mv zn)),(aw pP (.ld1 z1) fF),(aw vg (.ld1 z7) fF),(aw r4 (.bi .add zq (x6 1)) fF),(aw vT (.ld1 z7) fF),(aw vU (.bi .add Bm (x6 1)) fF),(aw vV (.mv z8) fF),(aw uW (.bi .add Bn Bo) fF),(aw xe (.slS zo (some zr) (some BK)) fF),(jJ oO (.call 77 [BL,(.c (.f 78 [] []))]) fF),(aw t0 (.un .not BM) fF),(qq zB (.pk ss xT BN))])
def bm9:=wu Pa.eq_1
def Pb:CC:=(.reg [(qq vW (.bld [.l0] [])),(ez (.st 1 z2 ES)),(qq a3 (.mv (x6 0)))])
def bn0:=wu Pb.eq_1
def Pd:CC:=(.cond BO (.seq Pb .ret) .skip)
def bn1:=wu Pd.eq_1
def Pe:CC:=(.dreg 12 [(0,0,(qq Bv (.ld1 z5))),(1,0,(qq Bw (.ld1 z1))),(2,0,(qq rT (.ld1 z7))),(3,4,(qq Bx (.bi .add EU (x6 1)))),(4,0,(qq BU (.ld1 z7))),(5,16,(qq BV (.bi .add GI (x6 1)))),(6,0,(qq BW (.mv z8))),(7,112,(qq BX (.bi .add EW GJ))),(8,254,(qq BZ (.slS ET (some EV) (some GK)))),(9,511,(ee Bz (.app 5 1 1 GH GL))),(10,1023,(ez (.st 1 z5 Ja))),(11,2047,(ez (.st 1 z6 xT)))])
def bn2:=wu Pe.eq_1
def Pf:CC:=(.reg [(qq xf (.ld1 z7)),(qq H5 (.mv z8)),(qq H6 (.bi .add Jc (x6 2))),(qq H7 (.bi .add Jb Jd)),(ez (.st 1 z7 Je))])
def bn3:=wu Pf.eq_1
def Pg:CC:=(.reg [(qq oJ (.mv z9)),(ee ie (.cv qR []))])
def bn4:=wu Pg.eq_1
def Ph:CC:=(.dreg 5 [(0,0,(qq sU (.ld1 z4))),(1,1,(qq sW (.bld [.l0] [(0,1,vz)]))),(2,0,(qq rQ (.ld1 z7))),(3,3,(ez (.st 1 z2 vA))),(4,15,(qq a3 (.mv vC)))])
def bn5:=wu Ph.eq_1
def Pi:CC:=(.seq (.goto 1) (.seq .skip (.seq Pg (.seq Ph .ret))))
def bn6:=wu Pi.eq_1
def Pj:CC:=(.seq (.seq Pa Pd) (.seq Pe (.seq Pf Pi)))
def bn7:=wu Pj.eq_1
def CG:CC:=(.seq (.block 0 (.seq ao5 P8)) (.seq (.goto 1) (.seq .skip (.seq P9 Pj))))
def bn8:=wu CG.eq_1
def Pk:CC:=(.seq ao1 (.seq ao2 (.seq ao3 (.seq .skip (.seq PL CG)))))
def V2:=wu Pk.eq_1
def Pl:CC:=(.seq (.reg [(aa a5 (.al 96 [.l0]))]) Pk)
def V3:=wu Pl.eq_1
def Pm:CC:=(.seq (.reg [(aa a4 (.al 34 [.l0]))]) Pl)
def V4:=wu Pm.eq_1
def Pn:CC:=(.reg [(qq ey (.ld1 z7)),(qq eU (.ld1 z1)),(qq eC (.ln .str ei)),(qq dR (.bi .eql dE eb)),(qq dA (.mv fG)),(aw eX (.ld1 z1) dA),(aw gC (.ld1 z7) dA),(aw fK (.ixS gM gS) dA),(aw i5 (.bi .eql hU (.c (.i .u8 32))) dA),(qq gh (.pk gf xT jz)),(qq fE (.mv k7)),(aw j9 (.ld1 z1) fE),(aw gO (.ld1 z7) fE),(aw jn (.ixS kL k8) fE),(aw gP (.bi .eql jA (.c (.i .u8 38))) fE),(qq ja (.pk ju xT kM)),(qq gQ (.mv lw)),(aw kQ (.ld1 z1) gQ),(aw gU (.ld1 z7) gQ),(aw jv (.slS mH (some mI) none) gQ),(jJ jC (.call 55 [nv]) gQ),(aw lz (.bi .neq ny (.c (.s 0 0))) gQ),(qq lE (.pk lB xT oC))])
def oA:=wu Pn.eq_1
def xQ:CC:=(.seq Pn (.cond pQ (.goto 0) .skip))
def oB:=wu xQ.eq_1
def Po:CC:=(.reg [(qq mK (.ld1 z1)),(qq ka (.ld1 z7)),(qq mL (.ixS pS oF)),(qq lA (.bi .eql qS (.c (.i .u8 39)))),(qq iK (.mv qT))])
def EJ:=wu Po.eq_1
def Pp:CC:=(.reg [(qq jb (.ld1 z1)),(qq kR (.ld1 z7)),(qq oK (.slS pT (some rK) none)),(ee lF (.call 73 [rL,(.c (.s 2 16164))])),(qq nj (.mv qU))])
def EK:=wu Pp.eq_1
def Pq:CC:=(.reg [(qq oL (.mv z9)),(ee ll (.cv rM []))])
def V5:=wu Pq.eq_1
def Ps:CC:=(.reg [(qq oM (.ld1 z4)),(qq kb (.bld [(.s 0 0),(.b false)] [(1,1,xT)])),(aa lG (.bsl 64 1 2 [(.s 0 0),(.b false)] [(0,sq)])),(ee qZ (.app 64 2 24 rN uN)),(ez (.st 1 z4 uZ))])
def V6:=wu Ps.eq_1
def Pt:CC:=(.reg [(qq r0 (.ld1 z7)),(qq mM (.bi .add uP (x6 2))),(ez (.st 1 z7 v7))])
def bn9:=wu Pt.eq_1
def Pu:CC:=(.reg [(qq uS (.ld1 z1)),(qq pO (.ld1 z7)),(qq sZ (.ixS wW za)),(ee vN (.call 75 [vE])),(qq sv (.mv BH))])
def V7:=wu Pu.eq_1
def CI:CC:=(.dreg 8 [(0,0,(qq vO (.ld1 z5))),(1,0,(qq sw (.ld1 z1))),(2,0,(qq vP (.ld1 z7))),(3,6,(qq sy (.ixS Bh Bi))),(4,14,(aa vQ (.bsl 5 1 1 [(.i .u8 0)] [(0,BI)]))),(5,31,(ee nA (.app 5 1 1 Bg Bj))),(6,63,(ez (.st 1 z5 zk))),(7,127,(ez (.st 1 z6 xT)))])
def bo0:=wu CI.eq_1
def Pv:CC:=(.reg [(qq vR (.ld1 z7)),(qq ve (.bi .add BJ (x6 1))),(ez (.st 1 z7 zb))])
def bo1:=wu Pv.eq_1
def Pw:CC:=(.reg [(qq jx (.bld [.l0] [])),(ez (.st 1 z2 pR)),(qq a3 (.mv (x6 0)))])
def bo2:=wu Pw.eq_1
def Px:CC:=(.cond vD (.seq CI Pv) (.seq Pw .ret))
def V8:=wu Px.eq_1
def Py:CC:=(.cond rJ (.seq Pq (.seq Ps Pt)) (.seq Pu Px))
def EL:=wu Py.eq_1
def Pz:CC:=(.cond pM (.goto 2) (.seq Pp Py))
def EM:=wu Pz.eq_1
def PA:CC:=(.reg [(qq oN (.ld1 z1)),(qq rS (.ld1 z7)),(qq vf (.bi .add vF (x6 1))),(qq uT (.slS zl (some zd) none)),(ee uU (.call 76 [ze,(.c (.i .u8 39))])),(qq a8 (.mv zm))])
def bo3:=wu PA.eq_1
def PB:CC:=(.reg [(qq oD (.mv z8)),(qq uV (.bi .lss zf (x6 0))),(qq fF (.mv zn)),(aw pP (.ld1 z1) fF),(aw vg (.ld1 z7) fF),(aw r4 (.bi .add zq (x6 1)) fF),(aw vT (.ld1 z7) fF),(aw vU (.bi .add Bm (x6 1)) fF),(aw vV (.mv z8) fF),(aw uW (.bi .add Bn Bo) fF),(aw xe (.slS zo (some zr) (some BK)) fF),(jJ oO (.call 77 [BL,(.c (.f 78 [] []))]) fF),(aw t0 (.un .not BM) fF),(qq zB (.pk ss xT BN))])
def bo4:=wu PB.eq_1
def PC:CC:=(.reg [(qq vW (.bld [.l0] [])),(ez (.st 1 z2 ES)),(qq a3 (.mv (x6 0)))])
def bo5:=wu PC.eq_1
def PD:CC:=(.cond BO (.seq PC .ret) .skip)
def bo6:=wu PD.eq_1
def PE:CC:=(.dreg 12 [(0,0,(qq Bv (.ld1 z5))),(1,0,(qq Bw (.ld1 z1))),(2,0,(qq rT (.ld1 z7))),(3,4,(qq Bx (.bi .add EU (x6 1)))),(4,0,(qq BU (.ld1 z7))),(5,16,(qq BV (.bi .add GI (x6 1)))),(6,0,(qq BW (.mv z8))),(7,112,(qq BX (.bi .add EW GJ))),(8,254,(qq BZ (.slS ET (some EV) (some GK)))),(9,511,(ee Bz (.app 5 1 1 GH GL))),(10,1023,(ez (.st 1 z5 Ja))),(11,2047,(ez (.st 1 z6 xT)))])
def bo7:=wu PE.eq_1
def PF:CC:=(.reg [(qq xf (.ld1 z7)),(qq H5 (.mv z8)),(qq H6 (.bi .add Jc (x6 2))),(qq H7 (.bi .add Jb Jd)),(ez (.st 1 z7 Je))])
def bo8:=wu PF.eq_1
def PG:CC:=(.reg [(qq oJ (.mv z9)),(ee ie (.cv qR []))])
def bo9:=wu PG.eq_1
def PH:CC:=(.dreg 5 [(0,0,(qq sU (.ld1 z4))),(1,1,(qq sW (.bld [.l0] [(0,1,vz)]))),(2,0,(qq rQ (.ld1 z7))),(3,3,(ez (.st 1 z2 vA))),(4,15,(qq a3 (.mv vC)))])
def bp0:=wu PH.eq_1
def PI:CC:=(.seq (.goto 1) (.seq .skip (.seq PG (.seq PH .ret))))
def bp1:=wu PI.eq_1
def PJ:CC:=(.seq (.seq PB PD) (.seq PE (.seq PF PI)))
def bp2:=wu PJ.eq_1
def xR:CC:=(.seq (.block 0 (.seq Po Pz)) (.seq (.goto 1) (.seq .skip (.seq PA PJ))))
def EN:=wu xR.eq_1
def CJ:CC:=(.reg [(qq oN (.ld1 z1)),(qq rS (.ld1 z7)),(qq vf (.bi .add vF (x6 1))),(qq uT (.slS zl (some zd) none)),(ee uU (.call 76 [ze,(.c (.i .u8 39))])),(qq a8 (.mv zm))])
def V9:=wu CJ.eq_1
def PK:CC:=(.reg [(qq oD (.mv z8)),(qq uV (.bi .lss zf (x6 0))),(qq fF (.mv zn)),(aw pP (.ld1 z1) fF),(aw vg (.ld1 z7) fF),(aw r4 (.bi .add zq (x6 1)) fF),(aw vT (.ld1 z7) fF),(aw vU (.bi .add Bm (x6 1)) fF),(aw vV (.mv z8) fF),(aw uW (.bi .add Bn Bo) fF),(aw xe (.slS zo (some zr) (some BK)) fF),(jJ oO (.call 77 [BL,(.c (.f 78 [] []))]) fF),(aw t0 (.un .not BM) fF),(qq zB (.pk ss xT BN))])
def Va:=wu PK.eq_1
def PM:CC:=(.reg [(qq vW (.bld [.l0] [])),(ez (.st 1 z2 ES)),(qq a3 (.mv (x6 0)))])
def bp3:=wu PM.eq_1
def PN:CC:=(.cond BO (.seq PM .ret) .skip)
def Vb:=wu PN.eq_1
def CK:CC:=(.dreg 12 [(0,0,(qq Bv (.ld1 z5))),(1,0,(qq Bw (.ld1 z1))),(2,0,(qq rT (.ld1 z7))),(3,4,(qq Bx (.bi .add EU (x6 1)))),(4,0,(qq BU (.ld1 z7))),(5,16,(qq BV (.bi .add GI (x6 1)))),(6,0,(qq BW (.mv z8))),(7,112,(qq BX (.bi .add EW GJ))),(8,254,(qq BZ (.slS ET (some EV) (some GK)))),(9,511,(ee Bz (.app 5 1 1 GH GL))),(10,1023,(ez (.st 1 z5 Ja))),(11,2047,(ez (.st 1 z6 xT)))])
def bp4:=wu CK.eq_1
def PP:CC:=(.reg [(qq xf (.ld1 z7)),(qq H5 (.mv z8)),(qq H6 (.bi .add Jc (x6 2))),(qq H7 (.bi .add Jb Jd)),(ez (.st 1 z7 Je))])
def bp5:=wu PP.eq_1
def PQ:CC:=(.reg [(qq oJ (.mv z9)),(ee ie (.cv qR []))])
def bp6:=wu PQ.eq_1
def PR:CC:=(.dreg 5 [(0,0,(qq sU (.ld1 z4))),(1,1,(qq sW (.bld [.l0] [(0,1,vz)]))),(2,0,(qq rQ (.ld1 z7))),(3,3,(ez (.st 1 z2 vA))),(4,15,(qq a3 (.mv vC)))])
def bp7:=wu PR.eq_1
def PS:CC:=(.seq (.goto 1) (.seq .skip (.seq PQ (.seq PR .ret))))
def bp8:=wu PS.eq_1
def CL:CC:=(.seq (.seq PK PN) (.seq CK (.seq PP PS)))
def Vc:=wu CL.eq_1
def CM:CC:=(.reg [(qq oJ (.mv z9)),(ee ie (.cv qR []))])
def Vd:=wu CM.eq_1
def xS:CC:=(.dreg 5 [(0,0,(qq sU (.ld1 z4))),(1,1,(qq sW (.bld [.l0] [(0,1,vz)]))),(2,0,(qq rQ (.ld1 z7))),(3,3,(ez (.st 1 z2 vA))),(4,15,(qq a3 (.mv vC)))])
def bp9:=wu xS.eq_1
def PT:CC:=(.tab 0 (.seq .skip (.seq CM (.seq xS .ret))) .skip)
def bq0:=wu PT.eq_1
def PU:CC:=(.tab 1 (.seq .skip (.seq xQ xR)) (.tab 2 (.seq .skip (.seq CJ CL)) PT))
def bq1:=wu PU.eq_1
def c56:CF:= .mk 7 [.cn a2 1,.t a3] (.seq ao0 (.scope Pm PU))
theorem e56(v0:V):bz 7 [v0]=(.n uY (some v0) uY):=rfl
def Jg:=ai @e56 (ai @bY9 (ai @aM4 (ai @aM5 (ai @aM6 (ai @bZ0 (ai @bZ1 (ai @bZ2 (ai @bZ3 (ai @bZ4 (ai @bl9 (ai @bm0 (ai @bm1 (ai @bm2 (ai @bm3 (ai @bm4 (ai @bm5 (ai @bm6 (ai @bm7 (ai @bm8 (ai @bm9 (ai @bn0 (ai @bn1 (ai @bn2 (ai @bn3 (ai @bn4 (ai @bn5 (ai @bn6 (ai @bn7 (ai @bn8 (ai @V2 (ai @V3 (ai @V4 (ai @oA (ai @oB (ai @EJ (ai @EK (ai @V5 (ai @V6 (ai @bn9 (ai @V7 (ai @bo0 (ai @bo1 (ai @bo2 (ai @V8 (ai @EL (ai @EM (ai @bo3 (ai @bo4 (ai @bo5 (ai @bo6 (ai @bo7 (ai @bo8 (ai @bo9 (ai @bp0 (ai @bp1 (ai @bp2 (ai @EN (ai @V9 (ai @Va (ai @bp3 (ai @Vb (ai @bp4 (ai @bp5 (ai @bp6 (ai @bp7 (ai @bp8 (ai @Vc (ai @Vd (ai @bp9 (ai @bq0 (@bq1)))))))))))))))))))))))))))))))))))))))))))))))))))))))))))))))))))))))
theorem d41(Φ:Nat→Option CF){F:RO}{M0 M:Mem}{b c1 i:Nat}{s text:List UInt8}{w:List Pc}{sm:Bool}(ok0:cR F M0 b)(hi:i<s.length)(hs:s.length≤400000)(hw:w.length≤1000000)(ht:text.length≤1000000)(hW:WS M0 b s M c1 w text sm i)(fv:V)(u:List (Option V))(Q:Ex→St→Prop)(hQ:∀(u:List (Option V)) M' c',WS M0 b s M' c' w (text++[s[i]]) true i→Q .nrm (.mk ((jU u (.p b 0) (.p (b+1) 0) (.p (b+2) 0) (.p (b+3) 0) (.p (b+4) 0) (.p (b+5) 0) fv)) [] M' c')):
 Wp CI (K Φ none 56 F) (.mk ((jU u (.p b 0) (.p (b+1) 0) (.p (b+2) 0) (.p (b+3) 0) (.p (b+4) 0) (.p (b+5) 0) fv)) [] M c1) Q:=by
 obtain⟨v,tv,p1,p0,gr,h6,m0,m1,m2,m3,m4,m5,hA,hT0⟩:=hW
 obtain⟨p2,hT,hne⟩:∃p,aX M (b+6) c1 p 5 1 tv (bE text)∧(p1≠p∨(v= .l0∧w=[])):=by
  rcases C4 hA hT0 with⟨rfl,rfl⟩|⟨rfl,rfl⟩|hn
  ·exact⟨p1+1,aX.nil,.inl (by omega)⟩
  ·exact⟨p0,hT0,.inr ⟨rfl,rfl⟩⟩
  ·exact⟨p0,hT0,.inl hn⟩
 have ok1:=gr.ok ok0
 have hfr:=ok1.free
 have l0:load1 F M b 0=some (sV s):=au m0 0
 have l2:load1 F M (b+2) 0=some v:=au m2 0
 have l3:load1 F M (b+3) 0=some tv:=au m3 0
 have l4:load1 F M (b+4) 0=some (.b sm):=au m4 0
 have l5:load1 F M (b+5) 0=some (.i .i64 (i:Int)):=au m5 0
 have hix:nn (sV s) (.i .i64 (i:Int))=some (.i .u8 ((s[i]).toNat:Int)):=qj s .i64 i hi
 have lk:(look F M (c1+4)).isNone=true:=by rw[ok1.look (by omega)];rfl
 have fb:∀x,flatten (bV x)=[bV x]:=fun _=>rfl
 have ob:∀x,bC (bV x)=true:=fun _=>rfl
 have rf:bY (c1+4) [(2,b+5),(1,b),(0,b+3)]=true:=by rw[bo _ _ _ _ (by omega),bo _ _ _ _ (by omega),bo _ _ _ _ (by omega),cK]
 simp only[WX,Nat.reducePow,Nat.reduceDiv,Nat.reduceMod,Nat.reduceBEq,Jg,l3,l0,l5,hix,lk,rf,uH,mh,rI]
 have grY:Gr (b+6) M (c1+8) (M.set (c1+4) (cL [V.i .u8 0] 5 [V.i .u8 ((s[i]).toNat:Int)])):=⟨by omega,fun x hx=>ak _ _ (by omega),fun x hx=>by rw[ak _ _ (by omega)];exact ok1.hiM x (by omega)⟩
 have hy:cE F (M.set (c1+4) (cL [V.i .u8 0] 5 [V.i .u8 ((s[i]).toNat:Int)])) (c1+8) 1 (.l (c1+4) 0 1 1) (bE [s[i]]):=II (d:=[V.i .u8 0]) (ty:=5) (by rw[am];rfl) (by omega) (fun e he=>by obtain⟨x,_,rfl⟩:=List.mem_map.1 he;rfl) rfl
 refine eH ((fO (bytes:=1) (hT.up (show c1≤c1+8 by omega) (fun hx=>ak _ _ (by omega))) grY Nat.one_pos hy rfl (eP (by rw[nT,nT,List.length_singleton];omega) (by rw[nT,nT,List.length_singleton];omega))).mono ?_)
 rintro v' M2 c2 ⟨b3,hA2,gr2,hle2,hold,_⟩
 have ok2:cR F M2 c2:=(show Gr b M0 c2 M2 from⟨by omega,fun x hx=>(gr2.old x (by omega)).trans (gr.old x hx),gr2.new⟩).ok ok0
 have w3:bC v'=true∧flatten v'=[v']∧aK [v']=true:=by
  rcases hA2 with⟨_,⟨_,rfl⟩|⟨_,_,rfl,_⟩⟩<;>exact⟨rfl,rfl,rfl⟩
 obtain⟨w1,w2,w3⟩:=w3
 have st3:=aC ((gr2.old (b+3) (by omega)).trans m3) 0 [v'] (by simp) w3
 have st4:=aC ((ak M2 (ae 96 [v']) (show b+4≠b+3 by omega)).trans ((gr2.old (b+4) (by omega)).trans m4)) 0 [V.b true] (by simp) rfl
 have f3:bT (M2.set (b+3) (ae 96 [v'])) F=true:=((show Gr b M0 c2 (M2.set (b+3) (ae 96 [v']))from⟨by omega,fun x hx=>by rw[ak _ _ (by omega)];exact(gr2.old x (by omega)).trans (gr.old x hx),fun x hx=>by rw[ak _ _ (by omega)];exact gr2.new x hx⟩).ok ok0).free
 have f4:bT ((M2.set (b+3) (ae 96 [v'])).set (b+4) (ae 4 [V.b true])) F=true:=((show Gr b M0 c2 ((M2.set (b+3) (ae 96 [v'])).set (b+4) (ae 4 [V.b true]))from⟨by omega,fun x hx=>by rw[ak _ _ (by omega),ak _ _ (by omega)];exact(gr2.old x (by omega)).trans (gr.old x hx),fun x hx=>by rw[ak _ _ (by omega),ak _ _ (by omega)];exact gr2.new x hx⟩).ok ok0).free
 refine⟨ok2.free,?_⟩
 have hA1:aX M2 (b+6) c2 p1 64 2 v (jy w):=by
  rcases hne with hne|⟨rfl,rfl⟩
  ·rcases hA with⟨h0,hh|⟨h1,h2,h3,h4⟩⟩
   ·exact⟨h0,.inl hh⟩
   ·exact⟨h0,.inr ⟨h1,by omega,h3,by rw[hold p1 (by omega) hne,ak _ _ (by omega)];exact h4⟩⟩
  ·exact aX.nil
 have fin:WS M0 b s ((M2.set (b+3) (ae 96 [v'])).set (b+4) (ae 4 [V.b true])) c2 w (text++[s[i]]) true i:=by
  refine⟨v,v',p1,b3,?_,by omega,?_,?_,?_,?_,am _ _ _,?_,cU (cU hA1 (by omega)) (by omega),cU (cU ?_ (by omega)) (by omega)⟩
  ·exact⟨by omega,fun x hx=>by rw[ak _ _ (by omega),ak _ _ (by omega)];exact(gr2.old x (by omega)).trans (gr.old x hx),fun x hx=>by rw[ak _ _ (by omega),ak _ _ (by omega)];exact gr2.new x hx⟩
  ·rw[ak _ _ (by omega),ak _ _ (by omega)];exact(gr2.old b (by omega)).trans m0
  ·rw[ak _ _ (by omega),ak _ _ (by omega)];exact(gr2.old (b+1) (by omega)).trans m1
  ·rw[ak _ _ (by omega),ak _ _ (by omega)];exact(gr2.old (b+2) (by omega)).trans m2
  ·rw[ak _ _ (by omega)];exact am _ _ _
  ·rw[ak _ _ (by omega),ak _ _ (by omega)];exact(gr2.old (b+5) (by omega)).trans m5
  ·have:bE (text++[s[i]])=bE text++bE [s[i]]:=by unfold bE;rw[List.map_append]
   rw[this];exact hA2
 simp only[WX,Nat.reducePow,Nat.reduceDiv,Nat.reduceMod,Nat.reduceBEq,j0,j0,w2,st3,st4,f3,f4]
 exact hQ (X1 (G2 (X1 (G4 (X1 (G1 (bf (bA (br (X4 (X1 []))))))))))) _ _ fin
def Ip(t:List UInt8):Option Nat:=if(t.drop (qn t)).head?=some 39 then some (qn t)else none
theorem Iq(x:UInt8)(t:List UInt8):Ip (x::t)=if l8 x=true then(Ip t).map (· +1)else if x=39 then some 0 else none:=by
 unfold Ip
 rw[FW]
 cases hq:l8 x with
 |true=>
  rw[ac rfl,ac rfl,List.drop_succ_cons];split<;>rfl
 |false=>
  rw[ab (show¬(false=true) by decide),ab (show¬(false=true) by decide),List.drop_zero];show(if some x=some 39 then some 0 else none)=_;by_cases h:x=39
  ·subst h;rfl
  ·rw[ab (fun e=>h (ag e)),ab h]
theorem bN6:l8 39=false:=by decide
theorem pq:∀(t:List UInt8) (i:Nat),Ip t=match vm 39 t i with|none=>none|some k=>if(t.take (k-i)).all l8=true then some (k-i)else none
 |[],i=>rfl
 |x::t,i=>by
  rw[Iq,vm];by_cases hx:x=39
  ·subst hx;rw[ac rfl,bN6];simp
  ·rw[ab hx,ab hx,pq t (i+1)];cases hf:vm 39 t (i+1)with
   |none=>simp
   |some k=>
    have hk:=(Dl hf).1;have e1:k-i=(k-(i+1))+1:=by omega
    dsimp only;rw[e1,List.take_succ_cons,List.all_cons];cases l8 x with
    |true=>
     rw[ac rfl,Bool.true_and];split<;>rfl
    |false=>
     rw[ab (by decide),Bool.false_and,ab (by decide)]
theorem TU{t:List UInt8}:mr (39::t)=match Ip t with|none=>some none|some k=>some (some (k+1,t.take k,false)):=by
 have h0:cS (39::t)=[]:=by
  cases t with
  |nil=>rfl
  |cons b r=>rw[pG];simp
 rw[TR (by rw[h0];simp)]
 unfold Ip
 split<;>rfl
theorem IJ{t:List UInt8}(h:vm 39 t 0=none):mr (39::t)=some none:=by
 rw[TU,pq t 0,h]
theorem TV{t:List UInt8}{k:Nat}(h:vm 39 t 0=some k)(ha:(t.take k).all l8=false):mr (39::t)=some none:=by
 rw[TU,pq t 0,h]
 dsimp only
 rw[Nat.sub_zero,ha]
 rfl
theorem Yf{t:List UInt8}{k:Nat}(h:vm 39 t 0=some k)(ha:(t.take k).all l8=true):mr (39::t)=some (some (k+1,t.take k,false)):=by
 rw[TU,pq t 0,h]
 dsimp only
 rw[Nat.sub_zero,ha]
 rfl
theorem Eh{t:List UInt8}:mr (36::t)≠none:=by
 have h0:cS (36::t)=[]:=by
  cases t with
  |nil=>rfl
  |cons b r=>rw[pG];simp
 rw[yJ (by rw[h0];simp)]
 split<;>simp
theorem Xe{w:List Pc}{text:List UInt8}{sm:Bool}{s:List UInt8}{i:Nat}(h:mr (s.drop i)=none):Sp w text sm (decide (s[i]?=some 36))=nK w text sm:=by
 have:decide (s[i]?=some 36)=false:=by
  apply af;intro e;obtain⟨hi,he⟩:=List.getElem?_eq_some_iff.1 e;rw[bS hi,he]at h;exact Eh h
 unfold Sp nK
 rw[this]
 simp
theorem Xf{w:List Pc}{text:List UInt8}{sm:Bool}{s:List UInt8}{i:Nat}(h:s[i]?=some 36):Sp w text sm (decide (s[i]?=some 36))++[([],true)]=ji w text:=by
 unfold Sp ji
 rw[ah h]
 simp
def h77:List V→Option V
 |[v,.f 78 [] []]=>(pW v).bind fun l=>if l.length≤1000000 then some (.b (l.all l8))else none
 |[v,.f 75 [] []]=>(pW v).bind fun l=>if l.length≤1000000 then some (.b (l.all nJ))else none
 |_=>none
theorem aU3(l:List UInt8)(hl:l.length≤1000000):h77 [sV l,.f 78 [] []]=some (.b (l.all l8)):=by
 show(pW (sV l)).bind (fun l=>if l.length≤1000000 then some (V.b (l.all l8))else none)=_
 rw[kS,Option.bind_some];exact ac hl
theorem bI6(l:List UInt8)(hl:l.length≤1000000):h77 [sV l,.f 75 [] []]=some (.b (l.all nJ)):=by
 show(pW (sV l)).bind (fun l=>if l.length≤1000000 then some (V.b (l.all nJ))else none)=_
 rw[kS,Option.bind_some];exact ac hl
abbrev aH2(u:List (Option V))(x1 x2 x4 x5 x6 x7 x8 x9:V):T:=(.n (.n (.n (.n (aq u 63 31 95 15 79 47 111) (some x7) (aq u 71 39 103 23 87 55 119)) (uO u 3) (.n (aq u 67 35 99 19 83 51 115) (uO u 11) (aq u 75 43 107 27 91 59 123))) (some x1) (.n (.n (aq u 65 33 97 17 81 49 113) (some x9) (aq u 73 41 105 25 89 57 121)) (some x5) (.n (aq u 69 37 101 21 85 53 117) (uO u 13) (aq u 77 45 109 29 93 61 125)))) (uO u 0) (.n (.n (.n (aq u 64 32 96 16 80 48 112) (some x8) (aq u 72 40 104 24 88 56 120)) (some x4) (.n (aq u 68 36 100 20 84 52 116) (uO u 12) (aq u 76 44 108 28 92 60 124))) (some x2) (.n (.n (aq u 66 34 98 18 82 50 114) (uO u 10) (aq u 74 42 106 26 90 58 122)) (some x6) (.n (aq u 70 38 102 22 86 54 118) (uO u 14) (aq u 78 46 110 30 94 62 126)))))
abbrev nM(u:List (Option V))(x2 x3:V):T:=(.n (.n (.n (.n (aq u 63 31 95 15 79 47 111) (uO u 7) (aq u 71 39 103 23 87 55 119)) (some x3) (.n (aq u 67 35 99 19 83 51 115) (uO u 11) (aq u 75 43 107 27 91 59 123))) (uO u 1) (.n (.n (aq u 65 33 97 17 81 49 113) (uO u 9) (aq u 73 41 105 25 89 57 121)) (uO u 5) (.n (aq u 69 37 101 21 85 53 117) (uO u 13) (aq u 77 45 109 29 93 61 125)))) (uO u 0) (.n (.n (.n (aq u 64 32 96 16 80 48 112) (uO u 8) (aq u 72 40 104 24 88 56 120)) (uO u 4) (.n (aq u 68 36 100 20 84 52 116) (uO u 12) (aq u 76 44 108 28 92 60 124))) (some x2) (.n (.n (aq u 66 34 98 18 82 50 114) (uO u 10) (aq u 74 42 106 26 90 58 122)) (uO u 6) (.n (aq u 70 38 102 22 86 54 118) (uO u 14) (aq u 78 46 110 30 94 62 126)))))
theorem Dc{F:RO}(zero:List V)(ps:List (Nat×Nat×X))(M:Mem)(t:T):lq (.bld zero ps) F M t=oV ((rk zero (evP t ps)).map .g):=by
 refine(fw ?_).trans (congrArg oV (aI9 (F:=F) zero ps M t))
 intro F' M'
 refine jQ ?_
 show(qg (fillParts t zero ps)= .f∨ ∃y,qg (fillParts t zero ps)= .v y)
 cases fillParts t zero ps with
 |none=>exact .inl rfl
 |some x=>exact .inr ⟨_,rfl⟩
theorem d62(Φ:Nat→Option CF){F:RO}{M0 M:Mem}{b c1 i k:Nat}{s text:List UInt8}{w:List Pc}{sm:Bool}(ok0:cR F M0 b)(hi:i+1+k≤s.length)(hs:s.length≤400000)(hw:w.length≤1000000)(ht:text.length≤1000000)(hW:WS M0 b s M c1 w text sm i)(fv:V)(u:List (Option V))(Q:Ex→St→Prop)(hQ:∀(u:List (Option V)) M' c',WS M0 b s M' c' w (text++(s.drop (i+1)).take k) true i→Q .nrm (.mk ((aH2 u (.p b 0) (.p (b+1) 0) (.p (b+2) 0) (.p (b+3) 0) (.p (b+4) 0) (.p (b+5) 0) (.i .i64 (k:Int)) fv)) [] M' c')):
 Wp CK (K Φ none 56 F) (.mk ((aH2 u (.p b 0) (.p (b+1) 0) (.p (b+2) 0) (.p (b+3) 0) (.p (b+4) 0) (.p (b+5) 0) (.i .i64 (k:Int)) fv)) [] M c1) Q:=by
 obtain⟨v,tv,p1,p0,gr,h6,m0,m1,m2,m3,m4,m5,hA,hT0⟩:=hW
 obtain⟨p2,hT,hne⟩:∃p,aX M (b+6) c1 p 5 1 tv (bE text)∧(p1≠p∨(v= .l0∧w=[])):=by
  rcases C4 hA hT0 with⟨rfl,rfl⟩|⟨rfl,rfl⟩|hn
  ·exact⟨p1+1,aX.nil,.inl (by omega)⟩
  ·exact⟨p0,hT0,.inr ⟨rfl,rfl⟩⟩
  ·exact⟨p0,hT0,.inl hn⟩
 have ok1:=gr.ok ok0
 have hfr:=ok1.free
 have l0:load1 F M b 0=some (sV s):=au m0 0
 have l3:load1 F M (b+3) 0=some tv:=au m3 0
 have l5:load1 F M (b+5) 0=some (.i .i64 (i:Int)):=au m5 0
 have q1:cB .add (.i .i64 (i:Int)) (.i .i64 1)=some (.i .i64 ((i+1:Nat):Int)):=by rw[be _ _ (by omega) (by omega)];simp
 obtain⟨j,hj⟩:∃j,j=i+1+k:=⟨_,rfl⟩
 have q2:cB .add (.i .i64 ((i+1:Nat):Int)) (.i .i64 (k:Int))=some (.i .i64 (j:Int)):=by rw[be _ _ (by omega) (by omega),hj];simp
 have hsl:=Gf s .i64 .i64 (i+1) j (by omega) (by omega)
 have hX:(s.take j).drop (i+1)=(s.drop (i+1)).take k:=by rw[List.drop_take];congr 1;omega
 rw[hX]at hsl
 have hXl:((s.drop (i+1)).take k).length≤400000:=by rw[List.length_take];omega
 generalize(s.drop (i+1)).take k=X at hsl hXl hQ
 simp only[WX,Nat.reducePow,Nat.reduceDiv,Nat.reduceMod,Nat.reduceBEq,j0,Jg,l3,l0,l5,q1,q2,aT0,hsl,j0]
 refine eH ((JB (l:=X) (bytes:=1) (hT.up (show c1≤c1+12 by omega) (fun _=>rfl)) (show Gr (b+6) M (c1+12) M from⟨by omega,fun _ _=>rfl,fun x hx=>ok1.hiM x (by omega)⟩) (eP (by rw[nT];omega) (by rw[nT];omega))).mono ?_)
 rintro v' M2 c2 ⟨b3,hA2,gr2,hle2,hold,_⟩
 have ok2:cR F M2 c2:=(show Gr b M0 c2 M2 from⟨by omega,fun x hx=>(gr2.old x (by omega)).trans (gr.old x hx),gr2.new⟩).ok ok0
 have w3:bC v'=true∧flatten v'=[v']∧aK [v']=true:=by
  rcases hA2 with⟨_,⟨_,rfl⟩|⟨_,_,rfl,_⟩⟩<;>exact⟨rfl,rfl,rfl⟩
 obtain⟨w1,w2,w3⟩:=w3
 have st3:=aC ((gr2.old (b+3) (by omega)).trans m3) 0 [v'] (by simp) w3
 have st4:=aC ((ak M2 (ae 96 [v']) (show b+4≠b+3 by omega)).trans ((gr2.old (b+4) (by omega)).trans m4)) 0 [V.b true] (by simp) rfl
 have f3:bT (M2.set (b+3) (ae 96 [v'])) F=true:=((show Gr b M0 c2 (M2.set (b+3) (ae 96 [v']))from⟨by omega,fun x hx=>by rw[ak _ _ (by omega)];exact(gr2.old x (by omega)).trans (gr.old x hx),fun x hx=>by rw[ak _ _ (by omega)];exact gr2.new x hx⟩).ok ok0).free
 have f4:bT ((M2.set (b+3) (ae 96 [v'])).set (b+4) (ae 4 [V.b true])) F=true:=((show Gr b M0 c2 ((M2.set (b+3) (ae 96 [v'])).set (b+4) (ae 4 [V.b true]))from⟨by omega,fun x hx=>by rw[ak _ _ (by omega),ak _ _ (by omega)];exact(gr2.old x (by omega)).trans (gr.old x hx),fun x hx=>by rw[ak _ _ (by omega),ak _ _ (by omega)];exact gr2.new x hx⟩).ok ok0).free
 refine⟨ok2.free,?_⟩
 have hA1:aX M2 (b+6) c2 p1 64 2 v (jy w):=by
  rcases hne with hne|⟨rfl,rfl⟩
  ·rcases hA with⟨h0,hh|⟨h1,h2,h3,h4⟩⟩
   ·exact⟨h0,.inl hh⟩
   ·exact⟨h0,.inr ⟨h1,by omega,h3,by rw[hold p1 (by omega) hne];exact h4⟩⟩
  ·exact aX.nil
 have fin:WS M0 b s ((M2.set (b+3) (ae 96 [v'])).set (b+4) (ae 4 [V.b true])) c2 w (text++X) true i:=by
  refine⟨v,v',p1,b3,?_,by omega,?_,?_,?_,?_,am _ _ _,?_,cU (cU hA1 (by omega)) (by omega),cU (cU ?_ (by omega)) (by omega)⟩
  ·exact⟨by omega,fun x hx=>by rw[ak _ _ (by omega),ak _ _ (by omega)];exact(gr2.old x (by omega)).trans (gr.old x hx),fun x hx=>by rw[ak _ _ (by omega),ak _ _ (by omega)];exact gr2.new x hx⟩
  ·rw[ak _ _ (by omega),ak _ _ (by omega)];exact(gr2.old b (by omega)).trans m0
  ·rw[ak _ _ (by omega),ak _ _ (by omega)];exact(gr2.old (b+1) (by omega)).trans m1
  ·rw[ak _ _ (by omega),ak _ _ (by omega)];exact(gr2.old (b+2) (by omega)).trans m2
  ·rw[ak _ _ (by omega)];exact am _ _ _
  ·rw[ak _ _ (by omega),ak _ _ (by omega)];exact(gr2.old (b+5) (by omega)).trans m5
  ·have:bE (text++X)=bE text++bE X:=by unfold bE;rw[List.map_append]
   rw[this];exact hA2
 simp only[WX,Nat.reducePow,Nat.reduceDiv,Nat.reduceMod,Nat.reduceBEq,j0,j0,w2,st3,st4,f3,f4]
 exact hQ (X1 (G2 (X1 (G4 (G2 (bf (bA (br (X4 (X1 [])))))))))) _ _ fin
theorem bZ9{Φ:Nat→Option CF}{rd:Option Nat}{fn:Nat}{F:RO}(base i mask j b0:Nat)(blk:bK)(dst:Option aQ)(o:EO)(r:List (Nat×Nat×CO))(t:T)(M:Mem)(c:Nat)(reads:List (Nat×Nat))(R:DS→Prop){v:V}{M':Mem}{c':Nat}(hj:(mask/2^j%2==1)=false)(hb:zI mask reads=true)(hM:M.get b0=some blk)(h:fc o (K Φ rd fn ((b0,blk)::F)) (M.del b0) c t= .k v M' c')(hf:bT M' ((b0,blk)::F)=true):
 ly base ((i,mask,.mk dst (.e o) none)::r) (K Φ rd fn F) (.mk t M c [] ((j,b0)::reads)) R=ly base r (K Φ rd fn F) (.mk (setT t dst v) (M'.set b0 blk) c' [] ((j,b0)::reads)) R:=by
 have hj':testBit mask j=false:=by
  show Nat.beq (Nat.mod (Nat.div mask (Nat.pow 2 j)) 2) 1=false;rw[bU];exact af (show¬mask/2^j%2=1 by simpa using hj)
 have hp:bQ mask ((j,b0)::reads) F M []=Pr.mk ((b0,blk)::F) (M.del b0) [(b0,blk)]:=by
  rw[bQ,hj'];show(match M.get b0 with|none=>bQ mask reads F M []|some blk=>(M.del b0).force fun M=>bQ mask reads ((b0,blk)::F) M [(b0,blk)])=_;rw[hM];show(M.del b0).force (fun M=>bQ mask reads ((b0,blk)::F) M [(b0,blk)])=_;rw[Tr.force_eq];exact il hb _ _ _
 have he:rZ (K Φ rd fn F) base (i,mask,.mk dst (.e o) none) (.mk t M c [] ((j,b0)::reads))=some (.mk (setT t dst v) (M'.set b0 blk) c' [] ((j,b0)::reads)):=by
  show qa o (K Φ rd fn F) dst t c [] ((j,b0)::reads) (bQ mask ((j,b0)::reads) F M [])=_;rw[hp];show nk ((b0,blk)::F) dst t [] ((j,b0)::reads) [(b0,blk)] (fc o (K Φ rd fn ((b0,blk)::F)) (M.del b0) c t)=_;rw[h];show(bif bT M' ((b0,blk)::F)&&cC ((b0,blk)::F) M' []then(b8 [(b0,blk)] M').force fun M=>(setT t dst v).force fun t=>some (DS.mk t M c' [] ((j,b0)::reads))else none)=_;rw[hf];show((b8 [(b0,blk)] M').force fun M=>(setT t dst v).force fun t=>some (DS.mk t M c' [] ((j,b0)::reads)))=_;rw[Tr.force_eq,Tr.force_eq];show some (DS.mk _ ((M'.set b0 blk).force fun M=>b8 [] M) c' [] _)=_;rw[Tr.force_eq];rfl
 apply propext
 rw[eS,he]
 constructor
 ·rintro⟨s',h,q⟩;obtain rfl:=ag h;exact q
 ·exact fun q=>⟨_,rfl,q⟩
theorem bG9(Φ:Nat→Option CF){F:RO}{M0 M:Mem}{b c1 i:Nat}{s text:List UInt8}{w:List Pc}{sm:Bool}(ok0:cR F M0 b)(hW:WS M0 b s M c1 w text sm i)(fv:V)(u:List (Option V))(Q:Ex→St→Prop)(hQ:∀(u:List (Option V)) M' c' v p,Gr b M0 c' M'→b+6≤c'→M'.get (b+1)=some (ae 36 [v])→aX M' (b+6) c' p 64 2 v (jy w)→Q .nrm (.mk ((nM u (.p (b+1) 0) (.i .i64 (i:Int)))) [] M' c')):
 Wp xS (K Φ none 56 F) (.mk ((jU u (.p b 0) (.p (b+1) 0) (.p (b+2) 0) (.p (b+3) 0) (.p (b+4) 0) (.p (b+5) 0) fv)) [] M c1) Q:=by
 obtain⟨v,tv,p1,p0,gr,h6,m0,m1,m2,m3,m4,m5,hA,hT0⟩:=hW
 have ok1:=gr.ok ok0
 have hfr:=ok1.free
 obtain⟨w1,w2,w3⟩:=ej hA
 have hG1:flatten (V.g [v])=[v]:=rfl
 have l2:load1 F M (b+2) 0=some v:=au m2 0
 have l5:load1 F M (b+5) 0=some (.i .i64 (i:Int)):=au m5 0
 have md1:(M.del (b+5)).get (b+1)=some (ae 36 [.l0]):=by rw[Tr.get_del,ab (by omega)];exact m1
 have st1:=aC md1 0 [v] (by simp) w3
 have grd:Gr b M0 c1 ((M.del (b+5)).set (b+1) (ae 36 [v])):=(gr.del (b+5) (by omega)).set (b+1) _ (by omega) (by omega) (aj _)
 have f1:=(grd.ok ok0).free
 have f2:bT ((M.del (b+5)).set (b+1) (ae 36 [v])) ((b+5,ae 3 [.i .i64 (i:Int)])::F)=true:=by
  rw[dV,f1,ak _ _ (by omega),Tr.get_del,ac rfl];rfl
 have grE:Gr b M0 c1 (((M.del (b+5)).set (b+1) (ae 36 [v])).set (b+5) (ae 3 [.i .i64 (i:Int)])):=grd.set (b+5) _ (by omega) (by omega) (aj _)
 simp only[WX,Nat.reduceLeDiff,Jg,l2,l5,Dc,w2]
 rw[bZ9 (v:=undef) (M':=(M.del (b+5)).set (b+1) (ae 36 [v])) (c':=c1+5) _ _ _ _ _ (ae 3 [.i .i64 (i:Int)]) _ _ _ _ _ _ _ _ rfl rfl m5 ?_ f2]
 ·simp only[WX];refine hQ (X2 (G2 (bf (bA (br (X8 (X2 (X1 [])))))))) _ _ v p1 (grE.up (by omega)) (by omega) ?_ ?_
  ·rw[ak _ _ (by omega)];exact am _ _ _
  ·rcases hA with⟨h0,hh|⟨h1,h2,h3,h4⟩⟩
   ·exact⟨h0,.inl hh⟩
   ·exact⟨h0,.inr ⟨h1,by omega,h3,by rw[ak _ _ (by omega),ak _ _ (by omega),Tr.get_del,ab (by omega)];exact h4⟩⟩
 ·rw[yf];simp only[WX,hG1,st1]
abbrev VW(b:Nat):V:= .f 74 [] [.p (b+3) 0,.p (b+4) 0,.p (b+2) 0,.p (b+5) 0,.p b 0]
theorem aN1{M0 M:Mem}{b c1 i j:Nat}{s text:List UInt8}{w:List Pc}{sm:Bool}(hW:WS M0 b s M c1 w text sm i):WS M0 b s (M.set (b+5) (ae 3 [.i .i64 (j:Int)])) c1 w text sm j:=by
 obtain⟨v,tv,p1,p0,gr,h6,m0,m1,m2,m3,m4,m5,hA,hT0⟩:=hW
 exact⟨v,tv,p1,p0,gr.set (b+5) _ (by omega) (by omega) (aj _),h6,by rw[ak _ _ (by omega)];exact m0,by rw[ak _ _ (by omega)];exact m1,by rw[ak _ _ (by omega)];exact m2,by rw[ak _ _ (by omega)];exact m3,by rw[ak _ _ (by omega)];exact m4,am _ _ _,cU hA (by omega),cU hT0 (by omega)⟩
theorem bK6(Φ:Nat→Option CF)(h74:Φ 74=some Ww){F:RO}{M0 M:Mem}{b c1 i:Nat}{s text:List UInt8}{w:List Pc}{sm:Bool}(ok0:cR F M0 b)(hi:i≤s.length)(hs:s.length≤400000)(hw:w.length≤1000000)(ht:text.length≤1000000)(hst:mr (s.drop i)=none)(hW:WS M0 b s M c1 w text sm i)(u:List (Option V))(Q:Ex→St→Prop)
 (hQ:∀(u:List (Option V)) M' c' v p,Gr b M0 c' M'→b+6≤c'→M'.get (b+1)=some (ae 36 [v])→aX M' (b+6) c' p 64 2 v (jy (nK w text sm))→Q .ret (.mk ((nM u (.p (b+1) 0) (.i .i64 (i:Int)))) [] M' c')):
 Wp (.seq .skip (.seq CM (.seq xS .ret))) (K Φ none 56 F) (.mk ((jU u (.p b 0) (.p (b+1) 0) (.p (b+2) 0) (.p (b+3) 0) (.p (b+4) 0) (.p (b+5) 0) (VW b))) [] M c1) Q:=by
 simp only[WX,Vd]
 refine az ((r74 Φ h74 ok0 hi hs hw ht hW).mono ?_)
 rintro r M' c' ⟨hW',hle⟩
 rw[Xe hst]at hW'
 simp only[WX]
 refine bG9 Φ ok0 hW' _ (X1 (G2 (X1 (G4 (X1 (G1 (bf (bA (br (X4 (X1 []))))))))))) _ ?_
 intro u M2 c2 v p g h6 hm hA
 simp only[WX]
 exact hQ (X2 (G2 (bf (bA (br (X8 (X2 (X1 [])))))))) _ _ v p g h6 hm hA
theorem bK8(Φ:Nat→Option CF)(h76:Φ 76=some (.orc (aG h88)))(h77:Φ 77=some (.orc (aG h77))){F:RO}{M0 M:Mem}{b c1 i:Nat}{s text:List UInt8}{w:List Pc}{sm:Bool}(ok0:cR F M0 b)(hi:i<s.length)(hs:s.length≤400000)(hw:w.length≤1000000)(ht:text.length≤1000000)(h39:s[i]=39)(hW:WS M0 b s M c1 w text sm i)(u:List (Option V))(Q:Ex→St→Prop)
 (hQ1:∀(u:List (Option V)) M' c' k,mr (s.drop i)=some (some (k+1,(s.drop (i+1)).take k,false))→i+(k+2)≤s.length→WS M0 b s M' c' w (text++(s.drop (i+1)).take k) true (i+(k+2))→Q (.gto 1) (.mk ((jU u (.p b 0) (.p (b+1) 0) (.p (b+2) 0) (.p (b+3) 0) (.p (b+4) 0) (.p (b+5) 0) (VW b))) [] M' c'))
 (hQ2:mr (s.drop i)=some none→ ∀(u:List (Option V)) M' c',Gr b M0 c' M'→b+6≤c'→M'.get (b+1)=some (ae 36 [.l0])→Q .ret (.mk ((nM u (.p (b+1) 0) (.i .i64 0))) [] M' c')):
 Wp (.seq .skip (.seq CJ CL)) (K Φ none 56 F) (.mk ((jU u (.p b 0) (.p (b+1) 0) (.p (b+2) 0) (.p (b+3) 0) (.p (b+4) 0) (.p (b+5) 0) (VW b))) [] M c1) Q:=by
 have hW':=hW
 obtain⟨v,tv,p1,p0,gr,h6,m0,m1,m2,m3,m4,m5,hA,hT0⟩:=hW
 have l0:load1 F M b 0=some (sV s):=au m0 0
 have l5:load1 F M (b+5) 0=some (.i .i64 (i:Int)):=au m5 0
 have q1:cB .add (.i .i64 (i:Int)) (.i .i64 1)=some (.i .i64 ((i+1:Nat):Int)):=by rw[be _ _ (by omega) (by omega)];simp
 have hsl:=AN s .i64 (i+1) hi
 have hdr:s.drop i=39::s.drop (i+1):=by rw[←h39];exact bS hi
 have hf:h88 [sV (s.drop (i+1)),.i .u8 39]=some (.i .i64 (vn (vm 39 (s.drop (i+1)) 0))):=Dp (s.drop (i+1)) 39
 have st1:=aC m1 0 [V.l0] (by simp) rfl
 have hG0:flatten (V.g [V.l0])=[V.l0]:=rfl
 have BAD:=fun h=>hQ2 h
 cases hk:vm 39 (s.drop (i+1)) 0 with
 |none=>
  rw[hk]at hf;have hst:mr (s.drop i)=some none:=by rw[hdr];exact IJ hk
  have d1:decide ((-1:Int)<0)=true:=rfl;have hz:vn none= -1:=rfl;simp only[WX,Int.reduceLT,Jg,l0,l5,q1,hsl,h76,hf,hz,hG0,st1];exact hQ2 hst (X2 (G2 (bf (bA (br (X8 (X2 (X1 [])))))))) _ _ (gr.set (b+1) _ (by omega) (by omega) (aj _)) h6 (am _ _ _)
 |some k=>
  rw[hk]at hf;have hkl:=(Dl hk).2;rw[bu]at hkl;have d1:decide ((k:Int)<0)=false:=af (by omega);have hz:vn (some k)=(k:Int):=rfl;obtain⟨j,hj⟩:∃j,j=i+1+k:=⟨_,rfl⟩
  have q2:cB .add (.i .i64 ((i+1:Nat):Int)) (.i .i64 (k:Int))=some (.i .i64 (j:Int)):=by rw[be _ _ (by omega) (by omega),hj];simp
  have hsl2:=Gf s .i64 .i64 (i+1) j (by omega) (by omega);have hX:(s.take j).drop (i+1)=(s.drop (i+1)).take k:=by rw[List.drop_take];congr 1;omega
  rw[hX]at hsl2;have hall:=aU3 ((s.drop (i+1)).take k) (by rw[List.length_take,bu];omega);cases ha:((s.drop (i+1)).take k).all l8 with
  |false=>
   rw[ha]at hall;have hst:mr (s.drop i)=some none:=by rw[hdr];exact TV hk ha
   simp only[WX,Jg,l0,l5,q1,q2,hsl,hsl2,h76,hf,hz,d1,h77,hall,hG0,st1];exact hQ2 hst (X2 (G2 (bf (bA (br (X8 (X2 (X1 [])))))))) _ _ (gr.set (b+1) _ (by omega) (by omega) (aj _)) h6 (am _ _ _)
  |true=>
   rw[ha]at hall;have hst:mr (s.drop i)=some (some (k+1,(s.drop (i+1)).take k,false)):=by rw[hdr];exact Yf hk ha
   simp only[WX,V9,Va,Vb,Vc,l0,l5,q1,q2,hsl,hsl2,h76,hf,hz,d1,h77,hall];refine d62 Φ ok0 (show i+1+k≤s.length by omega) hs hw ht hW' _ (X1 (G2 (X1 (G4 (G2 (bf (bA (br (X4 (X1 [])))))))))) _ ?_;intro u M' c' hW2;have hW3:=aN1 (j:=i+(k+2)) hW2;obtain⟨v,tv,p1,p0,gr,h6,m0,m1,m2,m3,m4,m5,hA,hT0⟩:=hW2;have l5:load1 F M' (b+5) 0=some (.i .i64 (i:Int)):=au m5 0;obtain⟨k2,hk2⟩:∃k2,k2=k+2:=⟨_,rfl⟩
   obtain⟨j2,hj2⟩:∃j2,j2=i+(k+2):=⟨_,rfl⟩
   have q3:cB .add (.i .i64 (k:Int)) (.i .i64 2)=some (.i .i64 (k2:Int)):=by rw[be _ _ (by omega) (by omega),hk2];simp
   have q4:cB .add (.i .i64 (i:Int)) (.i .i64 (k2:Int))=some (.i .i64 (j2:Int)):=by rw[be _ _ (by omega) (by omega),hj2,hk2];simp
   have st5:=aC m5 0 [V.i .i64 (j2:Int)] (by simp) rfl;rw[←hj2]at hW3;simp only[WX,Jg,l5,q3,q4,st5,jm,gI];exact hQ1 (X1 (G2 (X1 (G4 (X1 (G1 (bf (bA (br (X4 (X1 []))))))))))) _ _ k hst (by omega) (by rw[←hj2];exact hW3)
theorem bK7(Φ:Nat→Option CF)(h55:Φ 55=some (.orc (aG h55)))(h73:Φ 73=some (.orc (aG h73)))(h75:Φ 75=some (.orc (aG h75)))(h74:Φ 74=some Ww){F:RO}{M0 M:Mem}{b c1 i:Nat}{s text:List UInt8}{w:List Pc}{sm:Bool}(ok0:cR F M0 b)(hi:i≤s.length)(hs:s.length≤400000)(hw:w.length≤900000)(ht:text.length≤900000)(hW:WS M0 b s M c1 w text sm i)(u:List (Option V))(Q:Ex→St→Prop)
 (hQ0:mr (s.drop i)=none→ ∀(u:List (Option V)),Q (.gto 0) (.mk ((jU u (.p b 0) (.p (b+1) 0) (.p (b+2) 0) (.p (b+3) 0) (.p (b+4) 0) (.p (b+5) 0) (VW b))) [] M c1))
 (hQ2:∀h:i<s.length,s[i]=39→ ∀(u:List (Option V)),Q (.gto 2) (.mk ((jU u (.p b 0) (.p (b+1) 0) (.p (b+2) 0) (.p (b+3) 0) (.p (b+4) 0) (.p (b+5) 0) (VW b))) [] M c1))
 (hQ1:∀(u:List (Option V)) M' c' j w' text' sm',i<j→j≤s.length→w'.length≤w.length+2→text'.length≤text.length+1→mj (s.drop i) w text sm i=mj (s.drop j) w' text' sm' j→WS M0 b s M' c' w' text' sm' j→Q (.gto 1) (.mk ((jU u (.p b 0) (.p (b+1) 0) (.p (b+2) 0) (.p (b+3) 0) (.p (b+4) 0) (.p (b+5) 0) (VW b))) [] M' c'))
 (hQ3:mr (s.drop i)=some none→ ∀(u:List (Option V)) M' c',Gr b M0 c' M'→b+6≤c'→M'.get (b+1)=some (ae 36 [.l0])→Q .ret (.mk ((nM u (.p (b+1) 0) (.i .i64 0))) [] M' c')):
 Wp (.seq .skip (.seq xQ xR)) (K Φ none 56 F) (.mk ((jU u (.p b 0) (.p (b+1) 0) (.p (b+2) 0) (.p (b+3) 0) (.p (b+4) 0) (.p (b+5) 0) (VW b))) [] M c1) Q:=by
 have hW':=hW
 obtain⟨v,tv,p1,p0,gr,h6,m0,m1,m2,m3,m4,m5,hA,hT0⟩:=hW
 have l0:load1 F M b 0=some (sV s):=au m0 0
 have l5:load1 F M (b+5) 0=some (.i .i64 (i:Int)):=au m5 0
 have st1:=aC m1 0 [V.l0] (by simp) rfl
 have hG0:flatten (V.g [V.l0])=[V.l0]:=rfl
 by_cases hlt:i<s.length
 ·have d0:decide ((i:Int)=(s.length:Int))=false:=af (by omega);have hix:nn (sV s) (.i .i64 (i:Int))=some (.i .u8 ((s[i]).toNat:Int)):=qj s .i64 i hlt;have hdr:s.drop i=s[i]::s.drop (i+1):=bS hlt;have hsl:uq (sV s) (some (.i .i64 (i:Int))) none=some (sV (s[i]::s.drop (i+1))):=by rw[←hdr];exact AN s .i64 i hi
  have hgt:s[i]?=some s[i]:=List.getElem?_eq_getElem hlt;have hsg:=Ss (s[i]::s.drop (i+1));rw[TE]at hsg;have hxn:∀k:UInt8,decide (((s[i]).toNat:Int)=(k.toNat:Int))=decide (s[i]=k):=fun k=>by congr 1;exact propext ⟨fun e=>UInt8.toNat_inj.1 (by omega),fun e=>by rw[e]⟩
  have x32:=hxn 32;have x38:=hxn 38;have x39:=hxn 39;simp only[UInt8.reduceToNat,Int.cast_ofNat_Int]at x32 x38 x39;have qsg:=iL (cS (s[i]::s.drop (i+1))) [];have e0:V.s 0 0=sV []:=rfl;rw[←e0]at qsg;clear hxn;rw[hdr]at hQ0 hQ1 hQ3;have hpf:Ev.h73 [sV (s[i]::s.drop (i+1)),.s 2 16164]=some (V.b (BD [36,63] (s[i]::s.drop (i+1)))):=Su _ [36,63];have hh75:Ev.h75 [.i .u8 ((s[i]).toNat:Int)]=some (V.b (nJ s[i])):=yn s[i];by_cases hst:s[i]=32∨cS (s[i]::s.drop (i+1))≠[]∨s[i]=38
  ·have hno:=TS hst;by_cases h1:s[i]=32
   ·rw[ah h1]at x32;simp only[WX,oA,oB,l0,l5,d0,hix,x32,jm,gI];exact hQ0 hno (X1 (G2 (X1 (G4 (X1 (G1 (bf (bA (br (X4 (X1 [])))))))))))
   ·rw[af h1]at x32;by_cases h2:s[i]=38
    ·rw[ah h2]at x38;simp only[WX,oA,oB,l0,l5,d0,hix,x32,x38,jm,gI];exact hQ0 hno (X1 (G2 (X1 (G4 (X1 (G1 (bf (bA (br (X4 (X1 [])))))))))))
    ·rw[af h2]at x38;have h3:cS (s[i]::s.drop (i+1))≠[]:=by
      rcases hst with h|h|h
      ·exact absurd h h1
      ·exact h
      ·exact absurd h h2
     rw[af h3]at qsg;simp only[WX,oA,oB,l0,l5,d0,hix,x32,x38,hsl,h55,hsg,qsg,jm,gI];exact hQ0 hno (X1 (G2 (X1 (G4 (X1 (G1 (bf (bA (br (X4 (X1 [])))))))))))
  ·obtain⟨n32,n2,n38⟩:s[i]≠32∧cS (s[i]::s.drop (i+1))=[]∧s[i]≠38:=⟨fun e=>hst (.inl e),Classical.byContradiction fun e=>hst (.inr (.inl e)),fun e=>hst (.inr (.inr e))⟩
   rw[af n32]at x32;rw[af n38]at x38;rw[ah n2]at qsg;by_cases h39:s[i]=39
   ·rw[ah h39]at x39;simp only[WX,Jg,l0,l5,d0,hix,x32,x38,hsl,h55,hsg,qsg,x39,jm,gI,CX];exact hQ2 hlt h39 (X1 (G2 (X1 (G4 (X1 (G1 (bf (bA (br (X4 (X1 [])))))))))))
   ·rw[af h39]at x39;by_cases hpx:BD [36,63] (s[i]::s.drop (i+1))=true
    ·rw[hpx]at hpf;obtain⟨h36,t2,ht2⟩:s[i]=36∧ ∃t2,s.drop (i+1)=63::t2:=by
      cases hd:s.drop (i+1)with
      |nil=>rw[hd,aG2]at hpx;cases hpx
      |cons y t2=>
       rw[hd,aW9,aV]at hpx;exact⟨bW hpx.1,t2,by rw[bW hpx.2]⟩
     have hl2:i+2≤s.length:=by
      have:=congrArg List.length ht2;rw[bu,aA]at this;omega
     have hstat:mr (s[i]::s.drop (i+1))=some (some (1,[],true)):=by
      rw[h36]at hst⊢;rw[yJ hst,ht2];rfl
     have hnext:mj (s[i]::s.drop (i+1)) w text sm i=mj (s.drop (i+2)) (ji w text) [] false (i+2):=by
      rw[Az hstat,List.drop_succ_cons,List.drop_drop]
     simp only[WX,oA,oB,EJ,EK,V5,EL,EM,EN,l0,l5,d0,hix,x32,x38,hsl,h55,hsg,qsg,x39,h73,hpf];refine az ((r74 Φ h74 ok0 hi hs (by omega) (by omega) hW').mono ?_);rintro r M2 c2 ⟨hW2,hle⟩;obtain⟨v2,tv2,q1,q2,gr2,h62,n0,n1,n2',n3,n4,n5,hA2,hT2⟩:=hW2;obtain⟨q1,hA2,hne⟩:∃q,aX M2 (b+6) c2 q 64 2 v2 (jy (Sp w text sm (decide (s[i]?=some 36))))∧(q≠q2∨tv2= .l0):=by
      rcases C4 (text:=[]) hA2 hT2 with⟨rfl,_⟩|⟨rfl,e2⟩|hn
      ·exact⟨q1,hA2,.inr rfl⟩
      ·rw[e2];exact⟨q2+1,aX.nil,.inl (by omega)⟩
      ·exact⟨q1,hA2,.inl hn⟩
     have ok2:=gr2.ok ok0;have l2:load1 F M2 (b+2) 0=some v2:=au n2' 0;have hFb:flatten (V.b true)=[V.b true]:=rfl;have hR1:ew [V.s 0 0,V.b false] 1 [V.b true]=some [V.s 0 0,V.b true]:=rfl;have hG2:flatten (V.g [V.s 0 0,V.b true])=[V.s 0 0,V.b true]:=rfl;have hfl:(Sp w text sm (decide (s[i]?=some 36))).length≤w.length+1:=by unfold Sp;split<;>simp
     simp only[WX,Nat.reduceAdd,V6,l2,hFb,hR1,hG2];refine az ((iz ([],true) hA2 ok2 h62 (by omega)).mono ?_);rintro v3 M3 c3 ⟨q3,hA3,gr3,hle3,hold⟩;obtain⟨w1,w2,w3⟩:=ej hA3;have k2:=(gr3.old (b+2) (by omega)).trans n2';have k5:=(gr3.old (b+5) (by omega)).trans n5;have st2:=aC k2 0 [v3] (by simp) w3;have k5':(M3.set (b+2) (ae 34 [v3])).get (b+5)=some (ae 3 [.i .i64 (i:Int)]):=(ak _ _ (by omega)).trans k5;have l5':load1 F (M3.set (b+2) (ae 34 [v3])) (b+5) 0=some (.i .i64 (i:Int)):=au k5' 0;have q2':cB .add (.i .i64 (i:Int)) (.i .i64 2)=some (.i .i64 ((i+2:Nat):Int)):=by rw[be _ _ (by omega) (by omega)];simp
     have st5:=aC k5' 0 [V.i .i64 ((i+2:Nat):Int)] (by simp) rfl;have grF:Gr b M0 c3 M3:=⟨by omega,fun x hx=>(gr3.old x (by omega)).trans (gr2.old x hx),gr3.new⟩
     have hT3:aX M3 (b+6) c3 q2 5 1 tv2 (bE []):=by
      rcases hT2 with⟨h0,hh|⟨h1,h2,h3,h4⟩⟩
      ·exact⟨h0,.inl hh⟩
      ·rcases hne with hne|hne
       ·exact⟨h0,.inr ⟨h1,by omega,h3,by rw[hold q2 (by omega) (fun e=>hne e.symm)];exact h4⟩⟩
       ·rw[hne];exact aX.nil
     rw[Xf (by rw[hgt,h36])]at hA3;simp only[WX,Jg,w2,st2,l5',q2',st5,jm,gI];refine hQ1 (X1 (G2 (X1 (G4 (X1 (G1 (bf (bA (br (X4 (X1 []))))))))))) _ _ (i+2) (ji w text) [] false (by omega) hl2 (by unfold ji;split<;>simp) (aD _) hnext ?_;exact⟨v3,tv2,q3,q2,(grF.set (b+2) _ (by omega) (by omega) (aj _)).set (b+5) _ (by omega) (by omega) (aj _),by omega,by rw[ak _ _ (by omega),ak _ _ (by omega)];exact(gr3.old b (by omega)).trans n0,by rw[ak _ _ (by omega),ak _ _ (by omega)];exact(gr3.old (b+1) (by omega)).trans n1,by rw[ak _ _ (by omega)];exact am _ _ _,by rw[ak _ _ (by omega),ak _ _ (by omega)];exact(gr3.old (b+3) (by omega)).trans n3,by rw[ak _ _ (by omega),ak _ _ (by omega)];exact(gr3.old (b+4) (by omega)).trans n4,am _ _ _,cU (cU hA3 (by omega)) (by omega),cU (cU hT3 (by omega)) (by omega)⟩
    ·rw[show BD [36,63] (s[i]::s.drop (i+1))=false by simpa using hpx]at hpf;have hnx:nJ s[i]=true→mr (s[i]::s.drop (i+1))=some (some (0,[s[i]],false)):=by
      intro hp;have h36:s[i]≠36:=fun e=>by rw[e]at hp;exact absurd hp (by decide)
      rw[TW hst h39 h36,ac hp]
     have hbad:nJ s[i]=false→mr (s[i]::s.drop (i+1))=some none:=by
      intro hp;by_cases h36:s[i]=36
      ·have hh:(s.drop (i+1)).head?≠some 63:=by
        intro e;apply hpx;cases hd:s.drop (i+1)with
        |nil=>rw[hd]at e;cases e
        |cons y t2=>
         rw[hd]at e;rw[aW9,h36,show y=63 from ag e];rfl
       rw[h36]at hst⊢;rw[yJ hst,ab hh]
      ·rw[TW hst h39 h36,ab (by rw[hp];decide)]
     cases hp:nJ s[i]with
     |true=>
      rw[hp]at hh75;simp only[WX,oA,oB,EJ,EK,V7,V8,EL,EM,EN,l0,l5,d0,hix,x32,x38,hsl,h55,hsg,qsg,x39,h73,hpf,h75,hh75];refine d41 Φ ok0 hlt hs (by omega) (by omega) hW' _ (X1 (G2 (X1 (G4 (X1 (G1 (bf (bA (br (X4 (X1 []))))))))))) _ ?_;intro u M' c' hW2;have hW3:=aN1 (j:=i+1) hW2;obtain⟨v,tv,p1,p0,gr,h6,m0,m1,m2,m3,m4,m5,hA,hT0⟩:=hW2;have l5:load1 F M' (b+5) 0=some (.i .i64 (i:Int)):=au m5 0;have q3:cB .add (.i .i64 (i:Int)) (.i .i64 1)=some (.i .i64 ((i+1:Nat):Int)):=by rw[be _ _ (by omega) (by omega)];simp
      have st5:=aC m5 0 [V.i .i64 ((i+1:Nat):Int)] (by simp) rfl;simp only[WX,Jg,l5,q3,st5,jm,gI];refine hQ1 (X1 (G2 (X1 (G4 (X1 (G1 (bf (bA (br (X4 (X1 []))))))))))) _ _ (i+1) w (text++[s[i]]) true (by omega) hlt (by omega) (by simp) ?_ hW3;rw[pz (hnx hp)];rfl
     |false=>
      rw[hp]at hh75;simp only[WX,Jg,l0,l5,d0,hix,x32,x38,hsl,h55,hsg,qsg,x39,h73,hpf,h75,hh75,hG0,st1];exact hQ3 (hbad hp) (X2 (G2 (bf (bA (br (X8 (X2 (X1 [])))))))) _ _ (gr.set (b+1) _ (by omega) (by omega) (aj _)) h6 (am _ _ _)
 ·obtain rfl:i=s.length:=by omega
  have d0:decide ((s.length:Int)=(s.length:Int))=true:=ah rfl;have hno:mr (s.drop s.length)=none:=by rw[cj];rfl
  simp only[WX,oA,oB,l0,l5,jm,gI];exact hQ0 hno (X1 (G2 (X1 (G4 (X1 (G1 (bf (bA (br (X4 (X1 [])))))))))))
end
end Go.Proofs.YtmbpllipombieaaDoor.Ev
