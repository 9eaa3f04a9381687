/- What is proved here: pieces of the evaluator's soundness: if the evaluator comes to a value, the model's run comes to it, for every world and tape; no conditions beyond the hypotheses of each theorem. -/
import Derived.Test.YtcnblipfcihcpaaGreatDoorEv2
import GoSem.ClaimChange
import Derived.Lib.LaidTab
import GoSem.ClaimJoined
set_option linter.unusedSimpArgs false
set_option linter.unusedVariables false
set_option linter.defProp false
namespace Go.Proofs.YtcnblipfcihcpaaGreatDoor.Ev
open Go
noncomputable section
def tn(t:T)(M:Mem)(c:Nat)(p:List (Nat×Nat×bL)):SS:=⟨t,fun b=>(ip p b).or (M.get b),c⟩
structure Ds(base:Nat)(F:RO)(M:Mem)(p:List (Nat×Nat×bL)):Prop where
 nm:∀i b blk,(i,b,blk)∈p→b=base+i
 nd:ND p
 fr:∀i b blk,(i,b,blk)∈p→look F M b=none
def vo(base:Nat)(x y:iF):Prop:=testBit x.mask y.i=false∧x.i≠y.i∧(testBit y.mask x.i=true∨Gs base x y)
structure zO(base:Nat)(p:List (Nat×Nat×bL))(reads:List (Nat×Nat))(y:iF):Prop where
 r1:∀x b,(x,b)∈reads→testBit y.mask x=false→ ∀v M1 F1 M' ct ct',y.k= .ef v M1 F1 M' ct ct'→M1.get b=none
 r2:∀x b,(x,b)∈reads→ ∀v blk,y.k= .al v blk→b≠base+y.i
 p1:∀x b blk,(x,b,blk)∈p→testBit y.mask x=false→ ∀v M1 F1 M' ct ct',y.k= .ef v M1 F1 M' ct ct'→M1.get b=none∧be F1 b=none
 p2:∀x b blk,(x,b,blk)∈p→testBit y.mask x=false→ ∀v b',y.k= .qr v b'→b'≠b
def iF.trip(l:iF):Nat×Nat×CO:=(l.i,l.mask,l.co)
theorem qC{x y:Nat×Nat×CO}(h:tc x y=true):testBit x.2.1 y.1=false∧x.1≠y.1∧
 ((testBit y.2.1 x.1=true∧Nat.lor x.2.1 y.2.1=y.2.1)∨(testBit y.2.1 x.1=false∧JG x.2.2 y.2.2=true)):=by
 unfold tc at h
 rw[bK,bK]at h
 simp only[aC,Bool.not_eq_true']at h
 obtain⟨h1,h2,h3⟩:=h
 refine⟨h1,by simpa using h2,?_⟩
 cases ht:testBit y.2.1 x.1 with
 |true=>rw[ht]at h3;exact .inl ⟨rfl,by simpa using h3⟩
 |false=>rw[ht]at h3;exact .inr ⟨rfl,by simpa using h3⟩
theorem rP{x:Nat×Nat×CO}:∀{l:List (Nat×Nat×CO)},rO x l=true→ ∀y∈l,tc x y=true
 |[],_,_,h=>by cases h
 |z::r,h,y,hy=>by
  simp only[rO,aC]at h;rcases bv.1 hy with rfl|hy
  ·exact h.1
  ·exact rP h.2 y hy
theorem tV{x y:CO}(h:JG x y=true):isE x=false∧tN y.ps x.dst=false∧tN x.ps y.dst=false∧rv x.dst y.dst=false:=by
 unfold JG at h
 simpa using h
theorem vo.mk'{base:Nat}{x y:iF}(h:tc x.trip y.trip=true)(hk:x.k.isEf=false)
 (rd:testBit y.mask x.i=false→ ∀vx b v M1 F1 M' ct ct',x.k= .qr vx b→y.k= .ef v M1 F1 M' ct ct'→M1.get b=none)
 (al:testBit y.mask x.i=false→ ∀vx blk v M1 F1 M' ct ct',x.k= .al vx blk→y.k= .ef v M1 F1 M' ct ct'→M1.get (base+x.i)=none∧be F1 (base+x.i)=none)
 (rd2:testBit y.mask x.i=false→ ∀vx blk v b,x.k= .al vx blk→y.k= .qr v b→b≠base+x.i)
 (rd3:∀vx b v blk,x.k= .qr vx b→y.k= .al v blk→b≠base+y.i):vo base x y:=by
 obtain⟨h1,h2,h3⟩:=qC h
 refine⟨h1,h2,?_⟩
 rcases h3 with⟨h3,_⟩|⟨h3,h4⟩
 ·exact .inl h3
 ·obtain⟨_,a2,a3,a4⟩:=tV h4;exact .inr ⟨h2,hk,a2,a3,a4,rd h3,al h3,rd2 h3,rd3⟩
section
variable{k:Kn}{base:Nat}{t t1:T}{M M1:Mem}{c c1:Nat}{p p1:List (Nat×Nat×bL)}{reads reads1:List (Nat×Nat)}{i mask:Nat}{co:CO}
def Du(k:Kn)(base:Nat)(h:Nat×Nat×CO)(t:T)(M:Mem)(c:Nat)(p:List (Nat×Nat×bL))(reads:List (Nat×Nat))(t1:T)(M1:Mem)(c1:Nat)(p1:List (Nat×Nat×bL))(reads1:List (Nat×Nat)):Prop:=
 ∃l:iF,l.trip=h∧Tn k base k.F l (tn t M c p) (tn t1 M1 c1 p1)∧Ds base k.F M1 p1∧(∀q∈p1,q.1=h.1∨ ∃q'∈p,q'.1=q.1)∧zO base p reads l∧
  ∀y:iF,tc h y.trip=true→zO base p1 reads1 y→zO base p reads y∧vo base l y
theorem MQ{F:RO}(hI:Ds base F M p){b:Nat}{blk:bL}(h:look F M b=some blk):ip p b=none:=by
 cases hp:ip p b with
 |none=>rfl
 |some x=>
  obtain⟨j,hj⟩:=lL hp;rw[hI.fr _ _ _ hj]at h;cases h
theorem mI(hI:Ds base k.F M p){lk:LK}{v:V}(hv:iF.val ⟨i,mask,co,lk⟩=v)(hm:∀m,iF.mem base ⟨i,mask,co,lk⟩ m=m)(hc:iF.ctr ⟨i,mask,co,lk⟩ c=c)
 (hcan:O2 k base k.F ⟨i,mask,co,lk⟩ (tn t M c p)) (hne:lk.isEf=false) (hna:∀v blk,lk≠ .al v blk)
 (hrd:∀v b,lk= .qr v b→(i,b)∈reads1∧ ∀blk x,(x,b,blk)∉p) (hsub:∀q∈reads,q∈reads1):
 Du k base (i,mask,co) t M c p reads (setT t co.dst v) M c p reads1:=by
 refine⟨⟨i,mask,co,lk⟩,rfl,pX.2 ⟨hcan,?_⟩,hI,fun q hq=> .inr ⟨q,hq,rfl⟩,⟨?_,?_,?_,?_⟩,?_⟩
 ·show tn _ _ _ _=SS.mk _ _ _;rw[hv,hm];show SS.mk _ _ _=SS.mk _ _ (iF.ctr _ c);rw[hc];rfl
 ·intro x b _ _ v M1 F1 M' ct ct' e;have e':lk=_:=e;rw[e']at hne;cases hne
 ·intro x b _ v blk e;exact absurd e (hna v blk)
 ·intro x b blk _ _ v M1 F1 M' ct ct' e;have e':lk=_:=e;rw[e']at hne;cases hne
 ·intro x b blk hx _ v b' e;rintro rfl;exact(hrd v b' e).2 blk x hx
 ·intro y hp hy;refine⟨⟨fun x b hx=>hy.r1 x b (hsub _ hx),fun x b hx=>hy.r2 x b (hsub _ hx),hy.p1,hy.p2⟩,?_⟩;refine .mk' hp hne ?_ ?_ ?_ ?_
  ·intro ht vx b v M1 F1 M' ct ct' e1 e2;exact hy.r1 i b (hrd vx b e1).1 ht v M1 F1 M' ct ct' e2
  ·intro ht vx blk v M1 F1 M' ct ct' e1;exact absurd e1 (hna _ _)
  ·intro ht vx blk v b e1;exact absurd e1 (hna _ _)
  ·intro vx b v blk e1 e2;exact hy.r2 i b (hrd vx b e1).1 v blk e2
theorem EU{α:Type}{o:Option α}(h:o.isNone=true):o=none:=by cases o<;>simp_all
theorem Xc(hI:Ds base k.F M p)(hi:∀q∈p,q.1≠i)(h:ut k base (i,mask,co) (.mk t M c p reads)=some (.mk t1 M1 c1 p1 reads1)):
 Du k base (i,mask,co) t M c p reads t1 M1 c1 p1 reads1:=by
 obtain⟨dst,op,g⟩:=co
 unfold ut at h
 dsimp only at h
 cases hw:wanted t g with
 |false=>
  rw[hw,cond_false,Tr.force_eq]at h;injection h with h;injection h with e1 e2 e3 e4 e5
  subst e1 e2 e3 e4 e5;exact mI (lk:= .skip) hI rfl (fun _=>rfl) rfl hw rfl (fun _ _ h=>by cases h) (fun _ _ h=>by cases h) (fun _ h=>h)
 |true=>
  rw[hw,cond_true]at h;cases op with
  |q o=>
   have h':uu i dst t M c p reads (EA o k.F M t (dh o k.F M t))=some (.mk t1 M1 c1 p1 reads1):=h;cases hq:dh o k.F M t with
   |f=>rw[hq]at h';cases(show(none:Option DS)=some _ from h')
   |v x0=>
    rw[hq]at h';have h2:uu i dst t M c p reads (dh o [] .e t)=some (.mk t1 M1 c1 p1 reads1):=h';cases hq2:dh o [] .e t with
    |f=>rw[hq2]at h2;cases(show(none:Option DS)=some _ from h2)
    |v x=>
     rw[hq2,uu,Tr.force_eq]at h2;injection h2 with h2;injection h2 with e1 e2 e3 e4 e5
     subst e1 e2 e3 e4 e5;exact mI (lk:= .qv x) hI rfl (fun _=>rfl) rfl ⟨hw,o,rfl,by show(dh o [] .e t).val=_;rw[hq2];rfl⟩ rfl (fun _ _ h=>by cases h) (fun _ _ h=>by cases h) (fun _ h=>h)
    |r x b=>
     rw[hq2,uu,Tr.force_eq]at h2;injection h2 with h2;injection h2 with e1 e2 e3 e4 e5
     subst e1 e2 e3 e4 e5;exact mI (lk:= .qv x) hI rfl (fun _=>rfl) rfl ⟨hw,o,rfl,by show(dh o [] .e t).val=_;rw[hq2];rfl⟩ rfl (fun _ _ h=>by cases h) (fun _ _ h=>by cases h) (fun _ h=>bN _ h)
   |r x0 b=>
    rw[hq]at h';have h2:uu i dst t M c p reads (Xf o t b (look k.F M b))=some (.mk t1 M1 c1 p1 reads1):=h';cases hl:look k.F M b with
    |none=>rw[hl]at h2;cases(show(none:Option DS)=some _ from h2)
    |some blk=>
     rw[hl]at h2;have h3:uu i dst t M c p reads (CJ b (dh o [(b,blk)] .e t))=some (.mk t1 M1 c1 p1 reads1):=h2;have hpg:=MQ hI hl;have hmem:((ip p b).or (M.get b)=some blk∨((ip p b).or (M.get b)=none∧be k.F b=some blk)):=by
      rw[hpg];cases hm:M.get b with
      |none=>rw[aQ hm]at hl;exact .inr ⟨rfl,hl⟩
      |some y=>rw[ay hm]at hl;exact .inl hl
     have fin:∀x,(dh o [(b,blk)] .e t).val=some x→uu i dst t M c p reads (.r x b)=some (.mk t1 M1 c1 p1 reads1)→Du k base (i,mask,.mk dst (.q o) g) t M c p reads t1 M1 c1 p1 reads1:=by
      intro x hx h4;rw[uu,Tr.force_eq]at h4;injection h4 with h4;injection h4 with e1 e2 e3 e4 e5
      subst e1 e2 e3 e4 e5;refine mI (lk:= .qr x b) hI rfl (fun _=>rfl) rfl ⟨hw,o,blk,rfl,hmem,hx⟩ rfl (fun _ _ h=>by cases h) ?_ (fun _ h=>bN _ h);intro v b' e;injection e with e1 e2
      subst e1 e2;exact⟨by simp,fun blk x=>MR hpg x blk⟩
     cases hq2:dh o [(b,blk)] .e t with
     |f=>rw[hq2]at h3;cases(show(none:Option DS)=some _ from h3)
     |v x=>rw[hq2]at h3;exact fin x (by rw[hq2];rfl) h3
     |r x b2=>rw[hq2]at h3;exact fin x (by rw[hq2];rfl) h3
  |a o=>
   have h':fN (Nat.add base i) (fun b=>bif (look k.F M b).isNone&&cG b reads then Ez i b dst t M c p reads (lz o b t)else none)=some (.mk t1 M1 c1 p1 reads1):=h;rw[b9]at h';cases hb:((look k.F M (Nat.add base i)).isNone&&cG (Nat.add base i) reads)with
   |false=>rw[hb]at h';cases h'
   |true=>
    rw[hb,cond_true]at h';rw[aC]at hb;have hlk:=EU hb.1;have hrf:=rW _ hb.2;cases ha:lz o (Nat.add base i) t with
    |none=>rw[ha]at h';cases h'
    |some pr=>
     obtain⟨v,blk⟩:=pr;rw[ha,Ez,Tr.force_eq]at h';injection h' with h';injection h' with e1 e2 e3 e4 e5
     subst e1 e2 e3 e4 e5;refine⟨⟨i,mask,.mk dst (.a o) g,.al v blk⟩,rfl,pX.2 ⟨⟨hw,o,rfl,ha⟩,?_⟩,⟨?_,?_,?_⟩,?_,⟨?_,?_,?_,?_⟩,?_⟩
     ·show SS.mk _ _ _=SS.mk _ _ _
      congr 1
      funext b
      show(ip ((i,base+i,blk)::p) b).or (M.get b)=kh (fun b=>(ip p b).or (M.get b)) (base+i) blk b;unfold kh;rw[ip];by_cases e:b=base+i
      ·rw[ae e,ae e];rfl
      ·rw[ab e,ab e]
     ·intro j b blk' hm;rcases bv.1 hm with hm|hm
      ·injection hm with h1 h2;injection h2 with h2 h3;rw[h1,h2];rfl
      ·exact hI.nm j b blk' hm
     ·refine List.pairwise_cons.2 ⟨?_,hI.nd⟩;rintro⟨j,b,blk'⟩ hm e;have e1:=hI.nm j b blk' hm;have e2:=hi _ hm;have e3:base+i=b:=e;exact e2 (by show j=i;omega)
     ·intro j b blk' hm;rcases bv.1 hm with hm|hm
      ·injection hm with h1 h2;injection h2 with h2 h3;rw[h2];exact hlk
      ·exact hI.fr j b blk' hm
     ·intro q hq;rcases bv.1 hq with hq|hq
      ·left;rw[hq]
      ·exact .inr ⟨q,hq,rfl⟩
     ·intro x b _ _ v M1 F1 M' ct ct' e;cases e
     ·intro x b hx v blk e;exact hrf x b hx
     ·intro x b blk _ _ v M1 F1 M' ct ct' e;cases e
     ·intro x b blk _ _ v b' e;cases e
     ·intro y hp hy;refine⟨⟨hy.r1,hy.r2,fun x b blk hx=>hy.p1 x b blk (bN _ hx),fun x b blk hx=>hy.p2 x b blk (bN _ hx)⟩,?_⟩;refine .mk' hp rfl (by intro _ vx b v M1 F1 M' ct ct' e1;cases e1) ?_ ?_ (by intro vx b v blk e1;cases e1)
      ·intro ht vx blk' v M1 F1 M' ct ct' e1 e2;exact hy.p1 i (base+i) blk (ck ..) ht v M1 F1 M' ct ct' e2
      ·intro ht vx blk' v b e1 e2;exact hy.p2 i (base+i) blk (ck ..) ht v b e2
  |e o=>
   have h':Ad o k mask dst t c reads (hU mask p M)=some (.mk t1 M1 c1 p1 reads1):=h;obtain⟨Mm,hmg,hmget⟩:=qA mask p M hI.nd;rw[hmg]at h';obtain⟨F1,Ma,news,hpr,hP⟩:=jH mask reads k.F Mm [];rw[Ad,hpr,sO]at h';rw[cu]at h';cases hpf:cU F1 Ma (p.filter fun x=> !testBit mask x.1)with
   |false=>rw[hpf]at h';cases h'
   |true=>
    rw[hpf,cond_true]at h';cases hE:iV o (sY k F1) Ma c t with
    |f=>rw[hE]at h';cases(show(none:Option DS)=some _ from h')
    |k v Mr cr=>
     rw[hE,nD]at h';cases hck:(ce Mr F1&&cU F1 Mr (p.filter fun x=> !testBit mask x.1))with
     |false=>rw[hck]at h';cases h'
     |true=>
      rw[hck,cond_true,Tr.force_eq,Tr.force_eq]at h';injection h' with h';injection h' with e1 e2 e3 e4 e5
      subst e1 e2 e3 e4 e5;rw[aC]at hck;have hro:=mL _ hck.1;have hpa:=mD _ hck.2;have hpb:=mD _ hpf
      have hmem:∀q:Nat×Nat×bL,q∈p.filter (fun x=> !testBit mask x.1)↔q∈p∧testBit mask q.1=false:=by
       intro q;rw[List.mem_filter];simp
      have hun:=oA (fun b=>Mm.get b) news Mr hP.was
      have hnoF:∀b,(∀blk x,(x,b,blk)∉p.filter fun x=> !testBit mask x.1)→ip (p.filter fun x=> !testBit mask x.1) b=none:=by
       intro b hb;cases hp:ip (p.filter fun x=> !testBit mask x.1) b with
       |none=>rfl
       |some blk=>obtain⟨j,hj⟩:=lL hp;exact absurd hj (hb blk j)
      have hnone:∀b,(Ma.get b≠none∨be F1 b≠none)→ip (p.filter fun x=> !testBit mask x.1) b=none:=by
       intro b hb;refine hnoF b fun blk x hx=>?_;obtain⟨g1,g2⟩:=oR (hpb x b blk hx);rcases hb with hb|hb
       ·exact hb g1
       ·exact hb g2
      have hm:∀b,(tn t M c p).m b=(ip (p.filter fun x=> !testBit mask x.1) b).or (Mm.get b):=fun b=>(hmget b).symm;refine⟨⟨i,mask,.mk dst (.e o) g,.ef v Ma F1 Mr c cr⟩,rfl,pX.2 ⟨⟨hw,rfl,o,rfl,⟨hE,?_,?_,?_⟩⟩,?_⟩,⟨?_,?_,?_⟩,?_,⟨?_,?_,?_,?_⟩,?_⟩
      ·intro b blk hb;rw[hm b,hnone b (.inl (by rw[hb];exact(fun h=>by cases h)))];rcases hP.get b with hg|hg
       ·rw[hg.1]at hb;cases hb
       ·show Mm.get b=some blk;rw[←hg.1];exact hb
      ·intro b blk hb;have hb':=hb;rw[hP.ro]at hb';rcases AQ hb' with hn|hF
       ·left;refine⟨?_,?_⟩
        ·rw[hm b,hnone b (.inr (by rw[hb];exact(fun h=>by cases h)))];exact hP.was b blk hn
        ·rcases hP.get b with hg|hg
         ·exact hg.1
         ·exact absurd ⟨blk,hn⟩ hg.2
       ·exact .inr hF
      ·intro b hb;obtain⟨blk,hblk⟩:=bM.1 hb;refine hro b blk ?_;rw[hP.ro];exact List.mem_append_right _ (Nf hblk)
      ·show SS.mk _ _ _=SS.mk _ _ _
       congr 1
       funext b
       show(ip (p.filter fun x=> !testBit mask x.1) b).or ((bc news Mr).get b)=eK Ma Mr (tn t M c p).m b;unfold eK;rw[hm b];cases hpg:ip (p.filter fun x=> !testBit mask x.1) b with
       |some blk=>
        obtain⟨j,hj⟩:=lL hpg;rw[ae ⟨(oR (hpb j b blk hj)).1,by simp⟩];rfl
       |none=>
        show(bc news Mr).get b=if Ma.get b=none∧Mm.get b≠none then Mm.get b else Mr.get b
        rcases hun b with hu|hu
        ·rw[hu.2];obtain⟨blk,hn⟩:=hu.1;have h1:=hP.was b blk hn;rcases hP.get b with hg|hg
         ·rw[ae ⟨hg.1,by rw[h1];exact(fun h=>by cases h)⟩]
         ·exact absurd ⟨blk,hn⟩ hg.2
        ·rw[hu.2,ab];rintro⟨g1,g2⟩;rcases hP.get b with hg|hg
         ·exact hu.1 hg.2
         ·rw[hg.1]at g1;exact g2 g1
      ·intro j b blk hj;exact hI.nm j b blk ((hmem _).1 hj).1
      ·exact hI.nd.sublist List.filter_sublist
      ·intro j b blk hj;obtain⟨g1,g2⟩:=oR (hpa j b blk hj);rw[hP.ro]at g2;obtain⟨g3,g4⟩:=rX g2;refine Az ?_ g3;rcases hun b with hu|hu
       ·exact absurd hu.1 g4
       ·rw[hu.2];exact g1
      ·intro q hq;exact .inr ⟨q,((hmem _).1 hq).1,rfl⟩
      ·intro x b hx ht v M1 F1' M' ct ct' e;injection e with e1 e2 e3 e4 e5 e6
       subst e2;exact hP.rd x b hx ht
      ·intro x b hx v blk e;cases e
      ·intro x b blk hx ht v M1 F1' M' ct ct' e;injection e with e1 e2 e3 e4 e5 e6
       subst e2 e3;exact oR (hpb x b blk ((hmem _).2 ⟨hx,ht⟩))
      ·intro x b blk hx ht v b' e;cases e
      ·intro y hp hy;obtain⟨f1,f2,f3⟩:=qC hp;have f4:testBit y.mask i=true∧Nat.lor mask y.mask=y.mask:=by
        rcases f3 with f3|f3
        ·exact f3
        ·have:=(tV f3.2).1;cases(show true=false from this)
       refine⟨⟨hy.r1,hy.r2,?_,?_⟩,⟨f1,f2,.inl f4.1⟩⟩
       ·intro x b blk hx ht;refine hy.p1 x b blk ((hmem _).2 ⟨hx,?_⟩) ht;cases htm:testBit mask x with
        |false=>rfl
        |true=>rw[ud f4.2 htm]at ht;cases ht
       ·intro x b blk hx ht;refine hy.p2 x b blk ((hmem _).2 ⟨hx,?_⟩) ht;cases htm:testBit mask x with
        |false=>rfl
        |true=>rw[ud f4.2 htm]at ht;cases ht
theorem vY:∀(C:List (Nat×Nat×CO)) (t:T) (M:Mem) (c:Nat) (p:List (Nat×Nat×bL)) (reads:List (Nat×Nat)) (t':T) (M':Mem) (c':Nat) (p':List (Nat×Nat×bL)) (reads':List (Nat×Nat)),
 jD k base C (.mk t M c p reads)=some (.mk t' M' c' p' reads')→vf C=true→Ds base k.F M p→(∀q∈p,∀h∈C,q.1≠h.1)→
 ∃L:List iF,L.map iF.trip=C∧tD k base k.F L (tn t M c p) (tn t' M' c' p')∧L.Pairwise (vo base)∧Ds base k.F M' p'∧ ∀y∈L,zO base p reads y
 |[],t,M,c,p,reads,t',M',c',p',reads',h,_,hI,_=>by
  have h':some (DS.mk t M c p reads)=some (.mk t' M' c' p' reads'):=h;injection h' with h';injection h' with e1 e2 e3 e4 e5
  subst e1 e2 e3 e4 e5;exact⟨[],rfl,rfl,.nil,hI,fun y hy=>by cases hy⟩
 |(i,mask,co)::C,t,M,c,p,reads,t',M',c',p',reads',h,hp,hI,hn=>by
  rw[jD]at h;cases hs:ut k base (i,mask,co) (.mk t M c p reads)with
  |none=>rw[hs]at h;cases h
  |some s1=>
   obtain⟨t1,M1,c1,p1,reads1⟩:=s1;rw[hs]at h;simp only[vf,aC]at hp;obtain⟨l,hl,hT,hI1,hsub,hpast,hrest⟩:=Xc hI (fun q hq=>hn q hq _ (ck ..)) hs;have hpair:=fun y hy=>rP hp.1 y hy
   obtain⟨L,hL,hC,hPW,hI',hPO⟩:=vY C t1 M1 c1 p1 reads1 t' M' c' p' reads' h hp.2 hI1 (by
    intro q hq y hy;rcases hsub q hq with e|⟨q',hq',e⟩
    ·rw[e];exact(qC (hpair y hy)).2.1
    ·rw[←e];exact hn q' hq' y (bN _ hy))
   have hyC:∀y∈L,y.trip∈C:=fun y hy=>by rw[←hL];exact List.mem_map_of_mem hy
   refine⟨l::L,by rw[List.map_cons,hl,hL],⟨_,hT,hC⟩,List.pairwise_cons.2 ⟨fun y hy=>(hrest y (hpair _ (hyC y hy)) (hPO y hy)).2,hPW⟩,hI',?_⟩;intro y hy;rcases bv.1 hy with rfl|hy
   ·exact hpast
   ·exact(hrest y (hpair _ (hyC y hy)) (hPO y hy)).1
end
structure vr(P:Program)(E:dj)(F:RO)(m:Nat→Option bL)(c:Nat→Prop)(w:World):Prop where
 has:∀b blk,(m b=some blk∨(m b=none∧be F b=some blk))→c b∧fw c blk∧ ∃o,w.heap[E.ρ b]?=some o∧ft P E b blk o
 inj:∀b b',(m b≠none∨be F b≠none)→(m b'≠none∨be F b'≠none)→E.ρ b=E.ρ b'→b=b'
 apart:∀b,(be F b).isSome→m b=none
structure zP(P:Program)(F:RO)(E:dj)(m:Nat→Option bL)(c:Nat→Prop)(w:World)(E':dj)(m':Nat→Option bL)(c':Nat→Prop)(w':World):Prop where
 ext:qP c E E'
 le:∀b,c b→c' b
 rel:vr P E' F m' c' w'
 own:∀b,m' b≠none→(∃b0,m b0≠none∧E.ρ b0=E'.ρ b)∨w.heap.size≤E'.ρ b
 frame:∀r,r<w.heap.size→(∀b,m b≠none→E.ρ b≠r)→w'.heap[r]?=w.heap[r]?
 size:w.heap.size≤w'.heap.size
 os:w'.os=w.os
 output:w'.output=w.output
 tape:w'.tape=w.tape
section
variable{P:Program}{E E' E₁ E₂:dj}{F F1:RO}{M M' M1:Mem}{m m' m₁ m₂:Nat→Option bL}{c c' c₁ c₂:Nat→Prop}{w w' w₁ w₂:World}
theorem zP.trans(h:zP P F E m c w E₁ m₁ c₁ w₁)(h':zP P F E₁ m₁ c₁ w₁ E₂ m₂ c₂ w₂):zP P F E m c w E₂ m₂ c₂ w₂ where
 ext:=h.ext.trans h'.ext h.le
 le:=fun b hb=>h'.le b (h.le b hb)
 rel:=h'.rel
 own:=by
  intro b hb;rcases h'.own b hb with⟨b1,h1,e1⟩|h1
  ·rcases h.own b1 h1 with⟨b0,h0,e0⟩|h0
   ·exact .inl ⟨b0,h0,e0.trans e1⟩
   ·exact .inr (e1▸h0)
  ·exact .inr (bF h.size h1)
 frame:=by
  intro r hr hn;rw[h'.frame r (Nat.lt_of_lt_of_le hr h.size),h.frame r hr hn];intro b1 h1 e;rcases h.own b1 h1 with⟨b0,h0,e0⟩|h0
  ·exact hn b0 h0 (e0.trans e)
  ·omega
 size:=bF h.size h'.size
 os:=h'.os.trans h.os
 output:=h'.output.trans h.output
 tape:=h'.tape.trans h.tape
theorem qz{b:Nat}{blk:bL}(h:look F M b=some blk):M.get b=some blk∨(M.get b=none∧be F b=some blk):=by
 cases hm:M.get b with
 |none=>rw[aQ hm]at h;exact .inr ⟨rfl,h⟩
 |some x=>rw[ay hm]at h;exact .inl h
theorem pG{b:Nat}{blk:bL}(h:M.get b=some blk∨(M.get b=none∧be F b=some blk)):look F M b=some blk:=by
 rcases h with h|h
 ·exact ay h
 ·rw[aQ h.1];exact h.2
theorem vr.of(h:ku P E F M c w)(hm:∀b,m b=M.get b):vr P E F m c w where
 has:=fun b blk hb=>h.has b blk (pG (by rw[←hm b];exact hb))
 inj:=fun b b' hb hb'=>by
  have key:∀x,(m x≠none∨be F x≠none)→(look F M x).isSome:=by
   intro x hx;rw[hm x]at hx;cases hM:M.get x with
   |some y=>rw[ay hM];rfl
   |none=>
    rw[aQ hM];rcases hx with hx|hx
    ·exact absurd hM hx
    ·cases hr:be F x with
     |none=>exact absurd hr hx
     |some _=>rfl
  exact h.inj b b' (key b hb) (key b' hb')
 apart:=fun b hb=>by rw[hm b];exact h.apart b hb
theorem ku.ofM(h:vr P E F m c w)(hm:∀b,m b=M.get b):ku P E F M c w where
 has:=fun b blk hb=>h.has b blk (by rw[hm b];exact qz hb)
 inj:=fun b b' hb hb'=>by
  have key:∀x,(look F M x).isSome→(m x≠none∨be F x≠none):=by
   intro x hx;obtain⟨y,hy⟩:=bM.1 hx;rw[hm x];rcases qz hy with h1|h1
   ·exact .inl (by rw[h1];exact(fun h=>by cases h))
   ·exact .inr (by rw[h1.2];exact(fun h=>by cases h))
  exact h.inj b b' (key b hb) (key b' hb')
 apart:=fun b hb=>by rw[←hm b];exact h.apart b hb
theorem vr.part(h:vr P E F m c w)(sub:∀b blk,M1.get b=some blk→m b=some blk)
 (ro:∀b blk,be F1 b=some blk→(m b=some blk∧M1.get b=none)∨be F b=some blk):ku P E F1 M1 c w:=by
 have key:∀b blk,look F1 M1 b=some blk→m b=some blk∨(m b=none∧be F b=some blk):=by
  intro b blk hb;rcases qz hb with h1|h1
  ·exact .inl (sub b blk h1)
  ·rcases ro b blk h1.2 with h2|h2
   ·exact .inl h2.1
   ·exact .inr ⟨h.apart b (by rw[h2];rfl),h2⟩
 have key2:∀b,(look F1 M1 b).isSome→m b≠none∨be F b≠none:=by
  intro b hb;obtain⟨y,hy⟩:=bM.1 hb;rcases key b y hy with h1|h1
  ·exact .inl (by rw[h1];exact(fun h=>by cases h))
  ·exact .inr (by rw[h1.2];exact(fun h=>by cases h))
 refine⟨fun b blk hb=>h.has b blk (key b blk hb),fun b b' hb hb'=>h.inj b b' (key2 b hb) (key2 b' hb'),fun b hb=>?_⟩
 obtain⟨y,hy⟩:=bM.1 hb
 rcases ro b y hy with h2|h2
 ·exact h2.2
 ·cases hM:M1.get b with
  |none=>rfl
  |some z=>
   have:=h.apart b (by rw[h2];rfl);rw[sub b z hM]at this;cases this
theorem vr.step(h:vr P E F m c w)(sub:∀b blk,M1.get b=some blk→m b=some blk)
 (new:∀b,(be F b).isSome→M'.get b=none) (hS:mY P F1 E M1 c w E' M' c' w'):zP P F E m c w E' (eK M1 M' m) c' w':=by
 have kept:∀b blk,M1.get b=none→(m b=some blk∨(m b=none∧be F b=some blk))→c b∧fw c blk∧ ∃o,w'.heap[E.ρ b]?=some o∧ft P E b blk o:=by
  intro b blk hn hb;obtain⟨h1,h2,o,h3,h4⟩:=h.has b blk hb;refine⟨h1,h2,o,?_,h4⟩;rw[hS.frame (E.ρ b) (Array.getElem?_eq_some_iff.1 h3).1,h3];intro b1 hb1 e;obtain⟨y,hy⟩:=bM.1 hb1;have hb':m b≠none∨be F b≠none:=by
   rcases hb with hb|hb
   ·exact .inl (by rw[hb];exact(fun h=>by cases h))
   ·exact .inr (by rw[hb.2];exact(fun h=>by cases h))
  have:=h.inj b1 b (.inl (by rw[sub b1 y hy];exact(fun h=>by cases h))) hb' e;rw[this,hn]at hy;cases hy
 have hlt:∀b,(m b≠none∨be F b≠none)→E.ρ b<w.heap.size∧c b:=by
  intro b hb;have:∃blk,m b=some blk∨(m b=none∧be F b=some blk):=by
   cases hm:m b with
   |some y=>exact⟨y,.inl rfl⟩
   |none=>
    rcases hb with hb|hb
    ·exact absurd hm hb
    ·cases hr:be F b with
     |none=>exact absurd hr hb
     |some y=>exact⟨y,.inr ⟨rfl,rfl⟩⟩
  obtain⟨blk,hblk⟩:=this;obtain⟨h1,_,o,h3,_⟩:=h.has b blk hblk;exact⟨(Array.getElem?_eq_some_iff.1 h3).1,h1⟩
 have split:∀b,(eK M1 M' m b≠none∨be F b≠none)→(M1.get b=none∧(m b≠none∨be F b≠none))∨M'.get b≠none:=by
  intro b hb;rcases hb with hb|hb
  ·unfold eK at hb;split at hb
   ·rename_i hc;exact .inl ⟨hc.1,.inl hc.2⟩
   ·exact .inr hb
  ·left;refine⟨?_,.inr hb⟩;have:=h.apart b (by cases hr:be F b with|none=>exact absurd hr hb|some _=>rfl);cases hM:M1.get b with
   |none=>rfl
   |some y=>rw[sub b y hM]at this;cases this
 refine⟨hS.ext,hS.le,⟨?_,?_,?_⟩,?_,?_,hS.size,hS.os,hS.output,hS.tape⟩
 ·intro b blk hb;have fin:M1.get b=none→(m b=some blk∨(m b=none∧be F b=some blk))→c' b∧fw c' blk∧ ∃o,w'.heap[E'.ρ b]?=some o∧ft P E' b blk o:=by
   intro hn hk;obtain⟨h1,h2,o,h3,h4⟩:=kept b blk hn hk;exact⟨hS.le b h1,fH hS.le blk h2,o,by rw[hS.ext.ρ b h1];exact h3,h4.ext hS.ext h1 h2⟩
  rcases hb with hb|hb
  ·unfold eK at hb;split at hb
   ·rename_i hc;exact fin hc.1 (.inl hb)
   ·exact hS.rel.has b blk (ay hb)
  ·have hap:=h.apart b (by rw[hb.2];rfl);refine fin ?_ (.inr ⟨hap,hb.2⟩);cases hM:M1.get b with
   |none=>rfl
   |some y=>rw[sub b y hM]at hap;cases hap
 ·intro b b' hb hb' e;rcases split b hb with⟨h1,h2⟩|h1
  ·obtain⟨l1,l2⟩:=hlt b h2;rcases split b' hb' with⟨h1',h2'⟩|h1'
   ·obtain⟨l1',l2'⟩:=hlt b' h2';rw[hS.ext.ρ b l2,hS.ext.ρ b' l2']at e;exact h.inj b b' h2 h2' e
   ·exfalso;rw[hS.ext.ρ b l2]at e;rcases hS.own b' (by cases hM:M'.get b' with|none=>exact absurd hM h1'|some _=>rfl)with⟨b0,h0,e0⟩|h0
    ·obtain⟨y,hy⟩:=bM.1 h0;have:=h.inj b0 b (.inl (by rw[sub b0 y hy];exact(fun h=>by cases h))) h2 (e0.trans e.symm);rw[this,h1]at hy;cases hy
    ·omega
  ·rcases split b' hb' with⟨h1',h2'⟩|h1'
   ·exfalso;obtain⟨l1',l2'⟩:=hlt b' h2';rw[hS.ext.ρ b' l2']at e;rcases hS.own b (by cases hM:M'.get b with|none=>exact absurd hM h1|some _=>rfl)with⟨b0,h0,e0⟩|h0
    ·obtain⟨y,hy⟩:=bM.1 h0;have:=h.inj b0 b' (.inl (by rw[sub b0 y hy];exact(fun h=>by cases h))) h2' (e0.trans e);rw[this,h1']at hy;cases hy
    ·omega
   ·have hs:∀x,M'.get x≠none→(look F1 M' x).isSome:=by
     intro x hx;cases hM:M'.get x with
     |none=>exact absurd hM hx
     |some y=>rw[ay hM];rfl
    exact hS.rel.inj b b' (hs b h1) (hs b' h1') e
 ·intro b hb;unfold eK;rw[ab (fun hc=>hc.2 (h.apart b hb))];exact new b hb
 ·intro b hb;rcases split b (.inl hb)with⟨h1,h2⟩|h1
  ·obtain⟨l1,l2⟩:=hlt b h2;left;refine⟨b,?_,(hS.ext.ρ b l2).symm⟩;unfold eK at hb;split at hb
   ·exact hb
   ·rcases h2 with h2|h2
    ·exact h2
    ·exact absurd (new b (by cases hr:be F b with|none=>exact absurd hr h2|some _=>rfl)) hb
  ·rcases hS.own b (by cases hM:M'.get b with|none=>exact absurd hM h1|some _=>rfl)with⟨b0,h0,e0⟩|h0
   ·obtain⟨y,hy⟩:=bM.1 h0;exact .inl ⟨b0,by rw[sub b0 y hy];exact(fun h=>by cases h),e0⟩
   ·exact .inr h0
 ·intro r hr hn;refine hS.frame r hr fun b hb=>hn b ?_;obtain⟨y,hy⟩:=bM.1 hb;rw[sub b y hy];exact(fun h=>by cases h)
theorem OZ(m:Nat→Option bL):eK .e .e m=m:=by
 funext b
 unfold eK
 split
 ·rfl
 ·rename_i h;cases hm:m b with
  |none=>rfl
  |some y=>exact absurd ⟨rfl,by rw[hm];exact(fun h=>by cases h)⟩ h
theorem DL(m:Nat→Option bL)(b:Nat)(blk:bL)(h:m b=none):eK .e (Tr.set .e b blk) m=kh m b blk:=by
 funext x
 unfold eK kh
 by_cases e:x=b
 ·rw[ae e,ab (fun hc=>hc.2 (by rw[e];exact h)),Tr.get_set,ae e]
 ·rw[ab e];split
  ·rfl
  ·rename_i hc;rw[Tr.get_set,ab e];cases hm:m x with
   |none=>rfl
   |some y=>exact absurd ⟨rfl,by rw[hm];exact(fun h=>by cases h)⟩ hc
end
structure SM(P:Program)(Bd:List Deferred)(F:RO)(rd:Option Nat)(nt base:Nat)(d:List Nat)(E:dj)(c:Nat→Prop)(w:World)(a:Act)(s:SS)(rem:Nat→Prop):Prop where
 rel:vr P E F s.m c w
 glob:∀g,g<1000→E.ρ g=g∧E.β g=0
 big:∀g,g<1000→c g
 tr:sD E s.t a.tmps
 bt:WE c s.t
 fr:gP c s.ct
 le:base≤s.ct
 res:∀i,rem i→ ¬c (base+i)∧base+i<s.ct
 df:a.defers=(d.map fun b=>{target:= .collected (E.ρ b),args:=#[]})++Bd
 dc:∀b∈d,c b
 sz:nt≤a.tmps.size
 rd:∀l,rd=some l→c l
section
variable{P:Program}{Bd:List Deferred}{E E':dj}{F:RO}{c c':Nat→Prop}{nt base:Nat}{w w':World}{a:Act}{rd:Option Nat}{d:List Nat}{s s':SS}{rem rem':Nat→Prop}{k:Kn}
theorem SM.next(h:SM P Bd F rd nt base d E c w a s rem){m':Nat→Option bL}(hS:zP P F E s.m c w E' m' c' w'){ct':Nat}(hfr:gP c' ct')(hle:s.ct≤ct')(hres:∀i,rem' i→ ¬c' (base+i)∧base+i<ct')
 {dst:Option Nat} (hd:tO nt dst=true) {v:V} (hb:bd c' v):SM P Bd F rd nt base d E' c' w' (a.put dst (conc E' v)) ⟨setT s.t (dst.map bJ) v,m',ct'⟩ rem':=by
 refine⟨hS.rel,fun g hg=>?_,fun g hg=>hS.le g (h.big g hg),vu (h.tr.ext hS.ext h.bt) (fun j hj=>?_) rfl,A6 (fun p=>dZ hS.le _ (h.bt p)) hb,hfr,bF h.le hle,hres,?_,fun b hb=>hS.le b (h.dc b hb),by rw[Act.put_size];exact h.sz,fun l hl=>hS.le l (h.rd l hl)⟩
 ·rw[hS.ext.ρ g (h.big g hg),hS.ext.β g (h.big g hg)];exact h.glob g hg
 ·subst hj;have:j<nt:=by simpa [tO]using hd
  exact Nat.lt_of_lt_of_le this h.sz
 ·rw[Act.put_defers,h.df]
  congr 1
  apply List.map_congr_left;intro b hb;rw[hS.ext.ρ b (h.dc b hb)]
theorem SM.cx(h:SM P Bd F rd nt base d E c w a s rem){F1:RO}{M1:Mem}(hr:ku P E F1 M1 c w):Cx P E F1 M1 c w s.t a:=⟨hr,h.glob,h.big,h.tr,h.bt⟩
theorem cR4(hcall:nI P k)(hy:kE P k)(h:SM P Bd k.F rd nt base d E c w a s rem){l:iF}(hrem:rem l.i)(hT:Tn k base k.F l s s'){ops:Array Oper}{o:Oper}(ho:ops[l.i]?=some o)(hco:yK P nt ops o=some l.co)
 {K:Act→World→Prop} {Q:Exit→Act→World→Prop}
 (hK:∀E' c' a' w',zP P k.F E s.m c w E' s'.m c' w'→(∀b,c' b→c b∨(base≤b∧b<s'.ct))→s.ct≤s'.ct→SM P Bd k.F rd nt base d E' c' w' a' s' (fun j=>rem j∧j≠l.i)→K a' w'):
 wpOpIn (dl E rd) 0 P ops Q l.i K a w:=by
 obtain⟨hd,g,op,hcoe,hg,hop⟩:=vU hco
 have hgu:=Ck h.tr hg
 unfold wpOpIn
 simp only[ho]
 rw[hgu]
 rw[pX]at hT
 obtain⟨hcan,rfl⟩:=hT
 have hdst:l.co.dst=o.dst.map bJ:=by rw[hcoe];rfl
 have hguard:l.co.guard=g:=by rw[hcoe];rfl
 have hopc:l.co.op=op:=by rw[hcoe];rfl
 have hrelE:ku P E [] .e c w:=h.rel.part (fun b blk hb=>by cases hb) (fun b blk hb=>by cases hb)
 have quiet:∀(F1:RO) (E':dj) (c':Nat→Prop) (w':World) (v:V),mY P F1 E .e c w E' .e c' w'→jA c s.ct c' s.ct→bd c' v→l.val=v→l.mem base s.m=s.m→l.ctr s.ct=s.ct→K (a.put o.dst (conc E' v)) w':=by
  intro F1 E' c' w' v hS hG hb hv hm hc;have hS':=h.rel.step (F1:=F1) (M1:= .e) (M':= .e) (fun b blk hb=>by cases hb) (fun _ _=>rfl) hS;rw[OZ]at hS'
  have hcc:∀b,c' b→c b:=fun b hb=>by
   rcases hG.new b hb with h1|h1
   ·exact h1
   ·omega
  refine hK E' c' _ w' (by rw[hm];exact hS') (fun b hb=> .inl (hcc b hb)) (by rw[hc];exact ak _) ?_;rw[hdst,hv,hm,hc];exact h.next hS' (h.fr.grow hG) (ak _) (fun i hi=>⟨fun hx=>(h.res i hi.1).1 (hcc _ hx),(h.res i hi.1).2⟩) hd hb
 unfold O2 at hcan
 cases hk:l.k with
 |skip=>
  rw[hk]at hcan;rw[hguard]at hcan;rw[ab (by rw[hcan];exact(fun h=>by cases h))];refine⟨fun _ _=>trivial,?_⟩;exact quiet [] E c w undef (.refl hrelE) (.refl _ _) trivial (by unfold iF.val;rw[hk]) (by unfold iF.mem;rw[hk]) (by unfold iF.ctr;rw[hk])
 |qv v=>
  rw[hk]at hcan;rw[hguard,hopc]at hcan;obtain⟨h1,q,rfl,h3⟩:=hcan;rw[ae h1];rcases hop with hop|hop
  ·refine ax3 (rd:=rd) (ct:=s.ct) (h.cx hrelE) hop h3 K Q fun E' c' w' hS hG hb=>?_;exact quiet [] E' c' w' v hS hG hb (by unfold iF.val;rw[hk]) (by unfold iF.mem;rw[hk]) (by unfold iF.ctr;rw[hk])
  ·injection hop with hop;subst hop;cases h3
 |qr v b=>
  rw[hk]at hcan;rw[hguard,hopc]at hcan;obtain⟨h1,q,blk,rfl,h3,h4⟩:=hcan;rw[ae h1];have hrelb:ku P E [(b,blk)] .e c w:=by
   refine h.rel.part (fun b blk hb=>by cases hb) (fun b' blk' hb=>?_);rw[dq]at hb;split at hb
   ·rename_i e;have e':b=b':=e;obtain rfl:=ag hb;subst e';rcases h3 with h3|h3
    ·exact .inl ⟨h3,rfl⟩
    ·exact .inr h3.2
   ·cases hb
  rcases hop with hop|hop
  ·refine ax3 (rd:=rd) (ct:=s.ct) (h.cx hrelb) hop h4 K Q fun E' c' w' hS hG hb=>?_;exact quiet _ E' c' w' v hS hG hb (by unfold iF.val;rw[hk]) (by unfold iF.mem;rw[hk]) (by unfold iF.ctr;rw[hk])
  ·injection hop with hop;subst hop;cases h4
 |al v blk=>
  rw[hk]at hcan;rw[hguard,hopc]at hcan;obtain⟨h1,ao,rfl,h3⟩:=hcan;rw[ae h1];rcases hop with hop|hop
  ·have hfree:=h.res l.i hrem;obtain⟨E',w',hr,hS,_,hb⟩:=aH2 (h.cx hrelE) hop hfree.1 (c':=fun b=>c b∨b=base+l.i) (.inr rfl) (fun _ h=> .inl h) h3;have hmn:s.m (base+l.i)=none:=by
    cases hm:s.m (base+l.i)with
    |none=>rfl
    |some y=>exact absurd (h.rel.has _ y (.inl hm)).1 hfree.1
   have hnF:be k.F (base+l.i)=none:=by
    cases hm:be k.F (base+l.i)with
    |none=>rfl
    |some y=>exact absurd (h.rel.has _ y (.inr ⟨hmn,hm⟩)).1 hfree.1
   have hS':=h.rel.step (F1:=[]) (M1:= .e) (M':=Tr.set .e (base+l.i) blk) (fun b blk hb=>by cases hb) (fun b hb=>by
    rw[Tr.get_set];by_cases e:b=base+l.i
    ·rw[e,hnF]at hb;cases hb
    ·rw[ab e];rfl) hS
   rw[DL s.m _ blk hmn]at hS';have hm:l.mem base s.m=kh s.m (base+l.i) blk:=by unfold iF.mem;rw[hk]
   have hc:l.ctr s.ct=s.ct:=by unfold iF.ctr;rw[hk]
   have hv:l.val=v:=by unfold iF.val;rw[hk]
   refine⟨fun _ _=>trivial,?_⟩;rw[Oper.semAt_eq _ _ _ (fJ hop),hr];refine hK E' _ _ w' (by rw[hm];exact hS') (fun b hb=>?_) (by rw[hc];exact ak _) ?_
   ·rcases hb with hb|hb
    ·exact .inl hb
    ·exact .inr (by rw[hb];exact⟨by omega,by rw[hc];exact hfree.2⟩)
   ·rw[hdst,hv,hm,hc];refine h.next hS' (fun b hb hc=>?_) (ak _) (fun i hi=>⟨fun hx=>?_,(h.res i hi.1).2⟩) hd hb
    ·rcases hc with hc|hc
     ·exact h.fr b hb hc
     ·have:=hfree.2;omega
    ·rcases hx with hx|hx
     ·exact(h.res i hi.1).1 hx
     ·exact hi.2 (by omega)
  ·cases hop
 |ef v M1 F1 M' ct ct'=>
  rw[hk]at hcan;rw[hguard,hopc]at hcan;obtain⟨h1,h0,eo,rfl,hef⟩:=hcan;rw[ae h1];rcases hop with hop|hop
  ·have hrel1:ku P E F1 M1 c w:=h.rel.part hef.sub hef.ro;have hfr:gP c ct:=by rw[←h0];exact h.fr
   refine cB4 (rd:=rd) hcall hy (h.cx hrel1) hfr hop hef.run K Q fun E' c' w' hS hG hb=>?_;have hS':=h.rel.step hef.sub hef.new hS;have hm:l.mem base s.m=eK M1 M' s.m:=by unfold iF.mem;rw[hk]
   have hc:l.ctr s.ct=ct':=by unfold iF.ctr;rw[hk]
   have hv:l.val=v:=by unfold iF.val;rw[hk]
   have hle:=h.le;have hGle:=hG.le;refine hK E' c' _ w' (by rw[hm];exact hS') (fun b hb=>?_) (by rw[hc,h0];exact hGle) ?_
   ·rcases hG.new b hb with h2|h2
    ·exact .inl h2
    ·exact .inr (by rw[hc];exact⟨by omega,h2.2⟩)
   ·rw[hdst,hv,hm,hc];refine h.next hS' (hfr.grow hG) (by rw[h0];exact hGle) (fun i hi=>?_) hd hb
    have:=h.res i hi.1;refine⟨fun hx=>?_,by omega⟩;rcases hG.new _ hx with h2|h2
    ·exact this.1 h2
    ·omega
  ·cases hop
theorem zf(ms:List Nat):∀(es:List Edge) (x:Nat),testBit (mask1 ms es) x=true↔ ∃e∈es,Region.binds .any e=true∧(e.on=x∨testBit ((ms[e.on]?).getD 0) x=true):=by
 have key:∀m i,testBit m i=Nat.testBit m i:=by
  intro m i;show Nat.beq (m/2^i%2) 1=Nat.testBit m i;rw[bK,Nat.testBit_eq_decide_div_mod_eq]
 intro es
 induction es with
 |nil=>intro x;rw[key];simp[mask1]
 |cons e r ih=>
  intro x;rw[mask1];cases hb:Region.binds .any e with
  |true=>
   rw[cond_true,key];show Nat.testBit ((2^e.on|||(ms[e.on]?).getD 0)|||mask1 ms r) x=true↔_;rw[Nat.testBit_or,Nat.testBit_or,Bool.or_eq_true,Bool.or_eq_true,←key (mask1 ms r),ih,Nat.testBit_two_pow,←key];constructor
   ·rintro((h|h)|⟨e',h1,h2⟩)
    ·exact⟨e,by simp,hb,.inl (by simpa using h)⟩
    ·exact⟨e,by simp,hb,.inr h⟩
    ·exact⟨e',bN _ h1,h2⟩
   ·rintro⟨e',h1,h2,h3⟩;rcases bv.1 h1 with rfl|h1
    ·rcases h3 with h3|h3
     ·exact .inl (.inl (by simpa using h3))
     ·exact .inl (.inr h3)
    ·exact .inr ⟨e',h1,h2,h3⟩
  |false=>
   rw[cond_false,ih];constructor
   ·rintro⟨e',h1,h2⟩;exact⟨e',bN _ h1,h2⟩
   ·rintro⟨e',h1,h2,h3⟩;rcases bv.1 h1 with rfl|h1
    ·rw[hb]at h2;cases h2
    ·exact⟨e',h1,h2,h3⟩
theorem FD{m n x:Nat}(h:m<2^n)(hx:testBit m x=true):x<n:=by
 have key:testBit m x=Nat.testBit m x:=by
  show Nat.beq (m/2^x%2) 1=Nat.testBit m x;rw[bK,Nat.testBit_eq_decide_div_mod_eq]
 rw[key]at hx
 rcases Nat.lt_or_ge x n with h1|h1
 ·exact h1
 ·have:m<2^x:=Nat.lt_of_lt_of_le h (Nat.pow_le_pow_right (by omega) h1);rw[Nat.testBit_lt_two_pow this]at hx;cases hx
structure aG8(P:Program)(nt:Nat)(ops:Array Oper)(ms:List Nat)(l:iF)(o:Oper):Prop where
 op:ops[l.i]?=some o
 co:yK P nt ops o=some l.co
 mask:l.mask=mask1 ms o.after.toList
 self:testBit l.mask l.i=false
 lt:l.mask<2^ops.size
theorem bA4(hcall:nI P k)(hy:kE P k){ops:Array Oper}{ms:List Nat}(hms:∀(j:Nat) (o:Oper),ops[j]?=some o→ms[j]?=some (mask1 ms o.after.toList)){Q:Exit→Act→World→Prop}{s':SS}:
 ∀(fuel:Nat) (L:List iF) (listed:Array Bool) (E:dj) (c:Nat→Prop) (w:World) (a:Act) (s:SS),L.length≤fuel→tD k base k.F L s s'→L.Pairwise (vo base)→
 SM P Bd k.F rd nt base d E c w a s (fun j=>∃l∈L,l.i=j)→listed.size=ops.size→(∀j,j<ops.size→(listed.getD j true=false↔ ∃l∈L,l.i=j))→
 (∀(j:Nat) (o:Oper),ops[j]?=some o→listed.getD j false=true→ ∀x,testBit (mask1 ms o.after.toList) x=true→listed.getD x false=true)→
 (∀l∈L,∃o,aG8 P nt ops ms l o)→
 (∀E' c' a' w',zP P k.F E s.m c w E' s'.m c' w'→(∀b,c' b→c b∨(base≤b∧b<s'.ct))→s.ct≤s'.ct→SM P Bd k.F rd nt base d E' c' w' a' s' (fun _=>False)→Q .normal a' w')→
 zP P k.F E s.m c w E s.m c w→wpAnyIn (dl E rd) 0 P .any ops Q fuel listed a w:=by
 intro fuel
 induction fuel with
 |zero=>
  intro L listed E c w a s hlen hC hPW hSM hsz hun hdown hlab hQ hrefl;have hL:L=[]:=by cases L<;>simp_all
  subst hL;have hs:s=s':=hC;subst hs;refine⟨?_,?_⟩
  ·rw[List.eq_nil_iff_forall_not_mem];intro j hj;obtain⟨h0,o,ho,_⟩:=mem_ready.1 hj;have hjlt:j<ops.size:=(Array.getElem?_eq_some_iff.1 ho).1;obtain⟨l,hl,_⟩:=(hun j hjlt).1 h0;cases hl
  ·refine hQ E c a w hrefl (fun b hb=> .inl hb) (ak _) ?_;exact{hSM with res:=fun i hi=>hi.elim}
 |succ fuel ih=>
  intro L listed E c w a s hlen hC hPW hSM hsz hun hdown hlab hQ hrefl;refine⟨?_,?_⟩
  ·intro hr;cases L with
   |nil=>
    have hs:s=s':=hC;subst hs;refine hQ E c a w hrefl (fun b hb=> .inl hb) (ak _) ?_;exact{hSM with res:=fun i hi=>hi.elim}
   |cons h r=>
    exfalso;obtain⟨o,hlo⟩:=hlab h (ck ..);have hlt:h.i<ops.size:=(Array.getElem?_eq_some_iff.1 hlo.op).1;have:h.i∈Region.ready .any ops listed:=by
     refine mem_ready.2 ⟨(hun h.i hlt).2 ⟨h,ck ..,rfl⟩,o,hlo.op,fun e he hb=>?_⟩;have htb:testBit h.mask e.on=true:=by
      rw[hlo.mask];exact(zf ms _ _).2 ⟨e,by simpa using he,hb,.inl rfl⟩
     have helt:=FD hlo.lt htb;cases hg:listed.getD e.on false with
     |true=>rfl
     |false=>
      exfalso;have hg':listed.getD e.on true=false:=by
       have h1:e.on<listed.size:=by omega
       simp[Array.getD,h1]at hg⊢;exact hg
      obtain⟨l,hl,hli⟩:=(hun e.on helt).1 hg';rcases bv.1 hl with rfl|hl
      ·rw[←hli,hlo.self]at htb;cases htb
      ·have:=((List.pairwise_cons.1 hPW).1 l hl).1;rw[hli,htb]at this;cases this
    rw[hr]at this;cases this
  ·intro i hi;obtain⟨h0,oi,hoi,hall⟩:=mem_ready.1 hi;have hilt:i<ops.size:=(Array.getElem?_eq_some_iff.1 hoi).1;obtain⟨y,hyL,rfl⟩:=(hun i hilt).1 h0;obtain⟨L1,L2,rfl⟩:=List.append_of_mem hyL;obtain⟨o,hlo⟩:=hlab y hyL;have hoo:o=oi:=by have:=hlo.op;rw[hoi]at this;exact(ag this).symm
   subst hoo
   have hmy:∀x,testBit y.mask x=true→listed.getD x false=true:=by
    intro x hx;rw[hlo.mask]at hx;obtain⟨e,he,hb,hx⟩:=(zf ms _ _).1 hx;have hle:=hall e (by simpa using he) hb;rcases hx with hx|hx
    ·rw[←hx];exact hle
    ·have helt:e.on<ops.size:=by
      rcases Nat.lt_or_ge e.on listed.size with h1|h1
      ·omega
      ·have h2:¬e.on<listed.size:=by omega
       simp[Array.getD,h2]at hle
     have hoe:ops[e.on]?=some ops[e.on]:=Array.getElem?_eq_some_iff.2 ⟨helt,rfl⟩;rw[hms e.on _ hoe]at hx;exact hdown e.on _ hoe hle x hx
   have hpw1:∀x∈L1,vo base x y:=by
    intro x hx;exact(List.pairwise_append.1 hPW).2.2 x hx y (ck ..)
   have hunl:∀x∈L1++y::L2,listed.getD x.i true=false:=by
    intro x hx;obtain⟨ox,hox⟩:=hlab x hx;exact(hun x.i (Array.getElem?_eq_some_iff.1 hox.op).1).2 ⟨x,hx,rfl⟩
   have hap:∀x∈L1,Gs base x y:=by
    intro x hx;rcases(hpw1 x hx).2.2 with hb|hb
    ·exfalso;have h1:=hmy _ hb;have h2:=hunl x (List.mem_append_left _ hx);rcases Nat.lt_or_ge x.i listed.size with h3|h3
     ·simp[Array.getD,h3]at h1 h2;rw[h1]at h2;cases h2
     ·have h4:¬x.i<listed.size:=by omega
      simp[Array.getD,h4]at h1
    ·exact hb
   obtain⟨s1,hT,hC'⟩:=tD.move L1 s hap hC;refine cR4 hcall hy hSM ⟨y,hyL,rfl⟩ hT hlo.op hlo.co fun E' c' a' w' hS hnew hct hSM'=>?_;have hPW':(L1++L2).Pairwise (vo base):=hPW.sublist (List.Sublist.append_left (List.sublist_cons_self ..) _);have hmem:∀x,x∈L1++L2→x∈L1++y::L2:=by
    intro x hx;rcases List.mem_append.1 hx with hx|hx
    ·exact List.mem_append_left _ hx
    ·exact List.mem_append_right _ (bN _ hx)
   have hne:∀x,x∈L1++L2→x.i≠y.i:=by
    intro x hx;rcases List.mem_append.1 hx with hx|hx
    ·exact(hpw1 x hx).2.1
    ·have:=(List.pairwise_cons.1 (List.pairwise_append.1 hPW).2.1).1 x hx;exact fun e=>this.2.1 e.symm
   have hback:∀x,x∈L1++y::L2→x.i≠y.i→x∈L1++L2:=by
    intro x hx hxi;rcases List.mem_append.1 hx with hx|hx
    ·exact List.mem_append_left _ hx
    ·rcases bv.1 hx with rfl|hx
     ·exact absurd rfl hxi
     ·exact List.mem_append_right _ hx
   have hfe:dl E rd=dl E' rd:=(gV hS.ext hSM.rd).symm;rw[hfe];refine ih (L1++L2) (listed.setIfInBounds y.i true) E' c' w' a' s1 ?_ hC' hPW' ?_ (by simpa using hsz) ?_ ?_ (fun l hl=>hlab l (hmem l hl)) ?_ ?_
   ·simp only[aG,aP]at hlen⊢;omega
   ·refine{hSM' with res:=fun j hj=>?_};obtain⟨x,hx,hxj⟩:=hj;exact hSM'.res j ⟨⟨x,hmem x hx,hxj⟩,by rw[←hxj];exact hne x hx⟩
   ·intro j hj;by_cases e:j=y.i
    ·subst e;constructor
     ·intro h;simp[Array.getD,hsz,hilt]at h
     ·rintro⟨x,hx,hxj⟩;exact absurd hxj (hne x hx)
    ·rw[getD_set_ne true (Ne.symm e),hun j hj];constructor
     ·rintro⟨x,hx,hxj⟩;exact⟨x,hback x hx (by rw[hxj];exact e),hxj⟩
     ·rintro⟨x,hx,hxj⟩;exact⟨x,hmem x hx,hxj⟩
   ·intro j oj hoj hl x hx;by_cases e:j=y.i
    ·subst e;have:oj=o:=by rw[hlo.op]at hoj;exact(ag hoj).symm
     subst this;rw[←hlo.mask]at hx;exact getD_set_true (hmy x hx)
    ·rw[getD_set_ne false (Ne.symm e)]at hl;exact getD_set_true (hdown j oj hoj hl x hx)
   ·intro E2 c2 a2 w2 hS2 hnew2 hct2 hSM2;refine hQ E2 c2 a2 w2 (hS.trans hS2) (fun b hb=>?_) (bF hct hct2) hSM2;rcases hnew2 b hb with h1|h1
    ·rcases hnew b h1 with h2|h2
     ·exact .inl h2
     ·exact .inr ⟨h2.1,by omega⟩
    ·exact .inr h1
   ·exact⟨.refl _ _,fun _ h=>h,hS.rel,fun b hb=> .inl ⟨b,hb,rfl⟩,fun _ _ _=>rfl,ak _,rfl,rfl,rfl⟩
end
theorem ED{ops:Array Oper}{cos:List CO}{n:Nat}{l:List (Nat×Nat×CO)}(h:yN ops cos= .dreg n l):
 n=ops.size∧l=pA (Region.before ops).toList cos ops.size 0∧CQ ops.toList (Region.before ops).toList ops.size l=true:=by
 unfold yN Xj at h
 cases hr:CQ ops.toList (Region.before ops).toList ops.size (pA (Region.before ops).toList cos ops.size 0)with
 |false=>rw[hr]at h;cases h
 |true=>
  rw[hr,cond_true]at h;injection h with h1 h2
  subst h1 h2;exact⟨rfl,rfl,hr⟩
theorem yJ(ms:List Nat)(cos:List CO):∀(fuel done:Nat),(pA ms cos fuel done).length≤fuel
 |0,_=>ak _
 |fuel+1,done=>by
  rw[pA];split
  ·rw[aP];have:=yJ ms cos fuel;exact Nat.succ_le_succ (this _)
  ·simp
theorem sK(ms:List Nat)(cos:List CO):∀(fuel done:Nat) (i m:Nat) (o:CO),(i,m,o)∈pA ms cos fuel done→cos[i]?=some o∧ms[i]?=some m
 |0,_,_,_,_,h=>by cases h
 |fuel+1,done,i,m,o,h=>by
  rw[pA]at h;split at h
  ·rename_i o' m' i' hpick;rcases bv.1 h with h|h
   ·injection h with h1 h2;injection h2 with h2 h3
    subst h1 h2 h3;have hmem:((o,m),i)∈(cos.zip ms).zipIdx:=by
     split at hpick
     ·rename_i r hr;obtain rfl:=ag hpick;exact(List.mem_filter.1 (List.mem_of_find?_eq_some hr)).1
     ·exact(List.mem_filter.1 (List.mem_of_mem_head? hpick)).1
    have h1:=List.mem_zipIdx_iff_getElem?.1 hmem;have h2:(cos.zip ms)[i]?=some (o,m):=h1;rw[List.getElem?_zip_eq_some]at h2;exact h2
   ·exact sK ms cos fuel _ i m o h
  ·cases h
theorem vV{P:Program}{nt:Nat}{ops:Array Oper}:∀(l:List Oper) (cos:List CO),nO P nt ops l=some cos→ ∀(i:Nat) (co:CO),cos[i]?=some co→ ∃o,l[i]?=some o∧yK P nt ops o=some co
 |[],cos,h,i,co,hi=>by
  obtain rfl:=ag h;cases hi
 |o::l,cos,h,i,co,hi=>by
  rw[nO]at h;split at h
  ·rename_i c r h1 h2;obtain rfl:=ag h;cases i with
   |zero=>exact⟨o,rfl,by simp at hi;rw[←hi];exact h1⟩
   |succ i=>exact vV l r h2 i co (by simpa using hi)
  ·cases h
theorem nP{ms:List Nat}{n:Nat}{ops:List Oper}:∀{l:List (Nat×Nat×CO)},uS ms n ops l=true→ ∀x∈l,Af ms n ops x=true
 |[],_,_,h=>by cases h
 |z::r,h,y,hy=>by
  simp only[uS,aC]at h;rcases bv.1 hy with rfl|hy
  ·exact h.1
  ·exact nP h.2 y hy
theorem tQ{ms:List Nat}{n:Nat}{ops:List Oper}{x:Nat×Nat×CO}(h:Af ms n ops x=true):∃o,ops[x.1]?=some o∧x.2.1=mask1 ms o.after.toList∧testBit x.2.1 x.1=false∧x.2.1<2^n:=by
 unfold Af at h
 split at h
 ·cases h
 ·rename_i o ho;rw[bK,eT]at h;simp only[aC,Bool.not_eq_true',decide_eq_true_eq]at h;exact⟨o,ho,h.1,h.2.1,h.2.2⟩
theorem qm{i:Nat}:∀{l:List (Nat×Nat×CO)},wv i l=true→ ∃m o,(i,m,o)∈l
 |[],h=>by cases h
 |(j,m,o)::r,h=>by
  rw[wv,bK]at h;by_cases e:j=i
  ·exact⟨m,o,by rw[e];simp⟩
  ·simp[e]at h;obtain⟨m',o',h'⟩:=qm h;exact⟨m',o',bN _ h'⟩
theorem mj{l:List (Nat×Nat×CO)}:∀{n:Nat},rq l n=true→ ∀i,i<n→wv i l=true
 |0,_,_,h=>by omega
 |n+1,h,i,hi=>by
  simp only[rq,aC]at h;by_cases e:i=n
  ·rw[e];exact h.1
  ·exact mj h.2 i (by omega)
theorem aq2{P:Program}(hm:P.follows .mixedOrders=true){k:Kn}(hcall:nI P k)(hy:kE P k):bz5 P k:=by
 intro F rd nt id ops cos hcos n l hd t d M ct e t' d' M' ct' hx Bd E c w a h Q hQ
 obtain⟨rfl,hl,hreg⟩:=ED hd
 unfold CQ at hreg
 rw[aC,aC]at hreg
 obtain⟨hel,hcov,hpairs⟩:=hreg
 have hx':vX d (jD (sY k F) ct l (.mk t M (ct+ops.size) [] []))= .k e (.mk t' d' M' ct'):=by
  have:fN (Nat.add ct ops.size) (fun c'=>vX d (jD (sY k F) ct l (.mk t M c' [] [])))= .k e (.mk t' d' M' ct'):=hx
  rwa [b9]at this
 cases hdo:jD (sY k F) ct l (.mk t M (ct+ops.size) [] [])with
 |none=>rw[hdo]at hx';cases hx'
 |some ds=>
  obtain⟨t2,M2,c2,p2,r2⟩:=ds;rw[hdo,vX,Tr.force_eq]at hx';injection hx' with g1 g2;injection g2 with g2 g3 g4 g5
  subst g1 g2 g3 g4 g5;have hkF:(sY k F).F=F:=XS k F;have hI0:Ds ct (sY k F).F M []:=⟨fun _ _ _ h=>(by cases h),.nil,fun _ _ _ h=>(by cases h)⟩
  obtain⟨L,hL,hC,hPW,hI,_⟩:=vY l t M (ct+ops.size) [] [] t2 M2 c2 p2 r2 hdo hpairs hI0 (fun q hq=>by cases hq);have hLl:∀x∈L,x.trip∈l:=fun x hx=>by rw[←hL];exact List.mem_map_of_mem hx
  have hlab:∀x∈L,∃o,aG8 P nt ops (Region.before ops).toList x o:=by
   intro x hx;have hm1:=hLl x hx;obtain⟨o,ho,hmask,hself,hlt⟩:=tQ (nP hel _ hm1);have hcm:=sK _ _ _ _ _ _ _ (by rw[←hl];exact hm1);obtain⟨o2,ho2,hco⟩:=vV _ _ hcos x.i x.co hcm.1;have:o2=o:=by rw[show ops.toList[x.i]?=some o from ho]at ho2;exact(ag ho2).symm
   subst this;have ho3:ops.toList[x.i]?=some o2:=ho;exact⟨o2,by simpa using ho3,hco,hmask,hself,hlt⟩
  have hms:∀(j:Nat) (o:Oper),ops[j]?=some o→(Region.before ops).toList[j]?=some (mask1 (Region.before ops).toList o.after.toList):=by
   intro j o hj;obtain⟨m,co,hmem⟩:=qm (mj hcov j (Array.getElem?_eq_some_iff.1 hj).1);obtain⟨o2,ho2,hmask,_,_⟩:=tQ (nP hel _ hmem);have hcm:=sK _ _ _ _ _ _ _ (by rw[←hl];exact hmem);have:o2=o:=by
    have h1:ops.toList[j]?=some o2:=ho2;have h2:ops.toList[j]?=some o:=by simpa using hj
    rw[h1]at h2;exact ag h2
   subst this;rw[hcm.2];exact congrArg some hmask
  have hidx:∀j,(∃x∈L,x.i=j)↔j<ops.size:=by
   intro j;constructor
   ·rintro⟨x,hx,rfl⟩;obtain⟨o,ho⟩:=hlab x hx;exact(Array.getElem?_eq_some_iff.1 ho.op).1
   ·intro hj;obtain⟨m,co,hmem⟩:=qm (mj hcov j hj);rw[←hL]at hmem;obtain⟨x,hx,hxe⟩:=List.mem_map.1 hmem;exact⟨x,hx,by injection hxe⟩
  have hlen:L.length≤ops.size:=by
   have:L.length=l.length:=by rw[←hL];simp
   rw[this,hl];exact yJ _ _ _ _
  refine wpIn_region_any hm ?_;have hmem0:∀b,(tn t M (ct+ops.size) []).m b=M.get b:=fun b=>rfl;have hrel0:vr P E F (tn t M (ct+ops.size) []).m c {w with drawn:=w.drawn+1}:=vr.of (h.cx.rel.world (w':={w with drawn:=w.drawn+1}) rfl) hmem0
  have hSM:SM P Bd (sY k F).F rd nt ct d E c {w with drawn:=w.drawn+1} a (tn t M (ct+ops.size) []) (fun j=>∃x∈L,x.i=j):=by
   rw[hkF];refine⟨hrel0,h.cx.glob,h.cx.big,h.cx.tr,h.cx.bt,fun b hb=>h.fr b ?_,Nat.le_add_right _ _,fun i hi=>?_,h.df,h.dc,h.sz,h.rd⟩
   ·have:ct+ops.size≤b:=hb;omega
   ·have h1:=(hidx i).1 hi;exact⟨h.fr _ (Nat.le_add_right _ _),by show ct+i<ct+ops.size;omega⟩
  have hcall':nI P (sY k F):=by
   intro F' f args M ct v M' ct' hc;exact hcall F' f args M ct v M' ct' (by cases k;exact hc)
  have hy':kE P (sY k F):=by
   intro F' l args M ct v M' ct' hc;exact hy F' l args M ct v M' ct' (by cases k;exact hc)
  refine bA4 hcall' hy' hms ops.size L (Array.replicate ops.size false) E c _ a _ hlen hC hPW hSM (by simp) ?_ ?_ hlab ?_ ?_
  ·intro j hj;rw[hidx j];simp[Array.getD,hj]
  ·intro j o hj hl';exfalso;have hjs:=(Array.getElem?_eq_some_iff.1 hj).1;simp[Array.getD,hjs]at hl'
  ·intro E' c' a' w' hS hnew hct hSM';rw[hkF]at hS hSM';refine hQ a' w' ⟨E',c',?_,?_,?_⟩
   ·have hfin:∀b,(tn t2 M2 c2 p2).m b=(dQ p2 M2).get b:=fun b=>(l7 p2 M2 hI.nd b).symm;refine⟨hS.ext,hS.le,ku.ofM hS.rel hfin,?_,?_,hS.size,hS.os,hS.output,hS.tape⟩
    ·intro b hb;rcases hS.own b (by rw[hfin b];intro e;rw[e]at hb;cases hb)with⟨b0,h0,e0⟩|h0
     ·refine .inl ⟨b0,?_,e0⟩;have h1:M.get b0≠none:=h0;cases hM:M.get b0 with
      |none=>exact absurd hM h1
      |some _=>rfl
     ·exact .inr h0
    ·intro r hr hn;refine hS.frame r hr fun b hb=>hn b ?_;have h1:M.get b≠none:=hb;cases hM:M.get b with
     |none=>exact absurd hM h1
     |some _=>rfl
   ·refine⟨?_,hnew⟩;have:ct+ops.size≤c2:=hct;omega
   ·have hfin:∀b,(tn t2 M2 c2 p2).m b=(dQ p2 M2).get b:=fun b=>(l7 p2 M2 hI.nd b).symm;exact⟨⟨ku.ofM hS.rel hfin,hSM'.glob,hSM'.big,hSM'.tr,hSM'.bt⟩,hSM'.fr,hSM'.df,hSM'.dc,hSM'.sz,hSM'.rd⟩
  ·rw[hkF];exact⟨.refl _ _,fun _ h=>h,hrel0,fun b hb=> .inl ⟨b,hb,rfl⟩,fun _ _ _=>rfl,ak _,rfl,rfl,rfl⟩
theorem we{P:Program}(hm:P.follows .mixedOrders=true){Φ:Nat→Option CF}(hΦ:fo P Φ)(n:Nat):BF P (exec Φ n):=
 (ar6 hΦ (fun ex hex rd fn F=>aq2 hm (iL hΦ hex rd fn F) (xW hex rd fn F)) n).1
def E0:dj:=⟨fun b=>b,fun _=>0,fun _=>0⟩
def c0(b:Nat):Prop:=b<1000
def isT:RC→Bool
 | .k (.b true) _ _=>true
 |_=>false
theorem XN{r:RC}(h:isT r=true):∃M c,r= .k (.b true) M c:=by
 unfold isT at h
 split at h
 ·exact⟨_,_,rfl⟩
 ·cases h
theorem au1{P:Program}{F:RO}{E E':dj}{c c':Nat→Prop}{w w':World}{M':Mem}(h:mY P F E .e c w E' M' c' w')(may:MemPlace→Prop):w.keptBut w' may:=by
 refine⟨h.os,h.output,fun i hi=>?_⟩
 have e:w'.heap[i]?=w.heap[i]?:=h.frame i hi (fun b hb=>by cases hb)
 rw[e]
 cases w.heap[i]? with
 |none=>rfl
 |some o=>
  cases o with
  |cells a t fr=>exact⟨rfl,rfl,rfl,fun _ _=>rfl⟩
  |map es cl=>exact .inr ⟨rfl,rfl⟩
  |_=>rfl
def qW(p:Nat→CF→Prop):Tr CF→Prop
 | .e=>True
 | .n l v r=>(match v with|none=>True|some c=>p 0 c)∧qW (fun j=>p (2*j+1)) l∧qW (fun j=>p (2*j+2)) r
theorem qW.get:∀(t:Tr CF) (p:Nat→CF→Prop),qW p t→ ∀k c,t.get k=some c→p k c
 | .e,p,_,k,c,h=>by cases h
 | .n l v r,p,ht,k,c,h=>by
   rw[Tr.get_n]at h;obtain⟨h0,h1,h2⟩:=ht;by_cases e:k=0
   ·rw[ae e]at h;subst e;rw[h]at h0;exact h0
   ·rw[ab e]at h;by_cases e2:k%2=0
    ·rw[ae e2]at h;have:=qW.get r _ h2 _ _ h;rw[show 2*(k/2-1)+2=k by omega]at this;exact this
    ·rw[ab e2]at h;have:=qW.get l _ h1 _ _ h;rw[show 2*(k/2)+1=k by omega]at this;exact this
abbrev cZ(P:Program)(k:Nat)(cf:CF):Prop:=cg4 P k cf
theorem Yq{P:Program}{t:Tr CF}(h:qW (cZ P) t):fo P (fun k=>t.get k):=fun k c hk=>qW.get t _ h k c hk
def LR(a b:Rs):Prop:=a= .f∨a=b
def LC(a b:RC):Prop:=a= .f∨a=b
def LO{α:Type}(a b:Option α):Prop:=a=none∨a=b
def kA(ex ex':y5):Prop:=∀rd fn F c s,LR (ex rd fn F c s) (ex' rd fn F c s)
section
variable{Φ:Nat→Option CF}{ex ex':y5}{rd:Option Nat}{fn:Nat}{F:RO}
theorem WZ(h:kA ex ex')(F:RO)(f:Nat)(args:List V)(M:Mem)(c:Nat)(o:Option CF):LC (eX ex F f args M c o) (eX ex' F f args M c o):=by
 cases o with
 |none=>exact .inl rfl
 |some cf=>
  cases cf with
  |orc g=>exact .inr rfl
  |mk n res body=>
   show LC (nT res F (ex none f F body (.mk (aU n args) [] M c))) (nT res F (ex' none f F body (.mk (aU n args) [] M c)));rcases h none f F body (.mk (aU n args) [] M c)with e|e
   ·rw[e];exact .inl rfl
   ·rw[e];exact .inr rfl
theorem vQ(h:kA ex ex')(f:Nat)(args:List V)(M:Mem)(c:Nat):LC (n9 (.mk Φ ex rd fn F) f args M c) (n9 (.mk Φ ex' rd fn F) f args M c):=WZ h F f args M c _
theorem NC(h:kA ex ex')(l fn':Nat)(body:CC)(t:T)(M:Mem)(c:Nat)(lp:Lp):LC (qN (.mk Φ ex rd fn F) l fn' body t M c lp) (qN (.mk Φ ex' rd fn F) l fn' body t M c lp):=by
 cases lp with
 |f=>exact .inl rfl
 |k s pe fn2 tm ps a b d=>
  cases s with
  |ready=>
   show LC ((M.set l (.loop .busy pe fn2 tm ps a b d)).force fun M=>lg l (ex (some l) fn' F body (.mk t [] M c))) ((M.set l (.loop .busy pe fn2 tm ps a b d)).force fun M=>lg l (ex' (some l) fn' F body (.mk t [] M c)));rw[Tr.force_eq,Tr.force_eq];rcases h (some l) fn' F body (.mk t [] (M.set l (.loop .busy pe fn2 tm ps a b d)) c)with e|e
   ·rw[e];exact .inl rfl
   ·rw[e];exact .inr rfl
  |_=>exact .inl rfl
theorem aa9(h:kA ex ex')(l fn':Nat)(body:CC)(r:Rs):LC (nv (.mk Φ ex rd fn F) l fn' body r) (nv (.mk Φ ex' rd fn F) l fn' body r):=by
 cases r with
 |f=>exact .inl rfl
 |k e s=>
  cases e with
  |nrm=>
   obtain⟨t,d,M,c⟩:=s;cases d with
   |nil=>exact NC (Φ:=Φ) (rd:=rd) (fn:=fn) h l fn' body t M c _
   |cons _ _=>exact .inl rfl
  |_=>exact .inl rfl
theorem aD5(h:kA ex ex')(l fn':Nat)(asg body:CC)(M:Mem)(c:Nat)(o:Option T):LC (Df (.mk Φ ex rd fn F) l fn' asg body M c o) (Df (.mk Φ ex' rd fn F) l fn' asg body M c o):=by
 cases o with
 |none=>exact .inl rfl
 |some t=>
  show LC (nv (.mk Φ ex rd fn F) l fn' body (ex (some l) fn' F asg (.mk t [] M c))) (nv (.mk Φ ex' rd fn F) l fn' body (ex' (some l) fn' F asg (.mk t [] M c)));rcases h (some l) fn' F asg (.mk t [] M c)with e|e
  ·rw[e];exact .inl rfl
  ·rw[e];exact aa9 h l fn' body _
theorem X5(h:kA ex ex')(l:Nat)(args:List V)(M:Mem)(c:Nat)(lp:Lp):LC (rk (.mk Φ ex rd fn F) l args M c lp) (rk (.mk Φ ex' rd fn F) l args M c lp):=by
 cases lp with
 |f=>exact .inl rfl
 |k s pe fn2 tm ps a b d=>
  cases s with
  |ready=>exact aD5 h l fn2 a b M c _
  |_=>exact .inl rfl
theorem X3(h:kA ex ex')(v:V)(args:List V)(M:Mem)(c:Nat):LC (nb (.mk Φ ex rd fn F) v args M c) (nb (.mk Φ ex' rd fn F) v args M c):=by
 cases v with
 |f g a b=>exact vQ (Φ:=Φ) (rd:=rd) (fn:=fn) h g _ M c
 |y l=>exact X5 h l args M c _
 |_=>exact .inl rfl
theorem X0(h:kA ex ex')(v:V)(args:List V)(M:Mem)(c:Nat):LC (jt (.mk Φ ex rd fn F) v args M c) (jt (.mk Φ ex' rd fn F) v args M c):=by
 cases v with
 |f g a b=>exact vQ (Φ:=Φ) (rd:=rd) (fn:=fn) h g _ M c
 |_=>exact .inl rfl
theorem Xg(h:kA ex ex')(o:EO)(M:Mem)(c:Nat)(t:T):LC (iV o (.mk Φ ex rd fn F) M c t) (iV o (.mk Φ ex' rd fn F) M c t):=by
 cases o with
 |call f as0=>exact vQ (Φ:=Φ) (rd:=rd) (fn:=fn) h f _ M c
 |cv f as0=>exact X3 h _ _ M c
 |_=>exact .inr rfl
theorem Z3(h:kA ex ex')(o:OK)(dst:Option aM)(t:T)(d:List Nat)(M:Mem)(c:Nat):LO (sop o (.mk Φ ex rd fn F) dst t d M c) (sop o (.mk Φ ex' rd fn F) dst t d M c):=by
 cases o with
 |q o=>exact .inr rfl
 |a o=>exact .inr rfl
 |e o=>
  show LO (yt dst t d (iV o (.mk Φ ex rd fn F) M c t)) (yt dst t d (iV o (.mk Φ ex' rd fn F) M c t));rcases Xg (Φ:=Φ) (rd:=rd) (fn:=fn) (F:=F) h o M c t with e|e
  ·rw[e];exact .inl rfl
  ·rw[e];exact .inr rfl
theorem YN(h:kA ex ex')(o:CO)(s:St):LO (eC o (.mk Φ ex rd fn F) s) (eC o (.mk Φ ex' rd fn F) s):=by
 obtain⟨dst,op,g⟩:=o
 obtain⟨t,d,M,c⟩:=s
 cases g with
 |none=>exact Z3 h op dst t d M c
 |some g=>
  show LO (s_w op (.mk Φ ex rd fn F) dst t d M c (wanted t (some g))) (s_w op (.mk Φ ex' rd fn F) dst t d M c (wanted t (some g)));cases wanted t (some g)with
  |false=>exact .inr rfl
  |true=>exact Z3 h op dst t d M c
theorem zx(h:kA ex ex'):∀(ops:List CO) (s:St),LO (dJ ops (.mk Φ ex rd fn F) s) (dJ ops (.mk Φ ex' rd fn F) s)
 |[],s=> .inr rfl
 |o::r,s=>by
  show LO (mN (dJ r) (.mk Φ ex rd fn F) (eC o (.mk Φ ex rd fn F) s)) (mN (dJ r) (.mk Φ ex' rd fn F) (eC o (.mk Φ ex' rd fn F) s));rcases YN (Φ:=Φ) (rd:=rd) (fn:=fn) (F:=F) h o s with e|e
  ·rw[e];exact .inl rfl
  ·rw[e];cases eC o (.mk Φ ex' rd fn F) s with
   |none=>exact .inl rfl
   |some s1=>exact zx h r s1
theorem ap7(h:kA ex ex')(e:EO)(dst:Option aM)(t:T)(c:Nat)(pend:List (Nat×Nat×bL))(reads:List (Nat×Nat))(p:Pr):
 LO (sO e (.mk Φ ex rd fn F) dst t c pend reads p) (sO e (.mk Φ ex' rd fn F) dst t c pend reads p):=by
 obtain⟨F',M,saved⟩:=p
 show LO (bif cU F' M pend then nD F' dst t pend reads saved (iV e (.mk Φ ex rd fn F') M c t)else none) (bif cU F' M pend then nD F' dst t pend reads saved (iV e (.mk Φ ex' rd fn F') M c t)else none)
 cases cU F' M pend with
 |false=>exact .inl rfl
 |true=>
  rcases Xg (Φ:=Φ) (rd:=rd) (fn:=fn) (F:=F') h e M c t with e|e
  ·rw[e];exact .inl rfl
  ·rw[e];exact .inr rfl
theorem bG0(h:kA ex ex')(base:Nat)(x:Nat×Nat×CO)(s:DS):LO (ut (.mk Φ ex rd fn F) base x s) (ut (.mk Φ ex' rd fn F) base x s):=by
 obtain⟨i,mask,dst,op,g⟩:=x
 obtain⟨t,M,c,pend,reads⟩:=s
 show LO (bif wanted t g then Xe (.mk Φ ex rd fn F) base i mask dst op t M c pend reads else _) (bif wanted t g then Xe (.mk Φ ex' rd fn F) base i mask dst op t M c pend reads else _)
 cases wanted t g with
 |false=>exact .inr rfl
 |true=>
  cases op with
  |q o=>exact .inr rfl
  |a o=>exact .inr rfl
  |e o=>
   show LO (Ad o (.mk Φ ex rd fn F) mask dst t c reads (hU mask pend M)) (Ad o (.mk Φ ex' rd fn F) mask dst t c reads (hU mask pend M));obtain⟨M1,p1⟩:=hU mask pend M;exact ap7 h o dst t c p1 reads _
theorem Ji(h:kA ex ex')(base:Nat):∀(ops:List (Nat×Nat×CO)) (s:DS),LO (jD (.mk Φ ex rd fn F) base ops s) (jD (.mk Φ ex' rd fn F) base ops s)
 |[],s=> .inr rfl
 |o::r,s=>by
  rw[jD,jD];rcases bG0 (Φ:=Φ) (rd:=rd) (fn:=fn) (F:=F) h base o s with e|e
  ·rw[e];exact .inl rfl
  ·rw[e];cases ut (.mk Φ ex' rd fn F) base o s with
   |none=>exact .inl rfl
   |some s1=>exact Ji h base r s1
theorem BQ(h:kA ex ex')(c:CC)(s:St):LR (nM (.mk Φ ex rd fn F) c s) (nM (.mk Φ ex' rd fn F) c s):=h rd fn F c s
theorem Kl(h:kA ex ex')(f:X)(ps:List aM)(asg body:CC)(t:T)(d:List Nat)(M:Mem)(l dn:Nat):LR (og f ps asg body (.mk Φ ex rd fn F) t d M l dn) (og f ps asg body (.mk Φ ex' rd fn F) t d M l dn):=by
 show LR ((M.set l (.loop .ready .none fn t ps asg body dn)).force fun M=>fN (Nat.succ l) fun c=>lb t d l (jt (.mk Φ ex rd fn F) (f.ev t) [.y l] M c)) ((M.set l (.loop .ready .none fn t ps asg body dn)).force fun M=>fN (Nat.succ l) fun c=>lb t d l (jt (.mk Φ ex' rd fn F) (f.ev t) [.y l] M c))
 rw[Tr.force_eq,Tr.force_eq,b9,b9]
 rcases X0 (Φ:=Φ) (rd:=rd) (fn:=fn) (F:=F) h (f.ev t) [.y l] (M.set l (.loop .ready .none fn t ps asg body dn)) (Nat.succ l)with e|e
 ·rw[e];exact .inl rfl
 ·rw[e];exact .inr rfl
theorem ay4(h:kA ex ex')(f:X)(ps:List aM)(asg body:CC)(t:T)(d:List Nat)(M:Mem)(l:Nat)(lp:Lp):LR (Nc f ps asg body (.mk Φ ex rd fn F) t d M l lp) (Nc f ps asg body (.mk Φ ex' rd fn F) t d M l lp):=by
 cases lp with
 |f=>exact .inl rfl
 |k s pe fn2 tm ps' a b dn=>exact Kl h f ps asg body t d M l dn
theorem Cf(h:kA ex ex'):∀(c:CC) (s:St),LR (bh c (.mk Φ ex rd fn F) s) (bh c (.mk Φ ex' rd fn F) s):=by
 intro c
 induction c with
 |skip=>exact fun s=> .inr rfl
 |reg ops=>
  intro s;show LR (rU (dJ ops (.mk Φ ex rd fn F) s)) (rU (dJ ops (.mk Φ ex' rd fn F) s));rcases zx (Φ:=Φ) (rd:=rd) (fn:=fn) (F:=F) h ops s with e|e
  ·rw[e];exact .inl rfl
  ·rw[e];exact .inr rfl
 |dreg n ops=>
  intro s;obtain⟨t,d,M,c⟩:=s;show LR (fN (Nat.add c n) fun c'=>vX d (jD (.mk Φ ex rd fn F) c ops (.mk t M c' [] []))) (fN (Nat.add c n) fun c'=>vX d (jD (.mk Φ ex' rd fn F) c ops (.mk t M c' [] [])));rw[b9,b9];rcases Ji (Φ:=Φ) (rd:=rd) (fn:=fn) (F:=F) h c ops (.mk t M (Nat.add c n) [] [])with e|e
  ·rw[e];exact .inl rfl
  ·rw[e];exact .inr rfl
 |seq a b iha ihb=>
  intro s;show LR (lP (bh b) (.mk Φ ex rd fn F) (bh a (.mk Φ ex rd fn F) s)) (lP (bh b) (.mk Φ ex' rd fn F) (bh a (.mk Φ ex' rd fn F) s));rcases iha s with e|e
  ·rw[e];exact .inl rfl
  ·rw[e];cases bh a (.mk Φ ex' rd fn F) s with
   |f=>exact .inl rfl
   |k e s1=>
    cases e with
    |nrm=>exact ihb s1
    |_=>exact .inr rfl
 |cond x a b iha ihb=>
  intro s;show LR (iK x a b (bh a) (bh b) (.mk Φ ex rd fn F) s) (iK x a b (bh a) (bh b) (.mk Φ ex' rd fn F) s);unfold iK;cases x.ev (stT s)with
  |b v=>
   cases v with
   |true=>exact iha s
   |false=>exact ihb s
  |_=>exact .inl rfl
 |block id b ih=>
  intro s;show LR (fY id (bh b (.mk Φ ex rd fn F) s)) (fY id (bh b (.mk Φ ex' rd fn F) s));rcases ih s with e|e
  ·rw[e];exact .inl rfl
  ·rw[e];exact .inr rfl
 |loop b ih=>
  intro s;show LR (ir b (.mk Φ ex rd fn F) (bh b (.mk Φ ex rd fn F) s)) (ir b (.mk Φ ex' rd fn F) (bh b (.mk Φ ex' rd fn F) s));rcases ih s with e|e
  ·rw[e];exact .inl rfl
  ·rw[e];cases bh b (.mk Φ ex' rd fn F) s with
   |f=>exact .inl rfl
   |k e s1=>
    cases e with
    |nrm=>exact BQ (Φ:=Φ) h _ s1
    |_=>exact .inr rfl
 |rf f ps a b _ _=>
  intro s;obtain⟨t,d,M,c⟩:=s;cases rd with
  |some l=>exact ay4 h f ps a b t d M c _
  |none=>
   show LR ((M.set c (.defs false)).force fun M=>fN (Nat.succ c) fun c'=>og f ps a b (.mk Φ ex none fn F) t (c::d) M c' c) ((M.set c (.defs false)).force fun M=>fN (Nat.succ c) fun c'=>og f ps a b (.mk Φ ex' none fn F) t (c::d) M c' c);rw[Tr.force_eq,Tr.force_eq,b9,b9];exact Kl h f ps a b t (c::d) _ _ c
 |exit id=>exact fun s=> .inr rfl
 |scope b tbl ihb _=>
  intro s;show LR (jI tbl (.mk Φ ex rd fn F) (bh b (.mk Φ ex rd fn F) s)) (jI tbl (.mk Φ ex' rd fn F) (bh b (.mk Φ ex' rd fn F) s));rcases ihb s with e|e
  ·rw[e];exact .inl rfl
  ·rw[e];cases bh b (.mk Φ ex' rd fn F) s with
   |f=>exact .inl rfl
   |k e s1=>
    cases e with
    |gto l=>
     show LR (tj tbl (.mk Φ ex rd fn F) s1 (kO l tbl)) (tj tbl (.mk Φ ex' rd fn F) s1 (kO l tbl));cases kO l tbl with
     |none=>exact .inl rfl
     |some c=>exact BQ (Φ:=Φ) h _ s1
    |_=>exact .inr rfl
 |tab l c r _ _=>exact fun s=> .inr rfl
 |goto l=>exact fun s=> .inr rfl
 |ret=>exact fun s=> .inr rfl
 |bad=>exact fun s=> .inr rfl
end
theorem Jq(Φ:Nat→Option CF):∀(n:Nat),kA (exec Φ n) (exec Φ (n+1))
 |0=>fun rd fn F c s=> .inl rfl
 |n+1=>fun rd fn F c s=>Cf (Jq Φ n) c s
theorem sT(Φ:Nat→Option CF){n:Nat}(m:Nat):kA (exec Φ n) (exec Φ (n+m)):=by
 induction m with
 |zero=>exact fun rd fn F c s=> .inr rfl
 |succ m ih=>
  intro rd fn F c s;rcases ih rd fn F c s with h|h
  ·exact .inl h
  ·rcases Jq Φ (n+m) rd fn F c s with h2|h2
   ·exact .inl (h.trans h2)
   ·exact .inr (h.trans h2)
def VR(a:Nat→Rs)(b:Rs):Prop:=b= .f∨ ∃n,∀m,n≤m→a m=b
def VC(a:Nat→RC)(b:RC):Prop:=b= .f∨ ∃n,∀m,n≤m→a m=b
def VO{α:Type}(a:Nat→Option α)(b:Option α):Prop:=b=none∨ ∃n,∀m,n≤m→a m=b
def yD(ex:Nat→y5)(ex':y5):Prop:=∀rd fn F c s,VR (fun m=>ex m rd fn F c s) (ex' rd fn F c s)
section
variable{Φ:Nat→Option CF}{ex:Nat→y5}{ex':y5}{rd:Option Nat}{fn:Nat}{F:RO}
theorem ao7(h:yD ex ex')(F:RO)(f:Nat)(args:List V)(M:Mem)(c:Nat)(o:Option CF):VC (fun m=>eX (ex m) F f args M c o) (eX ex' F f args M c o):=by
 cases o with
 |none=>exact .inl rfl
 |some cf=>
  cases cf with
  |orc g=>exact .inr ⟨0,fun m hm=>rfl⟩
  |mk n res body=>
   show VC (fun m=>nT res F (ex m none f F body (.mk (aU n args) [] M c))) (nT res F (ex' none f F body (.mk (aU n args) [] M c)));rcases h none f F body (.mk (aU n args) [] M c)with e|⟨n,e⟩
   ·rw[e];exact .inl rfl
   ·exact .inr ⟨n,fun m hm=>congrArg (nT res F) (e m hm)⟩
theorem Ac(h:yD ex ex')(f:Nat)(args:List V)(M:Mem)(c:Nat):VC (fun m=>n9 (.mk Φ (ex m) rd fn F) f args M c) (n9 (.mk Φ ex' rd fn F) f args M c):=ao7 h F f args M c _
theorem ab0(h:yD ex ex')(l fn':Nat)(body:CC)(t:T)(M:Mem)(c:Nat)(lp:Lp):VC (fun m=>qN (.mk Φ (ex m) rd fn F) l fn' body t M c lp) (qN (.mk Φ ex' rd fn F) l fn' body t M c lp):=by
 cases lp with
 |f=>exact .inl rfl
 |k s pe fn2 tm ps a b d=>
  cases s with
  |ready=>
   show VC (fun m=>(M.set l (.loop .busy pe fn2 tm ps a b d)).force fun M=>lg l (ex m (some l) fn' F body (.mk t [] M c))) ((M.set l (.loop .busy pe fn2 tm ps a b d)).force fun M=>lg l (ex' (some l) fn' F body (.mk t [] M c)));simp only[Tr.force_eq];rcases h (some l) fn' F body (.mk t [] (M.set l (.loop .busy pe fn2 tm ps a b d)) c)with e|⟨n,e⟩
   ·rw[e];exact .inl rfl
   ·exact .inr ⟨n,fun m hm=>congrArg (lg l) (e m hm)⟩
  |_=>exact .inl rfl
theorem aD4(h:yD ex ex')(l fn':Nat)(body:CC)(r:Rs):VC (fun m=>nv (.mk Φ (ex m) rd fn F) l fn' body r) (nv (.mk Φ ex' rd fn F) l fn' body r):=by
 cases r with
 |f=>exact .inl rfl
 |k e s=>
  cases e with
  |nrm=>
   obtain⟨t,d,M,c⟩:=s;cases d with
   |nil=>exact ab0 (Φ:=Φ) (rd:=rd) (fn:=fn) h l fn' body t M c _
   |cons _ _=>exact .inl rfl
  |_=>exact .inl rfl
theorem cd1(h:yD ex ex')(l fn':Nat)(asg body:CC)(M:Mem)(c:Nat)(o:Option T):VC (fun m=>Df (.mk Φ (ex m) rd fn F) l fn' asg body M c o) (Df (.mk Φ ex' rd fn F) l fn' asg body M c o):=by
 cases o with
 |none=>exact .inl rfl
 |some t=>
  show VC (fun m=>nv (.mk Φ (ex m) rd fn F) l fn' body (ex m (some l) fn' F asg (.mk t [] M c))) (nv (.mk Φ ex' rd fn F) l fn' body (ex' (some l) fn' F asg (.mk t [] M c)));rcases h (some l) fn' F asg (.mk t [] M c)with e|⟨n,e⟩
  ·rw[e];exact .inl rfl
  ·rcases aD4 (Φ:=Φ) (rd:=rd) (fn:=fn) (F:=F) h l fn' body (ex' (some l) fn' F asg (.mk t [] M c))with e2|⟨n2,e2⟩
   ·exact .inl e2
   ·exact .inr ⟨max n n2,fun m hm=>by
     have h1:=e m (bF (Nat.le_max_left _ _) hm);have h2:=e2 m (bF (Nat.le_max_right _ _) hm);simp only at h1 h2⊢;rw[h1,h2]⟩
theorem ap2(h:yD ex ex')(l:Nat)(args:List V)(M:Mem)(c:Nat)(lp:Lp):VC (fun m=>rk (.mk Φ (ex m) rd fn F) l args M c lp) (rk (.mk Φ ex' rd fn F) l args M c lp):=by
 cases lp with
 |f=>exact .inl rfl
 |k s pe fn2 tm ps a b d=>
  cases s with
  |ready=>exact cd1 h l fn2 a b M c _
  |_=>exact .inl rfl
theorem ap1(h:yD ex ex')(v:V)(args:List V)(M:Mem)(c:Nat):VC (fun m=>nb (.mk Φ (ex m) rd fn F) v args M c) (nb (.mk Φ ex' rd fn F) v args M c):=by
 cases v with
 |f g a b=>exact Ac (Φ:=Φ) (rd:=rd) (fn:=fn) h g _ M c
 |y l=>exact ap2 h l args M c _
 |_=>exact .inl rfl
theorem ao9(h:yD ex ex')(v:V)(args:List V)(M:Mem)(c:Nat):VC (fun m=>jt (.mk Φ (ex m) rd fn F) v args M c) (jt (.mk Φ ex' rd fn F) v args M c):=by
 cases v with
 |f g a b=>exact Ac (Φ:=Φ) (rd:=rd) (fn:=fn) h g _ M c
 |_=>exact .inl rfl
theorem bl9(h:yD ex ex')(o:EO)(M:Mem)(c:Nat)(t:T):VC (fun m=>iV o (.mk Φ (ex m) rd fn F) M c t) (iV o (.mk Φ ex' rd fn F) M c t):=by
 cases o with
 |call f as0=>exact Ac (Φ:=Φ) (rd:=rd) (fn:=fn) h f _ M c
 |cv f as0=>exact ap1 h _ _ M c
 |_=>exact .inr ⟨0,fun m hm=>rfl⟩
theorem bo7(h:yD ex ex')(o:OK)(dst:Option aM)(t:T)(d:List Nat)(M:Mem)(c:Nat):VO (fun m=>sop o (.mk Φ (ex m) rd fn F) dst t d M c) (sop o (.mk Φ ex' rd fn F) dst t d M c):=by
 cases o with
 |q o=>exact .inr ⟨0,fun m hm=>rfl⟩
 |a o=>exact .inr ⟨0,fun m hm=>rfl⟩
 |e o=>
  show VO (fun m=>yt dst t d (iV o (.mk Φ (ex m) rd fn F) M c t)) (yt dst t d (iV o (.mk Φ ex' rd fn F) M c t));rcases bl9 (Φ:=Φ) (rd:=rd) (fn:=fn) (F:=F) h o M c t with e|⟨n,e⟩
  ·rw[e];exact .inl rfl
  ·exact .inr ⟨n,fun m hm=>congrArg (yt dst t d) (e m hm)⟩
theorem az2(h:yD ex ex')(o:CO)(s:St):VO (fun m=>eC o (.mk Φ (ex m) rd fn F) s) (eC o (.mk Φ ex' rd fn F) s):=by
 obtain⟨dst,op,g⟩:=o
 obtain⟨t,d,M,c⟩:=s
 cases g with
 |none=>exact bo7 h op dst t d M c
 |some g=>
  show VO (fun m=>s_w op (.mk Φ (ex m) rd fn F) dst t d M c (wanted t (some g))) (s_w op (.mk Φ ex' rd fn F) dst t d M c (wanted t (some g)));cases wanted t (some g)with
  |false=>exact .inr ⟨0,fun m hm=>rfl⟩
  |true=>exact bo7 h op dst t d M c
theorem CW(h:yD ex ex'):∀(ops:List CO) (s:St),VO (fun m=>dJ ops (.mk Φ (ex m) rd fn F) s) (dJ ops (.mk Φ ex' rd fn F) s)
 |[],s=> .inr ⟨0,fun m hm=>rfl⟩
 |o::r,s=>by
  show VO (fun m=>mN (dJ r) (.mk Φ (ex m) rd fn F) (eC o (.mk Φ (ex m) rd fn F) s)) (mN (dJ r) (.mk Φ ex' rd fn F) (eC o (.mk Φ ex' rd fn F) s));rcases az2 (Φ:=Φ) (rd:=rd) (fn:=fn) (F:=F) h o s with e|⟨n,e⟩
  ·rw[e];exact .inl rfl
  ·cases hs:eC o (.mk Φ ex' rd fn F) s with
   |none=>exact .inl rfl
   |some s1=>
    rw[hs]at e;rcases CW h r s1 with e2|⟨n2,e2⟩
    ·exact .inl e2
    ·exact .inr ⟨max n n2,fun m hm=>by
      have h1:=e m (bF (Nat.le_max_left _ _) hm);have h2:=e2 m (bF (Nat.le_max_right _ _) hm);simp only at h1 h2⊢;rw[h1];exact h2⟩
theorem bG1(h:yD ex ex')(e:EO)(dst:Option aM)(t:T)(c:Nat)(pend:List (Nat×Nat×bL))(reads:List (Nat×Nat))(p:Pr):
 VO (fun m=>sO e (.mk Φ (ex m) rd fn F) dst t c pend reads p) (sO e (.mk Φ ex' rd fn F) dst t c pend reads p):=by
 obtain⟨F',M,saved⟩:=p
 show VO (fun m=>bif cU F' M pend then nD F' dst t pend reads saved (iV e (.mk Φ (ex m) rd fn F') M c t)else none) (bif cU F' M pend then nD F' dst t pend reads saved (iV e (.mk Φ ex' rd fn F') M c t)else none)
 cases cU F' M pend with
 |false=>exact .inl rfl
 |true=>
  rcases bl9 (Φ:=Φ) (rd:=rd) (fn:=fn) (F:=F') h e M c t with e|⟨n,e⟩
  ·rw[e];exact .inl rfl
  ·exact .inr ⟨n,fun m hm=>congrArg (nD F' dst t pend reads saved) (e m hm)⟩
theorem cz8(h:yD ex ex')(base:Nat)(x:Nat×Nat×CO)(s:DS):VO (fun m=>ut (.mk Φ (ex m) rd fn F) base x s) (ut (.mk Φ ex' rd fn F) base x s):=by
 obtain⟨i,mask,dst,op,g⟩:=x
 obtain⟨t,M,c,pend,reads⟩:=s
 show VO (fun m=>bif wanted t g then Xe (.mk Φ (ex m) rd fn F) base i mask dst op t M c pend reads else _) (bif wanted t g then Xe (.mk Φ ex' rd fn F) base i mask dst op t M c pend reads else _)
 cases wanted t g with
 |false=>exact .inr ⟨0,fun m hm=>rfl⟩
 |true=>
  cases op with
  |q o=>exact .inr ⟨0,fun m hm=>rfl⟩
  |a o=>exact .inr ⟨0,fun m hm=>rfl⟩
  |e o=>
   show VO (fun m=>Ad o (.mk Φ (ex m) rd fn F) mask dst t c reads (hU mask pend M)) (Ad o (.mk Φ ex' rd fn F) mask dst t c reads (hU mask pend M));obtain⟨M1,p1⟩:=hU mask pend M;exact bG1 h o dst t c p1 reads _
theorem Xd(h:yD ex ex')(base:Nat):∀(ops:List (Nat×Nat×CO)) (s:DS),VO (fun m=>jD (.mk Φ (ex m) rd fn F) base ops s) (jD (.mk Φ ex' rd fn F) base ops s)
 |[],s=> .inr ⟨0,fun m hm=>rfl⟩
 |o::r,s=>by
  simp only[jD];rcases cz8 (Φ:=Φ) (rd:=rd) (fn:=fn) (F:=F) h base o s with e|⟨n,e⟩
  ·rw[e];exact .inl rfl
  ·cases hs:ut (.mk Φ ex' rd fn F) base o s with
   |none=>exact .inl rfl
   |some s1=>
    rw[hs]at e;rcases Xd h base r s1 with e2|⟨n2,e2⟩
    ·exact .inl e2
    ·exact .inr ⟨max n n2,fun m hm=>by
      have h1:=e m (bF (Nat.le_max_left _ _) hm);have h2:=e2 m (bF (Nat.le_max_right _ _) hm);simp only at h1 h2⊢;rw[h1];exact h2⟩
theorem GC(h:yD ex ex')(c:CC)(s:St):VR (fun m=>nM (.mk Φ (ex m) rd fn F) c s) (nM (.mk Φ ex' rd fn F) c s):=h rd fn F c s
theorem YE(h:yD ex ex')(f:X)(ps:List aM)(asg body:CC)(t:T)(d:List Nat)(M:Mem)(l dn:Nat):VR (fun m=>og f ps asg body (.mk Φ (ex m) rd fn F) t d M l dn) (og f ps asg body (.mk Φ ex' rd fn F) t d M l dn):=by
 show VR (fun m=>(M.set l (.loop .ready .none fn t ps asg body dn)).force fun M=>fN (Nat.succ l) fun c=>lb t d l (jt (.mk Φ (ex m) rd fn F) (f.ev t) [.y l] M c)) ((M.set l (.loop .ready .none fn t ps asg body dn)).force fun M=>fN (Nat.succ l) fun c=>lb t d l (jt (.mk Φ ex' rd fn F) (f.ev t) [.y l] M c))
 simp only[Tr.force_eq,b9]
 rcases ao9 (Φ:=Φ) (rd:=rd) (fn:=fn) (F:=F) h (f.ev t) [.y l] (M.set l (.loop .ready .none fn t ps asg body dn)) (Nat.succ l)with e|⟨n,e⟩
 ·rw[e];exact .inl rfl
 ·exact .inr ⟨n,fun m hm=>congrArg (lb t d l) (e m hm)⟩
theorem bN7(h:yD ex ex')(f:X)(ps:List aM)(asg body:CC)(t:T)(d:List Nat)(M:Mem)(l:Nat)(lp:Lp):VR (fun m=>Nc f ps asg body (.mk Φ (ex m) rd fn F) t d M l lp) (Nc f ps asg body (.mk Φ ex' rd fn F) t d M l lp):=by
 cases lp with
 |f=>exact .inl rfl
 |k s pe fn2 tm ps' a b dn=>exact YE h f ps asg body t d M l dn
theorem ar5(h:yD ex ex'):∀(c:CC) (s:St),VR (fun m=>bh c (.mk Φ (ex m) rd fn F) s) (bh c (.mk Φ ex' rd fn F) s):=by
 intro c
 induction c with
 |skip=>exact fun s=> .inr ⟨0,fun m hm=>rfl⟩
 |reg ops=>
  intro s;show VR (fun m=>rU (dJ ops (.mk Φ (ex m) rd fn F) s)) (rU (dJ ops (.mk Φ ex' rd fn F) s));rcases CW (Φ:=Φ) (rd:=rd) (fn:=fn) (F:=F) h ops s with e|⟨n,e⟩
  ·rw[e];exact .inl rfl
  ·exact .inr ⟨n,fun m hm=>congrArg rU (e m hm)⟩
 |dreg k ops=>
  intro s;obtain⟨t,d,M,c⟩:=s;show VR (fun m=>fN (Nat.add c k) fun c'=>vX d (jD (.mk Φ (ex m) rd fn F) c ops (.mk t M c' [] []))) (fN (Nat.add c k) fun c'=>vX d (jD (.mk Φ ex' rd fn F) c ops (.mk t M c' [] [])));simp only[b9];rcases Xd (Φ:=Φ) (rd:=rd) (fn:=fn) (F:=F) h c ops (.mk t M (Nat.add c k) [] [])with e|⟨n,e⟩
  ·rw[e];exact .inl rfl
  ·exact .inr ⟨n,fun m hm=>congrArg (vX d) (e m hm)⟩
 |seq a b iha ihb=>
  intro s;show VR (fun m=>lP (bh b) (.mk Φ (ex m) rd fn F) (bh a (.mk Φ (ex m) rd fn F) s)) (lP (bh b) (.mk Φ ex' rd fn F) (bh a (.mk Φ ex' rd fn F) s));rcases iha s with e|⟨n,e⟩
  ·rw[e];exact .inl rfl
  ·cases hs:bh a (.mk Φ ex' rd fn F) s with
   |f=>exact .inl rfl
   |k x s1=>
    rw[hs]at e;cases x with
    |nrm=>
     rcases ihb s1 with e2|⟨n2,e2⟩
     ·exact .inl e2
     ·exact .inr ⟨max n n2,fun m hm=>by
       have h1:=e m (bF (Nat.le_max_left _ _) hm);have h2:=e2 m (bF (Nat.le_max_right _ _) hm);simp only at h1 h2⊢;rw[h1];exact h2⟩
    |_=>exact .inr ⟨n,fun m hm=>congrArg (lP (bh b) (.mk Φ (ex m) rd fn F)) (e m hm)⟩
 |cond x a b iha ihb=>
  intro s;show VR (fun m=>iK x a b (bh a) (bh b) (.mk Φ (ex m) rd fn F) s) (iK x a b (bh a) (bh b) (.mk Φ ex' rd fn F) s);unfold iK;cases x.ev (stT s)with
  |b v=>
   cases v with
   |true=>exact iha s
   |false=>exact ihb s
  |_=>exact .inl rfl
 |block id b ih=>
  intro s;show VR (fun m=>fY id (bh b (.mk Φ (ex m) rd fn F) s)) (fY id (bh b (.mk Φ ex' rd fn F) s));rcases ih s with e|⟨n,e⟩
  ·rw[e];exact .inl rfl
  ·exact .inr ⟨n,fun m hm=>congrArg (fY id) (e m hm)⟩
 |loop b ih=>
  intro s;show VR (fun m=>ir b (.mk Φ (ex m) rd fn F) (bh b (.mk Φ (ex m) rd fn F) s)) (ir b (.mk Φ ex' rd fn F) (bh b (.mk Φ ex' rd fn F) s));rcases ih s with e|⟨n,e⟩
  ·rw[e];exact .inl rfl
  ·cases hs:bh b (.mk Φ ex' rd fn F) s with
   |f=>exact .inl rfl
   |k x s1=>
    rw[hs]at e;cases x with
    |nrm=>
     rcases GC (Φ:=Φ) (rd:=rd) (fn:=fn) (F:=F) h (.loop b) s1 with e2|⟨n2,e2⟩
     ·exact .inl e2
     ·exact .inr ⟨max n n2,fun m hm=>by
       have h1:=e m (bF (Nat.le_max_left _ _) hm);have h2:=e2 m (bF (Nat.le_max_right _ _) hm);simp only at h1 h2⊢;rw[h1];exact h2⟩
    |_=>exact .inr ⟨n,fun m hm=>congrArg (ir b (.mk Φ (ex m) rd fn F)) (e m hm)⟩
 |rf f ps a b _ _=>
  intro s;obtain⟨t,d,M,c⟩:=s;cases rd with
  |some l=>exact bN7 h f ps a b t d M c _
  |none=>
   show VR (fun m=>(M.set c (.defs false)).force fun M=>fN (Nat.succ c) fun c'=>og f ps a b (.mk Φ (ex m) none fn F) t (c::d) M c' c) ((M.set c (.defs false)).force fun M=>fN (Nat.succ c) fun c'=>og f ps a b (.mk Φ ex' none fn F) t (c::d) M c' c);simp only[Tr.force_eq,b9];exact YE h f ps a b t (c::d) _ _ c
 |exit id=>exact fun s=> .inr ⟨0,fun m hm=>rfl⟩
 |scope b tbl ihb _=>
  intro s;show VR (fun m=>jI tbl (.mk Φ (ex m) rd fn F) (bh b (.mk Φ (ex m) rd fn F) s)) (jI tbl (.mk Φ ex' rd fn F) (bh b (.mk Φ ex' rd fn F) s));rcases ihb s with e|⟨n,e⟩
  ·rw[e];exact .inl rfl
  ·cases hs:bh b (.mk Φ ex' rd fn F) s with
   |f=>exact .inl rfl
   |k x s1=>
    rw[hs]at e;cases x with
    |gto l=>
     have hj:VR (fun m=>tj tbl (.mk Φ (ex m) rd fn F) s1 (kO l tbl)) (tj tbl (.mk Φ ex' rd fn F) s1 (kO l tbl)):=by
      cases kO l tbl with
      |none=>exact .inl rfl
      |some c=>exact GC (Φ:=Φ) h _ s1
     rcases hj with e2|⟨n2,e2⟩
     ·exact .inl e2
     ·exact .inr ⟨max n n2,fun m hm=>by
       have h1:=e m (bF (Nat.le_max_left _ _) hm);have h2:=e2 m (bF (Nat.le_max_right _ _) hm);simp only at h1 h2⊢;rw[h1];exact h2⟩
    |_=>exact .inr ⟨n,fun m hm=>congrArg (jI tbl (.mk Φ (ex m) rd fn F)) (e m hm)⟩
 |tab l c r _ _=>exact fun s=> .inr ⟨0,fun m hm=>rfl⟩
 |goto l=>exact fun s=> .inr ⟨0,fun m hm=>rfl⟩
 |ret=>exact fun s=> .inr ⟨0,fun m hm=>rfl⟩
 |bad=>exact fun s=> .inr ⟨0,fun m hm=>rfl⟩
end
open Classical in
def lU(Φ:Nat→Option CF):y5:=fun rd fn F c s=>if h:∃n,exec Φ n rd fn F c s≠ .f then exec Φ (Classical.choose h) rd fn F c s else .f
theorem Ae{Φ:Nat→Option CF}{n:Nat}{rd:Option Nat}{fn:Nat}{F:RO}{c:CC}{s:St}(h:exec Φ n rd fn F c s≠ .f):lU Φ rd fn F c s=exec Φ n rd fn F c s:=by
 have hx:∃n,exec Φ n rd fn F c s≠ .f:=⟨n,h⟩
 unfold lU
 rw[dif_pos hx]
 have hc:=Classical.choose_spec hx
 rcases sT Φ (n:=n) (Classical.choose hx) rd fn F c s with e1|e1
 ·exact absurd e1 h
 ·rcases sT Φ (n:=Classical.choose hx) n rd fn F c s with e2|e2
  ·exact absurd e2 hc
  ·rw[e1,e2,Nat.add_comm]
theorem yM(Φ:Nat→Option CF)(rd:Option Nat)(fn:Nat)(F:RO)(c:CC)(s:St):lU Φ rd fn F c s= .f∨ ∃n,lU Φ rd fn F c s=exec Φ n rd fn F c s:=by
 by_cases hx:∃n,exec Φ n rd fn F c s≠ .f
 ·exact .inr ⟨_,by unfold lU;rw[dif_pos hx]⟩
 ·exact .inl (by unfold lU;rw[dif_neg hx])
theorem Xy(Φ:Nat→Option CF)(n:Nat):kA (exec Φ n) (lU Φ):=by
 intro rd fn F c s
 by_cases h:exec Φ n rd fn F c s= .f
 ·exact .inl h
 ·exact .inr (Ae h).symm
theorem bG3(Φ:Nat→Option CF)(rd:Option Nat)(fn:Nat)(F:RO)(c:CC)(s:St):LR (lU Φ rd fn F c s) (bh c (.mk Φ (lU Φ) rd fn F) s):=by
 by_cases hx:∃n,exec Φ n rd fn F c s≠ .f
 ·obtain⟨n,hn⟩:=hx;rw[Ae hn];cases n with
  |zero=>exact .inl rfl
  |succ n=>exact Cf (Xy Φ n) c s
 ·exact .inl (by unfold lU;rw[dif_neg hx])
theorem cz9(Φ:Nat→Option CF):yD (exec Φ) (lU Φ):=by
 intro rd fn F c s
 rcases yM Φ rd fn F c s with h|⟨n,h⟩
 ·exact .inl h
 ·by_cases hf:lU Φ rd fn F c s= .f
  ·exact .inl hf
  ·refine .inr ⟨n,fun m hm=>?_⟩;have:exec Φ m rd fn F c s≠ .f:=by
    obtain⟨k,rfl⟩:∃k,m=n+k:=⟨m-n,by omega⟩
    rcases sT Φ (n:=n) k rd fn F c s with e|e
    ·exact absurd (h.trans e) hf
    ·rw[←e,←h];exact hf
   exact(Ae this).symm
theorem vZ(Φ:Nat→Option CF)(rd:Option Nat)(fn:Nat)(F:RO)(c:CC)(s:St):lU Φ rd fn F c s=bh c (.mk Φ (lU Φ) rd fn F) s:=by
 rcases bG3 Φ rd fn F c s with h|h
 ·rcases ar5 (Φ:=Φ) (rd:=rd) (fn:=fn) (F:=F) (cz9 Φ) c s with h2|⟨n,h2⟩
  ·rw[h,h2]
  ·have h3:exec Φ (n+1) rd fn F c s=bh c (.mk Φ (lU Φ) rd fn F) s:=h2 n (ak _);by_cases hf:bh c (.mk Φ (lU Φ) rd fn F) s= .f
   ·rw[h,hf]
   ·rw[←h3];exact Ae (by rw[h3];exact hf)
 ·exact h
theorem EB{P:Program}(hm:P.follows .mixedOrders=true){Φ:Nat→Option CF}(hΦ:fo P Φ):BF P (lU Φ):=by
 intro rd fn F cc t d M ct e t' d' M' ct' h
 rcases yM Φ rd fn F cc (.mk t d M ct)with h1|⟨n,h1⟩
 ·rw[h1]at h;cases h
 ·rw[h1]at h;exact we hm hΦ n rd fn F cc t d M ct e t' d' M' ct' h
structure sC(F0:RO)(M0:Mem)(F:RO)(M:Mem):Prop where
 m:∀b blk,M0.get b=some blk→M.get b=some blk
 f:∀b blk,be F0 b=some blk→look F M b=some blk
 ap:∀b,(be F0 b).isSome→M0.get b=none
theorem sC.look{F0:RO}{M0:Mem}{F:RO}{M:Mem}(h:sC F0 M0 F M){b:Nat}{blk:bL}(hb:look F0 M0 b=some blk):look F M b=some blk:=by
 cases hm:M0.get b with
 |some x=>
  rw[ay hm]at hb;obtain rfl:=ag hb;exact ay (h.m b _ hm)
 |none=>
  rw[aQ hm]at hb;exact h.f b blk hb
theorem sC.rel{P:Program}{E:dj}{F0 F:RO}{M0 M:Mem}{c:Nat→Prop}{w:World}(h:sC F0 M0 F M)(hr:ku P E F M c w):ku P E F0 M0 c w where
 has:=fun b blk hb=>hr.has b blk (h.look hb)
 inj:=by
  intro b b' h1 h2 e;obtain⟨x,hx⟩:=bM.1 h1;obtain⟨y,hy⟩:=bM.1 h2;exact hr.inj b b' (by rw[h.look hx];rfl) (by rw[h.look hy];rfl) e
 apart:=h.ap
theorem ku.lt{P:Program}{E:dj}{F:RO}{M:Mem}{c:Nat→Prop}{w:World}(h:ku P E F M c w){b:Nat}(hb:(look F M b).isSome):E.ρ b<w.heap.size:=by
 obtain⟨x,hx⟩:=bM.1 hb
 obtain⟨_,_,o',ho',_⟩:=h.has b x hx
 exact(Array.getElem?_eq_some_iff.1 ho').1
theorem mY.framed{P:Program}{E E':dj}{F0 F:RO}{M0 M M1 N:Mem}{c c':Nat→Prop}{w w':World}(hsub:sC F0 M0 F M)(hr:ku P E F M c w)(hS:mY P F0 E M0 c w E' M1 c' w')
 (hN:∀b blk,N.get b=some blk→M1.get b=some blk∨(M.get b=some blk∧M0.get b=none)):mY P F E M c w E' N c' w':=by
 have old:∀b blk,look F M b=some blk→M0.get b=none→c b∧fw c blk∧E'.ρ b=E.ρ b∧ ∃o,w'.heap[E'.ρ b]?=some o∧ft P E' b blk o:=by
  intro b blk hb h0;obtain⟨hcb,hbd,o,ho,hB⟩:=hr.has b blk hb;have e:=hS.ext.ρ b hcb;refine⟨hcb,hbd,e,o,?_,hB.ext hS.ext hcb hbd⟩;rw[e,hS.frame _ (Array.getElem?_eq_some_iff.1 ho).1,ho];intro b0 hb0 e0;obtain⟨x0,hx0⟩:=bM.1 hb0;have:b0=b:=hr.inj b0 b (by rw[ay (hsub.m b0 x0 hx0)];rfl) (by rw[hb];rfl) e0;subst this;rw[h0]at hx0;cases hx0
 have new_old:∀b b' blk',(M1.get b).isSome→look F M b'=some blk'→M0.get b'=none→E'.ρ b≠E.ρ b':=by
  intro b b' blk' h1 h2 h0 e;rcases hS.own b h1 with⟨b0,hb0,e0⟩|hge
  ·obtain⟨x0,hx0⟩:=bM.1 hb0;have:b0=b':=hr.inj b0 b' (by rw[ay (hsub.m b0 x0 hx0)];rfl) (by rw[h2];rfl) (e0.trans e);subst this;rw[h0]at hx0;cases hx0
  ·have:=hr.lt (b:=b') (by rw[h2];rfl);omega
 have fM0:∀b,(be F b).isSome→M0.get b=none:=by
  intro b hb;cases h:M0.get b with
  |none=>rfl
  |some x=>have:=hr.apart b hb;rw[hsub.m b x h]at this;cases this
 have fM:∀b blk,be F b=some blk→look F M b=some blk:=fun b blk hb=>by rw[aQ (hr.apart b (by rw[hb];rfl))];exact hb
 have nocommon:∀b blk',look F M b=some blk'→M0.get b=none→M1.get b=none:=by
  intro b blk' h2 h0;cases h1:M1.get b with
  |none=>rfl
  |some x=>
   exfalso;have:=new_old b b blk' (by rw[h1];rfl) h2 h0;exact this (old b blk' h2 h0).2.2.1
 have lookN:∀b blk,look F N b=some blk→M1.get b=some blk∨(look F M b=some blk∧M0.get b=none):=by
  intro b blk hb;cases h:N.get b with
  |some x=>
   rw[ay h]at hb;obtain rfl:=ag hb;rcases hN b _ h with h1|⟨h1,h2⟩
   ·exact .inl h1
   ·exact .inr ⟨ay h1,h2⟩
  |none=>
   rw[aQ h]at hb;exact .inr ⟨fM b blk hb,fM0 b (by rw[hb];rfl)⟩
 refine⟨hS.ext,hS.le,⟨?_,?_,?_⟩,?_,?_,hS.size,hS.os,hS.output,hS.tape⟩
 ·intro b blk hb;rcases lookN b blk hb with h1|⟨h1,h2⟩
  ·exact hS.rel.has b blk (ay h1)
  ·obtain⟨a1,a2,_,a3⟩:=old b blk h1 h2;exact⟨hS.le b a1,fH hS.le _ a2,a3⟩
 ·intro b b' h1 h2 e;obtain⟨x,hx⟩:=bM.1 h1;obtain⟨y,hy⟩:=bM.1 h2;rcases lookN b x hx with g1|⟨g1,g0⟩
  ·rcases lookN b' y hy with k1|⟨k1,k0⟩
   ·exact hS.rel.inj b b' (pF (by rw[g1];rfl)) (pF (by rw[k1];rfl)) e
   ·exfalso;exact new_old b b' y (by rw[g1];rfl) k1 k0 (e.trans (old b' y k1 k0).2.2.1)
  ·rcases lookN b' y hy with k1|⟨k1,k0⟩
   ·exfalso;exact new_old b' b x (by rw[k1];rfl) g1 g0 (e.symm.trans (old b x g1 g0).2.2.1)
   ·refine hr.inj b b' (by rw[g1];rfl) (by rw[k1];rfl) ?_;rw[←(old b x g1 g0).2.2.1,←(old b' y k1 k0).2.2.1];exact e
 ·intro b hb;obtain⟨x,hx⟩:=bM.1 hb;cases h:N.get b with
  |none=>rfl
  |some y=>
   exfalso;have:=nocommon b x (fM b x hx) (fM0 b hb);rcases hN b y h with h1|⟨h1,h2⟩
   ·rw[this]at h1;cases h1
   ·have:=hr.apart b hb;rw[h1]at this;cases this
 ·intro b hb;obtain⟨x,hx⟩:=bM.1 hb;rcases hN b x hx with h1|⟨h1,h2⟩
  ·rcases hS.own b (by rw[h1];rfl)with⟨b0,hb0,e0⟩|hge
   ·obtain⟨x0,hx0⟩:=bM.1 hb0;exact .inl ⟨b0,by rw[hsub.m b0 x0 hx0];rfl,e0⟩
   ·exact .inr hge
  ·exact .inl ⟨b,by rw[h1];rfl,((old b x (ay h1) h2).2.2.1).symm⟩
 ·intro r hr' hn;refine hS.frame r hr' fun b hb=>?_;obtain⟨x,hx⟩:=bM.1 hb;exact hn b (by rw[hsub.m b x hx];rfl)
structure Wf(F:RO)(M:Mem)(ct:Nat)(args:List V):Prop where
 ge:1000≤ct
 args:i9 (· <ct) args
 lt:∀b blk,look F M b=some blk→b<ct
 bd:∀b blk,look F M b=some blk→fw (· <ct) blk
 ap:∀b,(be F b).isSome→M.get b=none
theorem bx6{P:Program}{E:dj}{F:RO}{M:Mem}{c:Nat→Prop}{w:World}{ct:Nat}{args:List V}(hr:ku P E F M c w)(hbig:∀g,g<1000→c g)(hf:gP c ct)(ha:i9 c args):Wf F M ct args:=by
 have hlt:∀b,c b→b<ct:=fun b hb=>by
  by_cases h:b<ct
  ·exact h
  ·exact absurd hb (hf b (by omega))
 refine⟨?_,lC hlt args ha,fun b blk hb=>hlt b (hr.has b blk hb).1,fun b blk hb=>fH hlt blk (hr.has b blk hb).2.1,hr.apart⟩
 by_cases h:1000≤ct
 ·exact h
 ·exact absurd (hbig ct (by omega)) (hf ct (ak _))
mutual
theorem qf{p q:Nat→Prop}:∀v,bd p v→bd q v→bd (fun b=>p b∧q b) v
 | .b _,_,_| .i _ _,_,_| .s _ _,_,_| .p0,_,_| .l0,_,_| .m0,_,_| .f0,_,_| .a0,_,_=>trivial
 | .p _ _,h,g=>⟨h,g⟩
 | .l _ _ _ _,h,g=>⟨h,g⟩
 | .u _ _ _ _ _,h,g=>⟨h,g⟩
 | .ue _ _ _,h,g=>⟨h,g⟩
 | .m _,h,g=>⟨h,g⟩
 | .y _,h,g=>⟨h,g⟩
 | .f _ a e,h,g=>⟨rg a h.1 g.1,rg e h.2 g.2⟩
 | .a _ v,h,g=>qf v h g
 | .g cs,h,g=>rg cs h g
 | .t cs,h,g=>rg cs h g
theorem rg{p q:Nat→Prop}:∀l,i9 p l→i9 q l→i9 (fun b=>p b∧q b) l
 |[],_,_=>trivial
 |v::l,h,g=>⟨qf v h.1 g.1,rg l h.2 g.2⟩
end
theorem LD{p q:Nat→Prop}(blk:bL)(h:fw p blk)(g:fw q blk):fw (fun b=>p b∧q b) blk:=by
 cases blk with
 |cells ty n ex fz str d t=>exact fun k v hk=>qf v (h k v hk) (g k v hk)
 |map es c=>exact fun e he=>⟨qf _ (h e he).1 (g e he).1,qf _ (h e he).2 (g e he).2⟩
 |loop s pe fn tm ps a b d=>exact⟨fun p=>qf _ (h.1 p) (g.1 p),h.2,g.2⟩
 |defs _=>trivial
 |siter _ _ _=>trivial
 |miter m _ _ _=>exact fun b hb=>⟨h b hb,g b hb⟩
theorem bM3{P:Program}(hm:P.follows .mixedOrders=true){Φ:Nat→Option CF}(hΦ:fo P Φ){f:Nat}{g:RO→List V→Mem→Nat→RC}
 (h:∀F args M ct v N ct',g F args M ct= .k v N ct'→Wf F M ct args→ ∃F0 M0 M1 ct1,sC F0 M0 F M∧eX (lU Φ) F0 f args M0 ct (Φ f)= .k v M1 ct1∧ct≤ct'∧bd (· <ct') v∧
  ∀b blk,N.get b=some blk→(M1.get b=some blk∧b<ct'∧fw (· <ct') blk)∨(M.get b=some blk∧M0.get b=none)):bY P f g:=by
 intro F args M ct v N ct' hg E c w hr hglob hbig hf ha
 obtain⟨F0,M0,M1,ct1,hsub,hc,hle,hbv,hN⟩:=h F args M ct v N ct' hg (bx6 hr hbig hf ha)
 obtain⟨fn,h1,h2,h3,hC⟩:=iL (rd:=none) (fn:=0) (F₀:=[]) hΦ (EB hm hΦ) F0 f args M0 ct v M1 ct1 hc E c w (hsub.rel hr) hglob hbig hf ha
 refine⟨fn,h1,h2,h3,hC.mono ?_⟩
 rintro e w' ⟨E',c',rfl,hS,hb,hG⟩
 have hS':=hS.framed hsub hr (N:=N) fun b blk hb=>(hN b blk hb).imp (fun h=>h.1) id
 have hlt:∀b,c b→b<ct:=fun b hb=>by
  by_cases h:b<ct
  ·exact h
  ·exact absurd hb (hf b (by omega))
 have up:∀b,c b→c' b∧b<ct':=fun b hb=>⟨hS.le b hb,Nat.lt_of_lt_of_le (hlt b hb) hle⟩
 refine⟨E',fun b=>c' b∧b<ct',rfl,⟨hS'.ext,up,⟨?_,hS'.rel.inj,hS'.rel.apart⟩,hS'.own,hS'.frame,hS'.size,hS'.os,hS'.output,hS'.tape⟩,qf v hb hbv,⟨hle,fun b hb=>?_⟩⟩
 ·intro b blk hb;obtain⟨g1,g2,g3⟩:=hS'.rel.has b blk hb
  have old:look F M b=some blk→(c' b∧b<ct')∧fw (fun b=>c' b∧b<ct') blk:=fun ho=>by
   obtain⟨k1,k2,_⟩:=hr.has b blk ho;exact⟨up b k1,fH up blk k2⟩
  have:(c' b∧b<ct')∧fw (fun b=>c' b∧b<ct') blk:=by
   cases hn:N.get b with
   |some x=>
    rw[ay hn]at hb;obtain rfl:=ag hb;rcases hN b _ hn with⟨k1,k2,k3⟩|⟨k1,_⟩
    ·exact⟨⟨g1,k2⟩,LD _ g2 k3⟩
    ·exact old (ay k1)
   |none=>
    rw[aQ hn]at hb;exact old (by rw[aQ (hr.apart b (by rw[hb];rfl))];exact hb)
  exact⟨this.1,this.2,g3⟩
 ·rcases hG.new b hb.1 with h|h
  ·exact .inl h
  ·exact .inr ⟨h.1,hb.2⟩
def aJ(h:List V→Option V)(_:RO)(args:List V)(M:Mem)(c:Nat):RC:=match h args with
 |some v=> .k v M c
 |none=> .f
theorem dv{P:Program}(hm:P.follows .mixedOrders=true){Φ:Nat→Option CF}(hΦ:fo P Φ){f:Nat}{h:List V→Option V}
 (hh:∀args v ct,h args=some v→1000≤ct→bd (fun _=>False) v∧ ∃M1 ct1,eX (lU Φ) [] f args .e ct (Φ f)= .k v M1 ct1):bY P f (aJ h):=by
 refine bM3 hm hΦ ?_
 intro F args M ct v N ct' hg hW
 unfold aJ at hg
 split at hg
 ·rename_i x hx;injection hg with e1 e2 e3
  subst e1 e2 e3;obtain⟨h1,M1,ct1,h2⟩:=hh args x ct hx hW.ge;exact⟨[],.e,M1,ct1,⟨fun b blk hb=>(by cases hb),fun b blk hb=>(by cases hb),fun b hb=>(by cases hb)⟩,h2,ak _,dZ (fun b hb=>hb.elim) x h1,fun b blk hb=> .inr ⟨hb,rfl⟩⟩
 ·cases hg
def pN(Φ:Nat→Option CF)(f:Nat)(cf:CF):Nat→Option CF:=fun k=>if k=f then some cf else Φ k
theorem de{P:Program}{Φ:Nat→Option CF}(hΦ:fo P Φ){f:Nat}{g:RO→List V→Mem→Nat→RC}(hg:bY P f g):fo P (pN Φ f (.orc g)):=by
 intro k cf hk
 unfold pN at hk
 split at hk
 ·rename_i e;subst e;obtain rfl:=ag hk;exact hg
 ·exact hΦ k cf hk
section
variable{Φ:Nat→Option CF}{rd:Option Nat}{fn:Nat}{F:RO}
abbrev K(Φ:Nat→Option CF)(rd:Option Nat)(fn:Nat)(F:RO):Kn:= .mk Φ (lU Φ) rd fn F
def Wp(c:CC)(k:Kn)(s:St)(Q:Ex→St→Prop):Prop:=∃e s',bh c k s= .k e s'∧Q e s'
def pp(ops:List CO)(k:Kn)(s:St)(R:St→Prop):Prop:=∃s',dJ ops k s=some s'∧R s'
def lR(b:CC)(k:Kn)(Q:Ex→St→Prop):Ex→St→Prop
 | .nrm,s=>Wp b k s Q
 |e,s=>Q e s
def ic(id:Nat)(Q:Ex→St→Prop):Ex→St→Prop
 | .ext id',s=>if id'=id then Q .nrm s else Q (.ext id') s
 |e,s=>Q e s
def JP(b:CC)(k:Kn)(Q:Ex→St→Prop):Ex→St→Prop
 | .nrm,s=>Wp (.loop b) k s Q
 |e,s=>Q e s
theorem aC9(k:Kn)(s:St)(Q:Ex→St→Prop):Wp .skip k s Q=Q .nrm s:=by
 apply propext;constructor
 ·rintro⟨e,s',h,q⟩;cases h;exact q
 ·exact fun q=>⟨_,_,rfl,q⟩
theorem cc3(k:Kn)(s:St)(Q:Ex→St→Prop):Wp .ret k s Q=Q .ret s:=by
 apply propext;constructor
 ·rintro⟨e,s',h,q⟩;cases h;exact q
 ·exact fun q=>⟨_,_,rfl,q⟩
theorem aC7(id:Nat)(k:Kn)(s:St)(Q:Ex→St→Prop):Wp (.exit id) k s Q=Q (.ext id) s:=by
 apply propext;constructor
 ·rintro⟨e,s',h,q⟩;cases h;exact q
 ·exact fun q=>⟨_,_,rfl,q⟩
theorem cc2(ops:List CO)(k:Kn)(s:St)(Q:Ex→St→Prop):Wp (.reg ops) k s Q=pp ops k s (Q .nrm):=by
 apply propext;constructor
 ·rintro⟨e,s',h,q⟩;have h':rU (dJ ops k s)= .k e s':=h;cases hs:dJ ops k s with
  |none=>rw[hs]at h';cases h'
  |some s1=>
   rw[hs]at h';have:Rs.k .nrm s1= .k e s':=h';injection this with e1 e2
   subst e1 e2;exact⟨_,hs,q⟩
 ·rintro⟨s',h,q⟩;exact⟨_,_,show rU (dJ ops k s)=_ by rw[h];rfl,q⟩
theorem bP(a b:CC)(k:Kn)(s:St)(Q:Ex→St→Prop):Wp (.seq a b) k s Q=Wp a k s (lR b k Q):=by
 apply propext;constructor
 ·rintro⟨e,s',h,q⟩;have h':lP (bh b) k (bh a k s)= .k e s':=h;cases hs:bh a k s with
  |f=>rw[hs]at h';cases h'
  |k e1 s1=>
   rw[hs]at h';refine⟨e1,s1,hs,?_⟩;cases e1 with
   |nrm=>exact⟨e,s',h',q⟩
   |ret=>have h2:Rs.k .ret s1= .k e s':=h';injection h2 with a1 a2;subst a1 a2;exact q
   |ext id=>have h2:Rs.k (.ext id) s1= .k e s':=h';injection h2 with a1 a2;subst a1 a2;exact q
   |gto id=>have h2:Rs.k (.gto id) s1= .k e s':=h';injection h2 with a1 a2;subst a1 a2;exact q
 ·rintro⟨e1,s1,h1,q⟩;cases e1 with
  |nrm=>
   obtain⟨e,s',h2,q⟩:=q;exact⟨e,s',show lP (bh b) k (bh a k s)=_ by rw[h1];exact h2,q⟩
  |ret=>exact⟨_,_,show lP (bh b) k (bh a k s)=_ by rw[h1];rfl,q⟩
  |ext id=>exact⟨_,_,show lP (bh b) k (bh a k s)=_ by rw[h1];rfl,q⟩
  |gto id=>exact⟨_,_,show lP (bh b) k (bh a k s)=_ by rw[h1];rfl,q⟩
theorem YP(b:CC)(k:Kn)(Q:Ex→St→Prop)(s:St):lR b k Q .nrm s=Wp b k s Q:=rfl
theorem YR(b:CC)(k:Kn)(Q:Ex→St→Prop)(s:St):lR b k Q .ret s=Q .ret s:=rfl
theorem YO(b:CC)(k:Kn)(Q:Ex→St→Prop)(s:St)(id:Nat):lR b k Q (.ext id) s=Q (.ext id) s:=rfl
theorem aa3(id:Nat)(b:CC)(k:Kn)(s:St)(Q:Ex→St→Prop):Wp (.block id b) k s Q=Wp b k s (ic id Q):=by
 apply propext;constructor
 ·rintro⟨e,s',h,q⟩;have h':fY id (bh b k s)= .k e s':=h;cases hs:bh b k s with
  |f=>rw[hs]at h';cases h'
  |k e1 s1=>
   rw[hs]at h';refine⟨e1,s1,hs,?_⟩;cases e1 with
   |nrm=>have h2:Rs.k .nrm s1= .k e s':=h';injection h2 with a1 a2;subst a1 a2;exact q
   |ret=>have h2:Rs.k .ret s1= .k e s':=h';injection h2 with a1 a2;subst a1 a2;exact q
   |gto l=>have h2:Rs.k (.gto l) s1= .k e s':=h';injection h2 with a1 a2;subst a1 a2;exact q
   |ext i=>
    have h2:Bool.rec (motive:=fun _=>Rs) (.k (.ext i) s1) (.k .nrm s1) (Nat.beq i id)= .k e s':=h';rw[bb,bK]at h2;show(if i=id then Q .nrm s1 else Q (.ext i) s1);by_cases hi:i=id
    ·rw[ae (by simpa using hi)]at h2;injection h2 with a1 a2;subst a1 a2
     rw[ae hi];exact q
    ·rw[ab (by simpa using hi)]at h2;injection h2 with a1 a2;subst a1 a2
     rw[ab hi];exact q
 ·rintro⟨e1,s1,h1,q⟩;cases e1 with
  |nrm=>exact⟨_,_,show fY id (bh b k s)=_ by rw[h1];rfl,q⟩
  |ret=>exact⟨_,_,show fY id (bh b k s)=_ by rw[h1];rfl,q⟩
  |gto l=>exact⟨_,_,show fY id (bh b k s)=_ by rw[h1];rfl,q⟩
  |ext i=>
   have h2:fY id (bh b k s)=Bool.rec (motive:=fun _=>Rs) (.k (.ext i) s1) (.k .nrm s1) (Nat.beq i id):=by rw[h1];rfl
   rw[bb,bK]at h2;replace q:(if i=id then Q .nrm s1 else Q (.ext i) s1):=q;by_cases hi:i=id
   ·rw[ae (by simpa using hi)]at h2;rw[ae hi]at q;exact⟨_,_,h2,q⟩
   ·rw[ab (by simpa using hi)]at h2;rw[ab hi]at q;exact⟨_,_,h2,q⟩
theorem Ek(id:Nat)(Q:Ex→St→Prop)(s:St):ic id Q .nrm s=Q .nrm s:=rfl
theorem El(id:Nat)(Q:Ex→St→Prop)(s:St):ic id Q .ret s=Q .ret s:=rfl
theorem Ej(id i:Nat)(Q:Ex→St→Prop)(s:St):ic id Q (.ext i) s=if i=id then Q .nrm s else Q (.ext i) s:=rfl
theorem aC8(b:CC)(s:St)(Q:Ex→St→Prop):Wp (.loop b) (K Φ rd fn F) s Q=Wp b (K Φ rd fn F) s (JP b (K Φ rd fn F) Q):=by
 apply propext;constructor
 ·rintro⟨e,s',h,q⟩;have h':ir b (K Φ rd fn F) (bh b (K Φ rd fn F) s)= .k e s':=h;cases hs:bh b (K Φ rd fn F) s with
  |f=>rw[hs]at h';cases h'
  |k e1 s1=>
   rw[hs]at h';refine⟨e1,s1,hs,?_⟩;cases e1 with
   |nrm=>
    have h2:lU Φ rd fn F (.loop b) s1= .k e s':=h';rw[vZ]at h2;exact⟨e,s',h2,q⟩
   |ret=>have h2:Rs.k .ret s1= .k e s':=h';injection h2 with a1 a2;subst a1 a2;exact q
   |ext id=>have h2:Rs.k (.ext id) s1= .k e s':=h';injection h2 with a1 a2;subst a1 a2;exact q
   |gto id=>have h2:Rs.k (.gto id) s1= .k e s':=h';injection h2 with a1 a2;subst a1 a2;exact q
 ·rintro⟨e1,s1,h1,q⟩;cases e1 with
  |nrm=>
   obtain⟨e,s',h2,q⟩:=q;refine⟨e,s',show ir b (K Φ rd fn F) (bh b (K Φ rd fn F) s)=_ from ?_,q⟩;rw[h1];show lU Φ rd fn F (.loop b) s1=_;rw[vZ];exact h2
  |ret=>exact⟨_,_,show ir b (K Φ rd fn F) (bh b (K Φ rd fn F) s)=_ by rw[h1];rfl,q⟩
  |ext id=>exact⟨_,_,show ir b (K Φ rd fn F) (bh b (K Φ rd fn F) s)=_ by rw[h1];rfl,q⟩
  |gto id=>exact⟨_,_,show ir b (K Φ rd fn F) (bh b (K Φ rd fn F) s)=_ by rw[h1];rfl,q⟩
theorem ME(b:CC)(k:Kn)(Q:Ex→St→Prop)(s:St):JP b k Q .nrm s=Wp (.loop b) k s Q:=rfl
theorem MF(b:CC)(k:Kn)(Q:Ex→St→Prop)(s:St):JP b k Q .ret s=Q .ret s:=rfl
theorem MD(b:CC)(k:Kn)(Q:Ex→St→Prop)(s:St)(id:Nat):JP b k Q (.ext id) s=Q (.ext id) s:=rfl
theorem Wp.mono{c:CC}{k:Kn}{s:St}{Q Q':Ex→St→Prop}(h:Wp c k s Q)(hq:∀e s',Q e s'→Q' e s'):Wp c k s Q':=by
 obtain⟨e,s',h1,q⟩:=h
 exact⟨e,s',h1,hq e s' q⟩
theorem Nz{b:CC}{Q:Ex→St→Prop}(I:Nat→St→Prop)(h:∀n s,I n s→Wp b (K Φ rd fn F) s fun e s'=>match e with| .nrm=>∃m,m<n∧I m s'|e=>Q e s'):∀n s,I n s→Wp (.loop b) (K Φ rd fn F) s Q:=by
 intro n
 induction n using Nat.strongRecOn with
 |_ n ih=>
  intro s hs;rw[aC8];refine(h n s hs).mono fun e s' he=>?_;cases e with
  |nrm=>obtain⟨m,hm,hI⟩:=he;exact ih m hm s' hI
  |_=>exact he
theorem iZ{x:X}{a b:CC}{k:Kn}{t:T}{d:List Nat}{M:Mem}{c:Nat}{Q:Ex→St→Prop}{e:Bool}(hx:x.ev t= .b e)
 (h1:e=true→Wp a k (.mk t d M c) Q) (h2:e=false→Wp b k (.mk t d M c) Q):Wp (.cond x a b) k (.mk t d M c) Q:=by
 have he:bh (.cond x a b) k (.mk t d M c)=if e=true then bh a k (.mk t d M c)else bh b k (.mk t d M c):=by
  show iK x a b (bh a) (bh b) k (.mk t d M c)=_;unfold iK;show Fa (x.ev t) _ _=_;rw[hx];cases e<;>rfl
 cases e with
 |true=>
  obtain⟨e,s',h,q⟩:=h1 rfl;exact⟨e,s',by rw[he];exact h,q⟩
 |false=>
  obtain⟨e,s',h,q⟩:=h2 rfl;exact⟨e,s',by rw[he];exact h,q⟩
theorem Dd{x:X}{a b:CC}{k:Kn}{t:T}{d:List Nat}{M:Mem}{c:Nat}{Q:Ex→St→Prop}(hx:x.ev t= .b true):Wp (.cond x a b) k (.mk t d M c) Q=Wp a k (.mk t d M c) Q:=by
 have he:bh (.cond x a b) k (.mk t d M c)=bh a k (.mk t d M c):=by
  show iK x a b (bh a) (bh b) k (.mk t d M c)=_;unfold iK;show Fa (x.ev t) _ _=_;rw[hx];rfl
 unfold Wp;rw[he]
theorem Dc{x:X}{a b:CC}{k:Kn}{t:T}{d:List Nat}{M:Mem}{c:Nat}{Q:Ex→St→Prop}(hx:x.ev t= .b false):Wp (.cond x a b) k (.mk t d M c) Q=Wp b k (.mk t d M c) Q:=by
 have he:bh (.cond x a b) k (.mk t d M c)=bh b k (.mk t d M c):=by
  show iK x a b (bh a) (bh b) k (.mk t d M c)=_;unfold iK;show Fa (x.ev t) _ _=_;rw[hx];rfl
 unfold Wp;rw[he]
theorem cc1(k:Kn)(s:St)(R:St→Prop):pp [] k s R=R s:=by
 apply propext;constructor
 ·rintro⟨s',h,q⟩;cases h;exact q
 ·exact fun q=>⟨_,rfl,q⟩
theorem ga(o:CO)(r:List CO)(k:Kn)(s:St)(R:St→Prop):pp (o::r) k s R↔ ∃s',eC o k s=some s'∧pp r k s' R:=by
 constructor
 ·rintro⟨s',h,q⟩;have h':mN (dJ r) k (eC o k s)=some s':=h;cases hs:eC o k s with
  |none=>rw[hs]at h';cases h'
  |some s1=>rw[hs]at h';exact⟨s1,rfl,s',h',q⟩
 ·rintro⟨s1,h1,s',h2,q⟩;exact⟨s',show mN (dJ r) k (eC o k s)=some s' by rw[h1];exact h2,q⟩
def QR.to{β:Type}(r:QR)(f:β)(g:V→β):β:=match r with
 | .f=>f
 | .v x=>g x
 | .r x _=>g x
theorem dB7{p:aM}{o:QO}{r:List CO}{k:Kn}{t:T}{d:List Nat}{M:Mem}{c:Nat}{R:St→Prop}{x:V}(h:(dh o k.F M t).val=some x):
 pp (.mk (some p) (.q o) none::r) k (.mk t d M c) R=pp r k (.mk (t.setP p x) d M c) R:=by
 have hs:eC (.mk (some p) (.q o) none) k (.mk t d M c)=some (.mk (t.setP p x) d M c):=by
  show ay8 (some p) t d M c (dh o k.F M t)=_;cases hq:dh o k.F M t with
  |f=>rw[hq]at h;cases h
  |v y=>rw[hq]at h;obtain rfl:=ag h;exact gG _ _ _ _ _ _
  |r y b=>rw[hq]at h;obtain rfl:=ag h;exact gG _ _ _ _ _ _
 apply propext
 rw[ga,hs]
 constructor
 ·rintro⟨s',h,q⟩;obtain rfl:=ag h;exact q
 ·exact fun q=>⟨_,rfl,q⟩
theorem dB6{p:aM}{o:AO}{r:List CO}{k:Kn}{t:T}{d:List Nat}{M:Mem}{c:Nat}{R:St→Prop}{v:V}{blk:bL}(h:lz o c t=some (v,blk)):
 pp (.mk (some p) (.a o) none::r) k (.mk t d M c) R=pp r k (.mk (t.setP p v) d (M.set c blk) (c+1)) R:=by
 have hs:eC (.mk (some p) (.a o) none) k (.mk t d M c)=some (.mk (t.setP p v) d (M.set c blk) (c+1)):=by
  show ay7 (some p) t d M c (lz o c t)=_;rw[h];show YJ (some p) t d M c v blk=_;unfold YJ;rw[Tr.force_eq,b9,gG];rfl
 apply propext
 rw[ga,hs]
 constructor
 ·rintro⟨s',h,q⟩;obtain rfl:=ag h;exact q
 ·exact fun q=>⟨_,rfl,q⟩
theorem d84{dst:Option aM}{o:EO}{r:List CO}{k:Kn}{t:T}{d:List Nat}{M M':Mem}{c c':Nat}{R:St→Prop}{v:V}(h:iV o k M c t= .k v M' c'):
 pp (.mk dst (.e o) none::r) k (.mk t d M c) R=pp r k (.mk (setT t dst v) d M' c') R:=by
 have hs:eC (.mk dst (.e o) none) k (.mk t d M c)=some (.mk (setT t dst v) d M' c'):=by
  show yt dst t d (iV o k M c t)=_;rw[h];exact gG _ _ _ _ _ _
 apply propext
 rw[ga,hs]
 constructor
 ·rintro⟨s',h,q⟩;obtain rfl:=ag h;exact q
 ·exact fun q=>⟨_,rfl,q⟩
theorem yy{dst:Option aM}{o:OK}{g:aM}{want:Bool}{r:List CO}{k:Kn}{t:T}{d:List Nat}{M:Mem}{c:Nat}{R:St→Prop}{e:Bool}(hg:cS t g= .b e)
 (h1:e=want→pp (.mk dst o none::r) k (.mk t d M c) R) (h2:e=(!want)→pp r k (.mk (setT t dst undef) d M c) R):pp (.mk dst o (some (g,want))::r) k (.mk t d M c) R:=by
 have hw:wanted t (some (g,want))=(e==want):=by
  show iw want (cS t g)=_;rw[hg];cases e<;>cases want<;>rfl
 have hs:eC (.mk dst o (some (g,want))) k (.mk t d M c)=if e=want then eC (.mk dst o none) k (.mk t d M c)else some (.mk (setT t dst undef) d M c):=by
  show s_w o k dst t d M c (wanted t (some (g,want)))=_;rw[hw];by_cases he:e=want
  ·rw[ae he,show(e==want)=true by simpa using he];rfl
  ·rw[ab he,show(e==want)=false by simpa using he];exact gG _ _ _ _ _ _
 rw[ga,hs]
 by_cases he:e=want
 ·rw[ae he];exact(ga _ _ _ _ _).1 (h1 he)
 ·rw[ab he];exact⟨_,rfl,h2 (by cases e<;>cases want<;>first|rfl|exact absurd rfl he)⟩
theorem d86{dst:Option aM}{o:OK}{g:aM}{want:Bool}{r:List CO}{k:Kn}{t:T}{d:List Nat}{M:Mem}{c:Nat}{R:St→Prop}(hg:cS t g= .b want):
 pp (.mk dst o (some (g,want))::r) k (.mk t d M c) R=pp (.mk dst o none::r) k (.mk t d M c) R:=by
 have hw:wanted t (some (g,want))=true:=by
  show iw want (cS t g)=_;rw[hg];cases want<;>rfl
 have hs:eC (.mk dst o (some (g,want))) k (.mk t d M c)=eC (.mk dst o none) k (.mk t d M c):=by
  show s_w o k dst t d M c (wanted t (some (g,want)))=_;rw[hw];rfl
 apply propext
 rw[ga,ga,hs]
theorem d85{dst:Option aM}{o:OK}{g:aM}{want:Bool}{r:List CO}{k:Kn}{t:T}{d:List Nat}{M:Mem}{c:Nat}{R:St→Prop}(hg:cS t g= .b (!want)):
 pp (.mk dst o (some (g,want))::r) k (.mk t d M c) R=pp r k (.mk (setT t dst undef) d M c) R:=by
 have hw:wanted t (some (g,want))=false:=by
  show iw want (cS t g)=_;rw[hg];cases want<;>rfl
 have hs:eC (.mk dst o (some (g,want))) k (.mk t d M c)=some (.mk (setT t dst undef) d M c):=by
  show s_w o k dst t d M c (wanted t (some (g,want)))=_;rw[hw];exact gG _ _ _ _ _ _
 apply propext
 rw[ga,hs]
 constructor
 ·rintro⟨s',h,q⟩;obtain rfl:=ag h;exact q
 ·exact fun q=>⟨_,rfl,q⟩
theorem d87{dst:Option aM}{o:OK}{g:aM}{want:Bool}{r:List CO}{k:Kn}{t:T}{d:List Nat}{M:Mem}{c:Nat}{R:St→Prop}(hg:cS t g=undef):
 pp (.mk dst o (some (g,want))::r) k (.mk t d M c) R=pp r k (.mk (setT t dst undef) d M c) R:=by
 have hw:wanted t (some (g,want))=false:=by
  show iw want (cS t g)=_;rw[hg];rfl
 have hs:eC (.mk dst o (some (g,want))) k (.mk t d M c)=some (.mk (setT t dst undef) d M c):=by
  show s_w o k dst t d M c (wanted t (some (g,want)))=_;rw[hw];exact gG _ _ _ _ _ _
 apply propext
 rw[ga,hs]
 constructor
 ·rintro⟨s',h,q⟩;obtain rfl:=ag h;exact q
 ·exact fun q=>⟨_,rfl,q⟩
def Q(n:Nat):aM:=bJ n
def Lh(o:Option (List V))(M:Mem)(c:Nat)(Post:V→Mem→Nat→Prop):Prop:=match o with
 |none=>False
 |some vs=>Post (uF vs) M c
def Oi(o:Option Mem)(F:RO)(t:T)(res:List RV)(c:Nat)(Post:V→Mem→Nat→Prop):Prop:=match o with
 |none=>False
 |some M=>Lh (fj F M t res) M c Post
def dA(F:RO)(res:List RV)(Post:V→Mem→Nat→Prop):Ex→St→Prop
 | .nrm,.mk t d M c=>Oi (cV d M) F t res c Post
 | .ret,.mk t d M c=>Oi (cV d M) F t res c Post
 |_,_=>False
theorem Xn(F:RO)(res:List RV)(Post:V→Mem→Nat→Prop)(t:T)(M:Mem)(c:Nat):dA F res Post .nrm (.mk t [] M c)=Lh (fj F M t res) M c Post:=rfl
theorem Xo(F:RO)(res:List RV)(Post:V→Mem→Nat→Prop)(t:T)(M:Mem)(c:Nat):dA F res Post .ret (.mk t [] M c)=Lh (fj F M t res) M c Post:=rfl
theorem di9(vs:List V)(M:Mem)(c:Nat)(Post:V→Mem→Nat→Prop):Lh (some vs) M c Post=Post (uF vs) M c:=rfl
def yL(v:V):Option (List V)→Option (List V)
 |some l=>some (v::l)
 |none=>none
theorem Eu(v:V)(l:List V):yL v (some l)=some (v::l):=rfl
theorem Nb(F:RO)(M:Mem)(t:T):fj F M t []=some []:=rfl
theorem bN6(F:RO)(M:Mem)(t:T)(p:aM)(r:List RV):fj F M t (.t p::r)=yL (cS t p) (fj F M t r):=by
 show uJ (cS t p) (fj F M t r)=_
 cases fj F M t r<;>rfl
theorem Ym(v:V):uF [v]=v:=rfl
theorem Yn(v w:V)(l:List V):uF (v::w::l)= .t (v::w::l):=rfl
theorem yI{f n:Nat}{res:List RV}{body:CC}{args:List V}{M:Mem}{c:Nat}{Post:V→Mem→Nat→Prop}(hf:Φ f=some (.mk n res body))
 (h:Wp body (K Φ none f F) (.mk (aU n args) [] M c) (dA F res Post)):∃v M' c',eX (lU Φ) F f args M c (Φ f)= .k v M' c'∧Post v M' c':=by
 obtain⟨e,s,h1,hq⟩:=h
 obtain⟨t,d,M1,c1⟩:=s
 have hend:JI e=true∧Oi (cV d M1) F t res c1 Post:=by
  cases e with
  |nrm=>exact⟨rfl,hq⟩
  |ret=>exact⟨rfl,hq⟩
  |ext id=>exact hq.elim
  |gto l=>exact hq.elim
 have hcall:eX (lU Φ) F f args M c (some (.mk n res body))=Bool.rec (motive:=fun _=>RC) .f (Aj res F t c1 (cV d M1)) (JI e):=by
  show nT res F (lU Φ none f F body (.mk (aU n args) [] M c))=_;rw[vZ,h1];rfl
 rw[hf,hcall,hend.1]
 have h2:=hend.2
 cases hd:cV d M1 with
 |none=>rw[hd]at h2;exact h2.elim
 |some M2=>
  rw[hd]at h2;have h3:Lh (fj F M2 t res) M2 c1 Post:=h2;cases hr:fj F M2 t res with
  |none=>rw[hr]at h3;exact h3.elim
  |some vs=>
   rw[hr]at h3;exact⟨uF vs,M2,c1,show Ak c1 M2 (fj F M2 t res)=_ by rw[hr];rfl,h3⟩
end
section
variable{Φ:Nat→Option CF}{rd:Option Nat}{fn:Nat}{F:RO}
def cg9(o:Option V)(p:aM)(r:List CO)(k:Kn)(t:T)(d:List Nat)(M:Mem)(c:Nat)(R:St→Prop):Prop:=match o with
 |none=>False
 |some x=>pp r k (.mk (t.setP p x) d M c) R
def cg8(o:Option (V×bL))(p:aM)(r:List CO)(k:Kn)(t:T)(d:List Nat)(M:Mem)(c:Nat)(R:St→Prop):Prop:=match o with
 |none=>False
 |some x=>pp r k (.mk (t.setP p x.1) d (M.set c x.2) (c+1)) R
def bz9(o:RC)(p:aM)(r:List CO)(k:Kn)(t:T)(d:List Nat)(R:St→Prop):Prop:=match o with
 | .f=>False
 | .k v M c=>pp r k (.mk (t.setP p v) d M c) R
def aH0(o:RC)(r:List CO)(k:Kn)(t:T)(d:List Nat)(R:St→Prop):Prop:=match o with
 | .f=>False
 | .k v M c=>pp r k (.mk t d M c) R
theorem du5(x:V)(p:aM)(r:List CO)(k:Kn)(t:T)(d:List Nat)(M:Mem)(c:Nat)(R:St→Prop):cg9 (some x) p r k t d M c R=pp r k (.mk (t.setP p x) d M c) R:=rfl
theorem du3(v:V)(b:bL)(p:aM)(r:List CO)(k:Kn)(t:T)(d:List Nat)(M:Mem)(c:Nat)(R:St→Prop):cg8 (some (v,b)) p r k t d M c R=pp r k (.mk (t.setP p v) d (M.set c b) (c+1)) R:=rfl
theorem du4(v:V)(M:Mem)(c:Nat)(p:aM)(r:List CO)(k:Kn)(t:T)(d:List Nat)(R:St→Prop):bz9 (.k v M c) p r k t d R=pp r k (.mk (t.setP p v) d M c) R:=rfl
theorem cL2(v:V)(M:Mem)(c:Nat)(r:List CO)(k:Kn)(t:T)(d:List Nat)(R:St→Prop):aH0 (.k v M c) r k t d R=pp r k (.mk t d M c) R:=rfl
theorem dC2(p:aM)(o:QO)(r:List CO)(t:T)(d:List Nat)(M:Mem)(c:Nat)(R:St→Prop):
 pp (.mk (some p) (.q o) none::r) (K Φ rd fn F) (.mk t d M c) R=cg9 (dh o F M t).val p r (K Φ rd fn F) t d M c R:=by
 cases h:(dh o F M t).val with
 |some x=>rw[dB7 (k:=K Φ rd fn F) h];rfl
 |none=>
  apply propext;rw[ga];constructor
  ·rintro⟨s',h1,_⟩;have h1':ay8 (some p) t d M c (dh o F M t)=some s':=h1;cases hq:dh o F M t with
   |f=>rw[hq]at h1';cases h1'
   |v y=>rw[hq]at h;cases h
   |r y b=>rw[hq]at h;cases h
  ·exact False.elim
theorem dC0(p:aM)(o:AO)(r:List CO)(t:T)(d:List Nat)(M:Mem)(c:Nat)(R:St→Prop):
 pp (.mk (some p) (.a o) none::r) (K Φ rd fn F) (.mk t d M c) R=cg8 (lz o c t) p r (K Φ rd fn F) t d M c R:=by
 cases h:lz o c t with
 |some x=>rw[dB6 (k:=K Φ rd fn F) (v:=x.1) (blk:=x.2) h];rfl
 |none=>
  apply propext;rw[ga];constructor
  ·rintro⟨s',h1,_⟩;have h1':ay7 (some p) t d M c (lz o c t)=some s':=h1;rw[h]at h1';cases h1'
  ·exact False.elim
theorem dC1(p:aM)(o:EO)(r:List CO)(t:T)(d:List Nat)(M:Mem)(c:Nat)(R:St→Prop):
 pp (.mk (some p) (.e o) none::r) (K Φ rd fn F) (.mk t d M c) R=bz9 (iV o (K Φ rd fn F) M c t) p r (K Φ rd fn F) t d R:=by
 cases h:iV o (K Φ rd fn F) M c t with
 |k v M' c'=>rw[d84 h];rfl
 |f=>
  apply propext;rw[ga];constructor
  ·rintro⟨s',h1,_⟩;have h1':yt (some p) t d (iV o (K Φ rd fn F) M c t)=some s':=h1;rw[h]at h1';cases h1'
  ·exact False.elim
theorem da0(o:EO)(r:List CO)(t:T)(d:List Nat)(M:Mem)(c:Nat)(R:St→Prop):
 pp (.mk none (.e o) none::r) (K Φ rd fn F) (.mk t d M c) R=aH0 (iV o (K Φ rd fn F) M c t) r (K Φ rd fn F) t d R:=by
 cases h:iV o (K Φ rd fn F) M c t with
 |k v M' c'=>rw[d84 h];rfl
 |f=>
  apply propext;rw[ga];constructor
  ·rintro⟨s',h1,_⟩;have h1':yt none t d (iV o (K Φ rd fn F) M c t)=some s':=h1;rw[h]at h1';cases h1'
  ·exact False.elim
theorem aD3(f:Nat)(as0:List X)(M:Mem)(c:Nat)(t:T):iV (.call f as0) (K Φ rd fn F) M c t=eX (lU Φ) F f (evs as0 t) M c (Φ f):=rfl
theorem LN(F:RO)(f:Nat)(args:List V)(M:Mem)(c:Nat)(g:RO→List V→Mem→Nat→RC):eX (lU Φ) F f args M c (some (.orc g))=g F args M c:=rfl
theorem bJ9(l r:T)(v:V):cS (Tr.n l (some v) r) .h=v:=Eq.trans (rfl:_=v) (Eq.refl v)
theorem bK1(l r:T):cS (Tr.n l none r) .h=undef:=Eq.trans (rfl:_=undef) (Eq.refl undef)
theorem bK0(l r:T)(v:Option V)(p:aM):cS (Tr.n l v r) (.l p)=cS l p:=Eq.trans (rfl:_=cS l p) (Eq.refl _)
theorem bK2(l r:T)(v:Option V)(p:aM):cS (Tr.n l v r) (.r p)=cS r p:=Eq.trans (rfl:_=cS r p) (Eq.refl _)
theorem ev_t(p:aM)(t:T):(X.t p).ev t=cS t p:=rfl
theorem ev_c(v:V)(t:T):(X.c v).ev t=v:=rfl
theorem ar4(t:T):evs [] t=[]:=rfl
theorem Xw(x:X)(l:List X)(t:T):evs (x::l) t=x.ev t::evs l t:=rfl
theorem dy9(x:X)(M:Mem)(t:T):(dh (.mv x) F M t).val=some (x.ev t):=rfl
def pkV:V→V→V→Option V
 | .b x,a,b=>some (bif x then a else b)
 |_,_,_=>none
theorem cT2(c a b:X)(M:Mem)(t:T):(dh (.pk c a b) F M t).val=pkV (c.ev t) (a.ev t) (b.ev t):=by
 show(N7 c a b F M t).val=_
 unfold N7 pkV
 cases c.ev t with
 |b x=>cases x<;>rfl
 |_=>rfl
theorem cL0(a b:V):pkV (.b true) a b=some a:=rfl
theorem cK9(a b:V):pkV (.b false) a b=some b:=rfl
def bX(op:BinOp):V→V→Option V
 | .i k a,.i k' b=>(gd op k a k' b).val
 | .s n a,.s m b=>(WK op n a m b).val
 |_,_=>none
theorem aB0(op:BinOp)(x y:X)(M:Mem)(t:T):(dh (.bi op x y) F M t).val=bX op (x.ev t) (y.ev t):=by
 show(CD op x y F M t).val=_
 unfold CD bX
 cases x.ev t with
 |i k a=>
  show(wO (y.ev t) QR.f fun k' b=>gd op k a k' b).val=_;cases y.ev t<;>rfl
 |s n a=>
  show(tY (y.ev t) QR.f fun m b=>WK op n a m b).val=_;cases y.ev t<;>rfl
 |_=>cases y.ev t<;>rfl
theorem WH(k:IntKind)(a b:Int):bX .add (.i k a) (.i k b)=some (.i k (k.wrap (a+b))):=by
 cases k<;>simp[bX,gd,fc,qh,bm3,je,sZ,fe,jg,GB,QR.val]
theorem sJ(k:IntKind)(a b:Int):bX .sub (.i k a) (.i k b)=some (.i k (k.wrap (a-b))):=by
 show _=some (V.i k (k.wrap (Int.sub a b)))
 cases k<;>simp[bX,gd,fc,qh,bn2,je,sZ,fe,jg,QR.val]
theorem bE0(k:IntKind)(a b:Int):bX .lss (.i k a) (.i k b)=some (.b (decide (a<b))):=by
 cases k<;>simp[bX,gd,fc,qh,bm9,je,sZ,nu,gD,QR.val]
theorem bD8(k:IntKind)(a b:Int):bX .gtr (.i k a) (.i k b)=some (.b (decide (b<a))):=by
 cases k<;>simp[bX,gd,fc,qh,bm7,je,sZ,nu,gD,QR.val]
theorem dle(a b:Int):decide (a≤b)= !decide (b<a):=by
 by_cases h:b<a
 ·rw[af h,ah (by omega)];rfl
 ·rw[ah h,af (by omega)];rfl
theorem bD9(k:IntKind)(a b:Int):bX .leq (.i k a) (.i k b)=some (.b (decide (a≤b))):=by
 cases k<;>simp[bX,gd,fc,qh,bm8,je,sZ,nu,gD,iX,QR.val,dle,-decide_not,-Int.not_lt]
theorem bD7(k:IntKind)(a b:Int):bX .geq (.i k a) (.i k b)=some (.b (decide (b≤a))):=by
 cases k<;>simp[bX,gd,fc,qh,bm6,je,sZ,nu,gD,iX,QR.val,dle,-decide_not,-Int.not_lt]
theorem bD6(k:IntKind)(a b:Int):bX .eql (.i k a) (.i k b)=some (.b (decide (a=b))):=by
 cases k<;>simp[bX,gd,fc,qh,bm5,je,sZ,nu,du,QR.val]
theorem bE1(k:IntKind)(a b:Int):bX .neq (.i k a) (.i k b)=some (.b (decide (a≠b))):=by
 cases k<;>simp[bX,gd,fc,qh,bn1,je,sZ,nu,du,iX,QR.val]
def unV(op:UnOp)(x:V):Option V:=(dh (.un op (.c x)) [] .e .e).val
theorem cT3(op:UnOp)(x:X)(M:Mem)(t:T):(dh (.un op x) F M t).val=unV op (x.ev t):=by
 cases op<;>rfl
theorem bP5(x:Bool):unV .not (.b x)=some (.b (!x)):=by cases x<;>rfl
def lnV(sh:Sh)(F:RO)(M:Mem)(x:V):Option V:=(dh (.ln sh (.c x)) F M .e).val
theorem bP8(sh:Sh)(x:X)(M:Mem)(t:T):(dh (.ln sh x) F M t).val=lnV sh F M (x.ev t):=by
 cases sh<;>rfl
theorem lnS(n x:Nat)(M:Mem):lnV .str F M (.s n x)=some (.i .i64 (n:Int)):=rfl
def Av(x i:V):Option V:=(dh (.ixS (.c x) (.c i)) [] .e .e).val
theorem bq4(x i:X)(M:Mem)(t:T):(dh (.ixS x i) F M t).val=Av (x.ev t) (i.ev t):=rfl
end
def xH(k:IntKind):List Int→List V
 |[]=>[]
 |z::r=> .i k z::xH k r
def tv(ty:Nat)(k:IntKind)(zs:List Int):bL:= .cells ty zs.length false zs.length true [] (bz (xH k zs) 0 .e)
abbrev uN:=Nat×IntKind×List Int
def mR:List uN→(Nat→Nat)→RO
 |[],_=>[]
 |(g,k,zs)::r,ty=>(g,tv (ty g) k zs)::mR r ty
def yF(W:World)(t:uN):Prop:=∃ty fr,W.heap[t.1]?=some (.cells (t.2.2.map fun z=>Value.int t.2.1 z).toArray ty fr)
theorem p8(k:IntKind)(zs:List Int):xH k zs=zs.map (V.i k):=by
 induction zs with
 |nil=>rfl
 |cons z r ih=>rw[xH,ih];rfl
theorem bP1{c:Nat→Prop}{ty:Nat}{k:IntKind}{zs:List Int}:fw c (tv ty k zs):=by
 intro j v hv
 rw[cM]at hv
 split at hv
 ·rename_i hj;rw[dH]at hv;have hlen:(xH k zs).length=zs.length:=by rw[p8];simp
  rw[ae (by omega)]at hv;rw[p8]at hv;simp only[Nat.sub_zero,List.getElem?_map]at hv;rw[List.getElem?_eq_getElem hj]at hv;simp only[Option.map_some]at hv;obtain rfl:=ag hv;trivial
 ·cases hv
theorem sj{L:List uN}{ty:Nat→Nat}{b:Nat}{blk:bL}(h:be (mR L ty) b=some blk):∃t∈L,t.1=b∧blk=tv (ty b) t.2.1 t.2.2:=by
 induction L with
 |nil=>cases h
 |cons t r ih=>
  obtain⟨g,k,zs⟩:=t;have h':Bool.rec (motive:=fun _=>Option bL) (be (mR r ty) b) (some (tv (ty g) k zs)) (Nat.beq g b)=some blk:=h;rw[bb,bK]at h';by_cases e:g=b
  ·rw[ae (by simpa using e)]at h';subst e;exact⟨_,ck ..,rfl,(ag h').symm⟩
  ·rw[ab (by simpa using e)]at h';obtain⟨t,ht,h1,h2⟩:=ih h';exact⟨t,bN _ ht,h1,h2⟩
theorem pL{P:Program}{W:World}{name:String}{k:IntKind}{zs:List Int}{g:Nat}{t e:TypeId}{n:Nat}
 (hg:P.globalNamed name=some g) (hty:(P.globals[g]?).map (·.type)=some t) (ht:P.underlying t=some (.array n e)) (he:P.underlying e=some (.int k)) (hce:P.cellsOf e=1) (hct:P.cellsOf t=n):
 ∀{laid:List (String×DataW Unit)} {ps:List MemPlace},(name,Lib.tabData k zs)∈laid→DataW.LaidVars P W laid ps→yF W (g,k,zs)
 |x::r,ps,hm,h=>by
  obtain⟨g',t',cs,fuel,p,q,hg',ht',hvar,hd,hr,_⟩:=h;rcases bv.1 hm with e1|hm'
  ·subst e1;obtain rfl:=ag (hg.symm.trans hg');obtain rfl:=ag (hty.symm.trans ht');have hcs:=Lib.cells_of_tab ht he hce hct hd;unfold World.var? at hvar;rw[hg]at hvar;simp only[Option.bind_some]at hvar;split at hvar
   ·rename_i cs' ty fr hh;obtain rfl:=ag hvar;refine⟨ty,fr,?_⟩;show W.heap[g]?=_;rw[hh,←hcs]
   ·cases hvar
  ·exact pL hg hty ht he hce hct hm' hr
theorem xG{P:Program}{W:World}{name:String}{k:IntKind}{zs:List Int}{g:Nat}{t e:TypeId}{n:Nat}
 (hg:P.globalNamed name=some g) (hty:(P.globals[g]?).map (·.type)=some t) (ht:P.underlying t=some (.array n e)) (he:P.underlying e=some (.int k)) (hce:P.cellsOf e=1) (hct:P.cellsOf t=n)
 {laid:List (String×DataW Unit)} (hm:(name,Lib.tabData k zs)∈laid) (h:laidMet P laid W):yF W (g,k,zs):=by
 obtain⟨ps,hv,_⟩:=h
 exact pL hg hty ht he hce hct hm hv
def FC(k:IntKind)(z:Int):V→Bool
 | .i k' z'=>je k k'&&Oa z z'
 |_=>false
def ki(n:Nat)(d:List V)(c:T)(k:IntKind):List Int→Nat→Bool
 |[],i=>Nat.beq i n
 |z::r,i=>match cell n d c i with
  |some v=>FC k z v&&ki n d c k r (Nat.succ i)
  |none=>false
def kj(F:RO)(t:uN):Bool:=match be F t.1 with
 |some (.cells _ n false fz true d c)=>Nat.beq fz n&&ki n d c t.2.1 t.2.2 0
 |_=>false
def bn(F:RO):List uN→Bool
 |[]=>true
 |t::r=>Nat.blt t.1 1000&&(kj F t&&bn F r)
theorem mQ{n:Nat}{d:List V}{c:T}{k:IntKind}:∀{zs:List Int} {i:Nat},ki n d c k zs i=true→i+zs.length=n∧ ∀j z,zs[j]?=some z→cell n d c (i+j)=some (.i k z)
 |[],i,h=>by
  have:decide (i=n)=true:=by rw[←bK];exact h
  exact⟨by simpa using this,fun j z hz=>by simp at hz⟩
 |z::r,i,h=>by
  unfold ki at h;split at h
  ·rename_i v hv;rw[aC]at h;obtain⟨h1,h2⟩:=h;obtain⟨h3,h4⟩:=mQ h2;have hve:v= .i k z:=by
    unfold FC at h1;split at h1
    ·rename_i k' z';rw[aC,iR,du]at h1;have a1:=aY h1.1;have a2:=aY h1.2;rw[a1,a2]
    ·cases h1
   refine⟨by simp only[aP];omega,fun j z' hz=>?_⟩;cases j with
   |zero=>simp at hz;subst hz;rw[←hve];exact hv
   |succ j=>
    rw[show i+(j+1)=Nat.succ i+j by omega];exact h4 j z' (by simpa using hz)
  ·cases h
theorem Zg{ty:Nat}{k:IntKind}{zs:List Int}{j:Nat}{v:V}(h:cell zs.length [] (bz (xH k zs) 0 .e) j=some v):∃z,zs[j]?=some z∧v= .i k z:=by
 rw[cM]at h
 split at h
 ·rename_i hj;rw[dH]at h;have hlen:(xH k zs).length=zs.length:=by rw[p8];simp
  rw[ae (by omega)]at h;rw[p8]at h;simp only[Nat.sub_zero,List.getElem?_map]at h;rw[List.getElem?_eq_getElem hj]at h;simp only[Option.map_some]at h;exact⟨zs[j],List.getElem?_eq_getElem hj,(ag h).symm⟩
 ·cases h
theorem Zf{P:Program}{E:dj}{F:RO}{M:Mem}{c:Nat→Prop}{w:World}{t:uN}(hr:ku P E F M c w)(h:kj F t=true):∃ty o,w.heap[E.ρ t.1]?=some o∧ft P E t.1 (tv ty t.2.1 t.2.2) o:=by
 unfold kj at h
 split at h
 ·rename_i ty n fz d cs hF;rw[aC,bK]at h;obtain⟨h0,h⟩:=h;have h0:=aY h0;subst h0;obtain⟨h1,h2⟩:=mQ h;have hl:look F M t.1=some (.cells ty fz false fz true d cs):=by
   rw[aQ (hr.apart t.1 (by rw[hF];rfl))];exact hF
  obtain⟨_,_,o,ho,arr,fr,rfl,hc⟩:=hr.has _ _ hl;have hn:t.2.2.length=fz:=by omega
  subst hn;refine⟨ty,_,ho,arr,fr,rfl,?_,hc.size,hc.free,hc.plain⟩;intro j v hv;obtain⟨z,hz,rfl⟩:=Zg (ty:=ty) hv;refine hc.cell j _ ?_;have:=h2 j z hz
  rwa [Nat.zero_add]at this
 ·cases h
theorem iT{F:RO}:∀{L:List uN},bn F L=true→ ∀t∈L,t.1<1000∧kj F t=true
 |[],_,t,ht=>by cases ht
 |x::r,h,t,ht=>by
  have h':(Nat.blt x.1 1000&&(kj F x&&bn F r))=true:=h;rw[aC,aC,eT]at h';rcases bv.1 ht with e|ht'
  ·subst e;exact⟨aY h'.1,h'.2.1⟩
  ·exact iT h'.2.2 t ht'
theorem xn{P:Program}{E:dj}{F:RO}{M:Mem}{c:Nat→Prop}{w:World}{L:List uN}(hr:ku P E F M c w)(hglob:∀g,g<1000→E.ρ g=g∧E.β g=0)(h:bn F L=true):∃ty,ku P E (mR L ty) .e c0 w:=by
 have hall:=iT h
 have hty:∃ty:Nat→Nat,∀b,∀t∈L,t.1=b→ ∃o,w.heap[E.ρ b]?=some o∧ft P E b (tv (ty b) t.2.1 t.2.2) o:=by
  refine⟨fun b=>match w.heap[E.ρ b]? with|some (.cells _ ty _)=>ty|_=>0,fun b t ht e=>?_⟩;subst e;obtain⟨ty,o,ho,hB⟩:=Zf hr (hall t ht).2;have hB':=hB;obtain⟨arr,fr,rfl,_⟩:=hB;refine⟨_,ho,?_⟩;simp only[ho];exact hB'
 obtain⟨ty,hty⟩:=hty
 refine⟨ty,⟨?_,?_,fun b hb=>rfl⟩⟩
 ·intro b blk hb;rw[aQ (show(Tr.e:Mem).get b=none from rfl)]at hb;obtain⟨t,ht,e,rfl⟩:=sj hb;subst e;obtain⟨o,ho,hB⟩:=hty _ t ht rfl;exact⟨(hall t ht).1,bP1,o,ho,hB⟩
 ·intro b b' h1 h2 e;have lt:∀x,(look (mR L ty) .e x).isSome→x<1000:=by
   intro x hx;obtain⟨y,hy⟩:=bM.1 hx;rw[aQ (show(Tr.e:Mem).get x=none from rfl)]at hy;obtain⟨t,ht,e,_⟩:=sj hy;subst e;exact(hall t ht).1
  rw[(hglob b (lt b h1)).1,(hglob b' (lt b' h2)).1]at e;exact e
theorem Tr.setP_same{α:Type}(p:aM)(v w:α):∀t:Tr α,(t.setP p v).setP p w=t.setP p w:=by
 induction p with
 |h=>intro t;cases t<;>rfl
 |l p ih=>
  intro t;cases t with
  |e=>rw[Tr.setP_el,Tr.setP_l,ih,Tr.setP_el]
  |n l x r=>rw[Tr.setP_l,Tr.setP_l,ih,Tr.setP_l]
 |r p ih=>
  intro t;cases t with
  |e=>rw[Tr.setP_er,Tr.setP_r,ih,Tr.setP_er]
  |n l x r=>rw[Tr.setP_r,Tr.setP_r,ih,Tr.setP_r]
theorem tl{α:Type}(v:α):∀(f k:Nat),k+1<2^(f+1)→Tr.single (some v) f k=(Tr.e:Tr α).setP (mE f k) v
 |0,k,h=>by
  have:k=0:=by simp at h;omega
  subst this;rfl
 |f+1,k,h=>by
  have hp:(2:Nat)^(f+1+1)=2*2^(f+1):=by rw[Nat.pow_succ];omega
  rw[Tr.single_succ,tZ];by_cases h0:k=0
  ·rw[ae h0,ae h0];rfl
  ·rw[ab h0,ab h0];by_cases h2:k%2=0
   ·rw[ae h2,ae h2,Tr.setP_er,tl v f _ (by omega)]
   ·rw[ab h2,ab h2,Tr.setP_el,tl v f _ (by omega)]
theorem qG{α:Type}(v:α)(t:Tr α):∀k:Nat,t.set k v=t.setP (bJ k) v:=by
 induction t with
 |e=>
  intro k;show(Tr.e:Tr α).put (some v) k=_;rw[Tr.put_e];refine tl v _ k ?_;have:=Nat.lt_log2_self (n:=k);have hp:(2:Nat)^(k.log2+1+1)=2*2^(k.log2+1):=by rw[Nat.pow_succ];omega
  omega
 |n l x r ihl ihr=>
  intro k;show(Tr.n l x r).put (some v) k=_;rw[Tr.put_n];by_cases h0:k=0
  ·subst h0;rfl
  ·rw[ab h0];by_cases h2:k%2=0
   ·rw[ae h2];have e:bJ k= .r (bJ (k/2-1)):=by rw[←wU];congr 1;omega
    rw[e,Tr.setP_r,←ihr];rfl
   ·rw[ab h2];have e:bJ k= .l (bJ (k/2)):=by rw[←zn];congr 1;omega
    rw[e,Tr.setP_l,←ihl];rfl
theorem Ks{α:Type}(t:Tr α)(k:Nat)(v w:α):(t.set k v).set k w=t.set k w:=by
 rw[qG,qG,qG,Tr.setP_same]
theorem set_comm{α:Type}(t:Tr α){k j:Nat}(h:k≠j)(v w:α):(t.set k v).set j w=(t.set j w).set k v:=by
 rw[qG,qG,qG,qG,Tr.setP_comm (bJ k) v (bJ j) w t (fun e=>h (zm e).symm)]
def jo(l:List V):T:=bz l 0 .e
theorem pD(v:V):∀(l:List V) (k i:Nat) (t:T),i<k→bz l k (t.set i v)=(bz l k t).set i v
 |[],k,i,t,h=>rfl
 |x::l,k,i,t,h=>by
  rw[d9,d9,set_comm _ (show i≠k by omega),pD v l (k+1) i _ (by omega)]
theorem wE(v:V):∀(l:List V) (k i:Nat) (t:T),i<l.length→(bz l k t).set (k+i) v=bz (l.set i v) k t
 |[],k,i,t,h=>by cases h
 |x::l,k,0,t,h=>by
  rw[List.set_cons_zero,d9,d9,cT k,←pD v l (k+1) k _ (by omega),Ks]
 |x::l,k,i+1,t,h=>by
  rw[List.set_cons_succ,d9,d9,show k+(i+1)=(k+1)+i by omega,wE v l (k+1) i _ (by simpa using h)]
theorem YF(v:V)(l:List V)(i:Nat)(h:i<l.length):(jo l).set i v=jo (l.set i v):=by
 have:=wE v l 0 i .e h
 rwa [Nat.zero_add]at this
def over:List V→Nat→List V→List V
 |l,_,[]=>l
 |l,i,v::r=>over (l.set i v) (i+1) r
theorem kR:∀(vs l:List V) (i:Nat),(over l i vs).length=l.length
 |[],l,i=>rfl
 |v::r,l,i=>by rw[over,kR r];simp
theorem tX:∀(vs l:List V) (i:Nat),i+vs.length≤l.length→bz vs i (jo l)=jo (over l i vs)
 |[],l,i,h=>rfl
 |v::r,l,i,h=>by
  simp only[aP]at h;rw[d9,YF _ _ _ (by omega),over,tX r _ _ (by simp;omega)]
def au(ty:Nat)(l:List V):bL:= .cells ty l.length true 0 false [] (jo l)
theorem vR(l:List V)(i:Nat):cell l.length [] (jo l) i=l[i]?:=by
 rw[cM]
 by_cases h:i<l.length
 ·rw[ae h];unfold jo;rw[dH,ae (by omega)];simp only[Nat.sub_zero];rw[List.getElem?_eq_getElem h]
 ·rw[ab h,List.getElem?_eq_none (by omega)]
theorem tM(l:List V):∀(n i:Nat),i+n≤l.length→fx l.length [] (jo l) n i=some ((l.drop i).take n)
 |0,i,h=>by rw[rn];simp
 |n+1,i,h=>by
  rw[jC,vR,List.getElem?_eq_getElem (by omega)];show(match fx l.length [] (jo l) n (i+1)with|none=>none|some r=>some (l[i]::r))=_;rw[tM l n (i+1) (by omega)];simp only;rw[←List.getElem_cons_drop (by omega:i<l.length),List.take_succ_cons]
section
variable{Φ:Nat→Option CF}{rd:Option Nat}{fn:Nat}{F:RO}
theorem pH(M:Mem)(b:Nat)(x:bL):look F (M.set b x) b=some x:=ay (by rw[Tr.get_set,ae rfl])
theorem o5(M:Mem){b b':Nat}(x:bL)(h:b'≠b):look F (M.set b x) b'=look F M b':=ey (by rw[Tr.get_set,ab h])
theorem qy(M:Mem)(b o ty:Nat)(l:List V):load1 F (M.set b (au ty l)) b o=l[o]?:=by
 unfold load1
 rw[pH]
 exact vR l o
theorem Co(M:Mem){b b':Nat}(o:Nat)(x:bL)(h:b'≠b):load1 F (M.set b x) b' o=load1 F M b' o:=by
 unfold load1
 rw[o5 M x h]
theorem wG(M:Mem)(b o n ty:Nat)(l:List V)(h:o+n≤l.length):loadN F (M.set b (au ty l)) b o n=some ((l.drop o).take n):=by
 unfold loadN
 rw[pH]
 exact tM l n o h
theorem Y1(M:Mem){b b':Nat}(o n:Nat)(x:bL)(h:b'≠b):loadN F (M.set b x) b' o n=loadN F M b' o n:=by
 unfold loadN
 rw[o5 M x h]
theorem kT(M:Mem)(b o ty:Nat)(l vs:List V)(h:o+vs.length≤l.length)(h1:bj vs=true):dK (M.set b (au ty l)) b o vs=some (M.set b (au ty (over l o vs))):=by
 have hg:(M.set b (au ty l)).get b=some (au ty l):=by rw[Tr.get_set,ae rfl]
 show Option.rec (motive:=fun _=>Option Mem) none (fun blk=>oY (M.set b (au ty l)) b o vs blk) ((M.set b (au ty l)).get b)=_
 rw[hg]
 show(Bool.rec (motive:=fun _=>Option Mem) none (Bool.rec (motive:=fun _=>Option Mem) none (Bool.rec (motive:=fun _=>Option Mem) none (fR (M.set b (au ty l)) b o vs ty l.length true 0 false [] (jo l)) (bj vs)) (Nat.ble 0 o)) (Nat.ble (Nat.add o vs.length) l.length))=_
 rw[bb,bb,bb,cE,cE,af (show Nat.add o vs.length≤l.length from h),af (aE o),h1]
 simp only[if_true]
 unfold fR
 rw[Tr.force_eq,Tr.force_eq,tX _ _ _ h,Ks]
 unfold au
 rw[kR]
theorem Ns(M:Mem){b b':Nat}(o:Nat)(x:bL)(vs:List V)(h:b'≠b){M':Mem}(hs:dK M b' o vs=some M'):dK (M.set b x) b' o vs=some (M'.set b x):=by
 obtain⟨ty,n,ex,fz,str,d,cs,hM,h1,h2,h3,rfl⟩:=ow hs
 have hg:(M.set b x).get b'=some (.cells ty n ex fz str d cs):=by rw[Tr.get_set,ab h];exact hM
 show Option.rec (motive:=fun _=>Option Mem) none (fun blk=>oY (M.set b x) b' o vs blk) ((M.set b x).get b')=_
 rw[hg]
 show(Bool.rec (motive:=fun _=>Option Mem) none (Bool.rec (motive:=fun _=>Option Mem) none (Bool.rec (motive:=fun _=>Option Mem) none (fR (M.set b x) b' o vs ty n ex fz str d cs) (bj vs)) (Nat.ble fz o)) (Nat.ble (Nat.add o vs.length) n))=_
 rw[bb,bb,bb,cE,cE,af (show Nat.add o vs.length≤n from h1),af h2,h3]
 simp only[if_true]
 unfold fR
 rw[Tr.force_eq,Tr.force_eq,set_comm _ (Ne.symm h)]
def cF8(F:RO)(M:Mem)(x:V):Option V:=(dh (.ld1 (.c x)) F M .e).val
def cG3(n:Nat)(F:RO)(M:Mem)(x:V):Option V:=(dh (.ldn n (.c x)) F M .e).val
theorem cS9(x:X)(M:Mem)(t:T):(dh (.ld1 x) F M t).val=cF8 F M (x.ev t):=rfl
theorem cT0(n:Nat)(x:X)(M:Mem)(t:T):(dh (.ldn n x) F M t).val=cG3 n F M (x.ev t):=rfl
theorem cF9(M:Mem)(b o:Nat):cF8 F M (.p b o)=load1 F M b o:=by
 show(qrb b (load1 F M b o)).val=_
 cases load1 F M b o<;>rfl
theorem cG4(n:Nat)(M:Mem)(b o:Nat):cG3 n F M (.p b o)=(loadN F M b o n).map .g:=by
 show(qgb b (loadN F M b o n)).val=_
 cases loadN F M b o n<;>rfl
theorem cS5(off:Nat)(x:X)(M:Mem)(t:T):(dh (.fa off x) F M t).val=match x.ev t with| .p b o=>some (.p b (o+off))|_=>none:=by
 show(t8 (x.ev t) .f fun b o=>uX b (Nat.add o off)).val=_
 cases x.ev t with
 |p b o=>
  show(uX b (Nat.add o off)).val=_;unfold uX;rw[b9];rfl
 |_=>rfl
theorem af3(ty:Nat)(cs:List V)(b:Nat)(t:T)(h:bj cs=true):lz (.al ty cs) b t=some (.p b 0,au ty cs):=by
 show(bif bj cs then some (V.p b 0,bL.cells ty cs.length true 0 false [] (bz cs 0 .e))else none)=_
 rw[h];rfl
theorem af6(ty sz:Nat)(x:X)(b:Nat)(t:T):lz (.bx ty sz x) b t=if(flatten (x.ev t)).length=sz∧bj (flatten (x.ev t))=true then some (.p b 0,au ty (flatten (x.ev t)))else none:=by
 show(bif Nat.beq (flatten (x.ev t)).length sz&&bj (flatten (x.ev t))then some (V.p b 0,bL.cells ty sz true 0 false [] (bz (flatten (x.ev t)) 0 .e))else none)=_
 rw[bK]
 by_cases h:(flatten (x.ev t)).length=sz
 ·rw[af h];cases ha:bj (flatten (x.ev t))with
  |true=>rw[ae ⟨h,rfl⟩,←h];rfl
  |false=>rw[ab (fun hh=>by cases hh.2)];rfl
 ·rw[ah h,ab (fun hh=>h hh.1)];rfl
theorem Jk(n:Nat)(x v:X)(M:Mem)(c:Nat)(t:T):iV (.st n x v) (K Φ rd fn F) M c t=match x.ev t with
 | .p b o=>if(flatten (v.ev t)).length=n then er c (dK M b o (flatten (v.ev t)))else .f
 |_=> .f:=by
 show(t8 (x.ev t) .f fun b o=>yO n b o (flatten (v.ev t)) M c)=_
 cases x.ev t with
 |p b o=>
  show yO n b o (flatten (v.ev t)) M c=_;unfold yO;rw[bb,bK];simp only[decide_eq_true_eq]
 |_=>rfl
theorem ar0(c:Nat)(M:Mem):er c (some M)= .k undef M c:=rfl
end
section
variable{Φ:Nat→Option CF}{rd:Option Nat}{fn:Nat}{F:RO}
def ofO(o:Option V)(M:Mem)(c:Nat):RC:=match o with
 |some v=> .k v M c
 |none=> .f
theorem Yt(h:List V→Option V)(F:RO)(args:List V)(M:Mem)(c:Nat):aJ h F args M c=ofO (h args) M c:=rfl
theorem Yd(v:V)(M:Mem)(c:Nat):ofO (some v) M c= .k v M c:=rfl
theorem Mf(x:Bool):flatten (.b x)=[.b x]:=rfl
theorem Mi(k:IntKind)(x:Int):flatten (.i k x)=[.i k x]:=rfl
theorem Mn(n x:Nat):flatten (.s n x)=[.s n x]:=rfl
theorem Ml(b o:Nat):flatten (.p b o)=[.p b o]:=rfl
theorem EL:flatten .p0=[.p0]:=rfl
theorem Mj(b o n c:Nat):flatten (.l b o n c)=[.l b o n c]:=rfl
theorem Mo(b o n e k:Nat):flatten (.u b o n e k)=[.u b o n e k]:=rfl
theorem EJ:flatten .l0=[.l0]:=rfl
theorem Mk(b:Nat):flatten (.m b)=[.m b]:=rfl
theorem EK:flatten .m0=[.m0]:=rfl
theorem Mg(f:Nat)(a b:List V):flatten (.f f a b)=[.f f a b]:=rfl
theorem EI:flatten .f0=[.f0]:=rfl
theorem Mh(l:List V):flatten (.g l)=l:=rfl
theorem DM:bj []=true:=rfl
theorem d8(v:V)(l:List V):bj (v::l)=(dD v&&bj l):=by
 show Bool.rec (motive:=fun _=>Bool) false (bj l) (dD v)=_
 cases dD v<;>rfl
theorem at3(x:Bool):dD (.b x)=true:=rfl
theorem at5(k:IntKind)(x:Int):dD (.i k x)=true:=rfl
theorem at9(n x:Nat):dD (.s n x)=true:=rfl
theorem at8(b o:Nat):dD (.p b o)=true:=rfl
theorem XM:dD .p0=true:=rfl
theorem at6(b o n c:Nat):dD (.l b o n c)=true:=rfl
theorem au0(b o n e k:Nat):dD (.u b o n e k)=true:=rfl
theorem XL:dD .l0=true:=rfl
theorem at7(b:Nat):dD (.m b)=true:=rfl
theorem at4(f:Nat)(a b:List V):dD (.f f a b)=true:=rfl
theorem XK:dD .f0=true:=rfl
def wf(cs:List V):List (Nat×Nat×List V)→Option (List V)
 |[]=>some cs
 |(o,n,vs)::r=>if vs.length=n then(match iC cs o vs with|some cs=>wf cs r|none=>none)else none
theorem qE:∀(o:Nat) (l vs:List V),o+vs.length≤l.length→iC l o vs=some (over l o vs)
 |0,l,[],h=>by cases l<;>rfl
 |0,[],v::r,h=>by simp at h
 |0,x::l,v::r,h=>by
  have key:∀(r l:List V) (v:V),over (v::l) 1 r=v::over l 0 r:=by
   have gen:∀(r l:List V) (v:V) (i:Nat),over (v::l) (i+1) r=v::over l i r:=by
    intro r
    induction r with
    |nil=>intro l v i;rfl
    |cons a r ih=>intro l v i;rw[over,over,List.set_cons_succ,ih]
   exact fun r l v=>gen r l v 0
  rw[iC,qE 0 l r (by simp at h;omega),over,List.set_cons_zero,key]
 |o+1,[],vs,h=>by simp at h
 |o+1,x::l,vs,h=>by
  have gen:∀(r l:List V) (v:V) (i:Nat),over (v::l) (i+1) r=v::over l i r:=by
   intro r
   induction r with
   |nil=>intro l v i;rfl
   |cons a r ih=>intro l v i;rw[over,over,List.set_cons_succ,ih]
  rw[iC,qE o l vs (by simp at h;omega),gen]
def evP(t:T):List (Nat×Nat×X)→List (Nat×Nat×List V)
 |[]=>[]
 |(o,n,x)::r=>(o,n,flatten (x.ev t))::evP t r
theorem ar3(t:T):evP t []=[]:=rfl
theorem Cd(t:T)(o n:Nat)(x:X)(r:List (Nat×Nat×X)):evP t ((o,n,x)::r)=(o,n,flatten (x.ev t))::evP t r:=rfl
theorem Md(cs:List V):wf cs []=some cs:=rfl
theorem wg(cs:List V)(o n:Nat)(vs:List V)(r:List (Nat×Nat×List V)):wf cs ((o,n,vs)::r)=if vs.length=n then(match iC cs o vs with|some cs=>wf cs r|none=>none)else none:=rfl
theorem rN(l:List V)(i:Nat):over l i []=l:=rfl
theorem fW(l:List V)(i:Nat)(v:V)(r:List V):over l i (v::r)=over (l.set i v) (i+1) r:=rfl
theorem rC(t:T):∀(ps:List (Nat×Nat×X)) (cs:List V),fillParts t cs ps=wf cs (evP t ps)
 |[],cs=>rfl
 |(o,n,x)::ps,cs=>by
  rw[Cd,wg,fillParts,bK];by_cases hc:(flatten (x.ev t)).length=n
  ·rw[af hc,cond_true,ae hc];cases iC cs o (flatten (x.ev t))with
   |none=>rfl
   |some cs'=>exact rC t ps cs'
  ·rw[ah hc,cond_false,ab hc]
theorem cS1(zero:List V)(ps:List (Nat×Nat×X))(M:Mem)(t:T):(dh (.bld zero ps) F M t).val=(wf zero (evP t ps)).map .g:=by
 show(qg (fillParts t zero ps)).val=_
 rw[rC]
 cases wf zero (evP t ps)<;>rfl
theorem cS6(off:Nat)(x:X)(M:Mem)(t:T):(dh (.fl1 off x) F M t).val=match x.ev t with| .g cs=>cs[off]?|_=>none:=by
 show(Fb (x.ev t) .f fun cs=>qr (yp cs off)).val=_
 cases x.ev t with
 |g cs=>
  show(qr (yp cs off)).val=cs[off]?;rw[l8];cases cs[off]?<;>rfl
 |_=>rfl
theorem cS7(off n:Nat)(x:X)(M:Mem)(t:T):(dh (.fln off n x) F M t).val=match x.ev t with| .g cs=>(nr n (kN off cs)).map .g|_=>none:=by
 show(Fb (x.ev t) .f fun cs=>qg (nr n (kN off cs))).val=_
 cases x.ev t with
 |g cs=>
  show(qg (nr n (kN off cs))).val=(nr n (kN off cs)).map .g;cases nr n (kN off cs)<;>rfl
 |_=>rfl
theorem cS4(i:Nat)(x:X)(M:Mem)(t:T):(dh (.ex i x) F M t).val=match x.ev t with| .t cs=>cs[i]?|_=>none:=by
 show(wZ i x F M t).val=_
 unfold wZ
 cases x.ev t with
 |t cs=>
  show(qr (yp cs i)).val=cs[i]?;rw[l8];cases cs[i]?<;>rfl
 |_=>rfl
theorem cS2(k:IntKind)(x:X)(M:Mem)(t:T):(dh (.ci k x) F M t).val=match x.ev t with| .i _ n=>some (.i k (k.wrap n))|_=>none:=by
 show(wO (x.ev t) .f fun _ n=>vI k (wr k n)).val=_
 cases x.ev t with
 |i k' n=>
  show(vI k (wr k n)).val=_;rw[fe,jg];rfl
 |_=>rfl
def bA3:Option Bool→Option Bool→Option Bool
 |some b,r=>if b=true then r else some false
 |none,_=>none
theorem Lx(b c:Bool):bA3 (some b) (some c)=some (b&&c):=by cases b<;>rfl
def cB6(F:RO)(M:Mem)(sh:Sh)(x y:Option V):Option Bool:=match x,y with
 |some x,some y=>Jn F M sh false x y
 |_,_=>none
theorem LY(M:Mem)(sh:Sh)(x y:V):cB6 F M sh (some x) (some y)=Jn F M sh false x y:=rfl
theorem LX(M:Mem)(xs ys:List V):ng F M xs ys []=some true:=rfl
theorem qj(M:Mem)(xs ys:List V)(o:Nat)(sh:Sh)(r:List (Nat×Sh)):ng F M xs ys ((o,sh)::r)=bA3 (cB6 F M sh (xs[o]?) (ys[o]?)) (ng F M xs ys r):=by
 rw[ng,l8,l8]
 cases xs[o]? with
 |none=>rfl
 |some x=>
  cases ys[o]? with
  |none=>rfl
  |some y=>
   show(match Jn F M sh false x y with|some true=>ng F M xs ys r|r=>r)=bA3 (Jn F M sh false x y) _;cases Jn F M sh false x y with
   |none=>rfl
   |some b=>cases b<;>rfl
def au9(neg:Bool):Option Bool→Option V
 |some r=>some (.b (bif neg then !r else r))
 |none=>none
theorem bL4(r:Bool):au9 false (some r)=some (.b r):=rfl
theorem bL5(r:Bool):au9 true (some r)=some (.b (!r)):=rfl
theorem cS3(neg:Bool)(sh:Sh)(lit:Bool)(x y:X)(M:Mem)(t:T):(dh (.eq neg sh lit x y) F M t).val=au9 neg (yR F M sh lit (x.ev t) (y.ev t)):=by
 show(zq neg (yR F M sh lit (x.ev t) (y.ev t))).val=_
 cases yR F M sh lit (x.ev t) (y.ev t)with
 |none=>rfl
 |some r=>
  show(vB (bif neg then !r else r)).val=_;rw[nu];rfl
theorem aq7(ks:List (Nat×Sh))(lit:Bool)(M:Mem)(xs ys:List V):yR F M (.agg ks) lit (.g xs) (.g ys)=ng F M xs ys ks:=rfl
theorem aq8(lit:Bool)(M:Mem)(k:IntKind)(a b:Int):yR F M .int lit (.i k a) (.i k b)=some (decide (a=b)):=by
 show eqN (.i k a) (.i k b)=_
 simp[eqN,iR,du]
theorem aq5(lit:Bool)(M:Mem)(k:IntKind)(a b:Int):Jn F M .int lit (.i k a) (.i k b)=some (decide (a=b)):=by
 show eqN (.i k a) (.i k b)=_
 simp[eqN,iR,du]
theorem C8(lit:Bool)(M:Mem)(a b:Bool):Jn F M .bool lit (.b a) (.b b)=some (decide (a=b)):=by
 show eqB (.b a) (.b b)=_
 cases a<;>cases b<;>rfl
theorem d99(x:X)(as0:List X)(M:Mem)(c:Nat)(t:T):iV (.cv x as0) (K Φ rd fn F) M c t=nb (K Φ rd fn F) (x.ev t) (evs as0 t) M c:=rfl
theorem ap0(f:Nat)(first caps args:List V)(M:Mem)(c:Nat):nb (K Φ rd fn F) (.f f first caps) args M c=eX (lU Φ) F f (first++(args++caps)) M c (Φ f):=rfl
theorem cT1(f:Nat)(first caps:List X)(M:Mem)(t:T):(dh (.mkf f first caps) F M t).val=some (.f f (evs first t) (evs caps t)):=rfl
theorem ay2(M:Mem)(t:T)(p:aM)(sz:Nat)(r:List RV):fj F M t (.cn p sz::r)=match cS t p with
 | .p b o=>match loadN F M b o sz with|some l=>yL (.g l) (fj F M t r)|none=>none
 |_=>none:=by
 show Option.rec (motive:=fun _=>Option (List V)) none (fun v=>uJ v (fj F M t r)) (zw F M t (.cn p sz))=_
 show Option.rec (motive:=fun _=>Option (List V)) none (fun v=>uJ v (fj F M t r)) (t8 (cS t p) none fun b o=>Option.rec (motive:=fun _=>Option V) none (fun l=>some (.g l)) (loadN F M b o sz))=_
 cases cS t p with
 |p b o=>
  show Option.rec (motive:=fun _=>Option (List V)) none (fun v=>uJ v (fj F M t r)) (Option.rec (motive:=fun _=>Option V) none (fun l=>some (.g l)) (loadN F M b o sz))=_;simp only;cases loadN F M b o sz with
  |none=>rfl
  |some l=>
   show uJ (.g l) (fj F M t r)=yL (.g l) (fj F M t r);cases fj F M t r<;>rfl
 |_=>rfl
theorem ay1(M:Mem)(t:T)(p:aM)(r:List RV):fj F M t (.c1 p::r)=match cS t p with
 | .p b o=>match load1 F M b o with|some v=>yL v (fj F M t r)|none=>none
 |_=>none:=by
 show Option.rec (motive:=fun _=>Option (List V)) none (fun v=>uJ v (fj F M t r)) (t8 (cS t p) none fun b o=>load1 F M b o)=_
 cases cS t p with
 |p b o=>
  show Option.rec (motive:=fun _=>Option (List V)) none (fun v=>uJ v (fj F M t r)) (load1 F M b o)=_;simp only;cases load1 F M b o with
  |none=>rfl
  |some v=>
   show uJ v (fj F M t r)=yL v (fj F M t r);cases fj F M t r<;>rfl
 |_=>rfl
def JJ(len sz:Nat)(x i:V):Option V:=(dh (.ixA1 len sz (.c x) (.c i)) [] .e .e).val
theorem Zl(len sz:Nat)(x i:X)(M:Mem)(t:T):(dh (.ixA1 len sz x i) F M t).val=JJ len sz (x.ev t) (i.ev t):=rfl
theorem XO(len:Nat)(cs:List V)(k:IntKind)(n:Int):JJ len 1 (.g cs) (.i k n)=if 0≤n∧n<len then cs[n.toNat]? else none:=by
 show(Fb (V.g cs) QR.f fun cs=>rF len 1 cs (sF (.i k n))).val=_
 show(rF len 1 cs (sF (.i k n))).val=_
 cases n with
 |ofNat m=>
  show(bif Nat.blt m len then qr (yp cs (Nat.mul m 1))else QR.f).val=_;rw[eT];by_cases h:m<len
  ·rw[af h,cond_true,ae ⟨Int.natCast_nonneg m,Int.ofNat_lt.2 h⟩];show(qr (yp cs (Nat.mul m 1))).val=_;rw[l8,show Nat.mul m 1=m from Nat.mul_one m];show _=cs[m]?;cases cs[m]?<;>rfl
  ·rw[ah h,cond_false,ab (fun hh=>h (Int.ofNat_lt.1 hh.2))];rfl
 |negSucc m=>
  rw[ab (fun hh=>by have:=hh.1;exact absurd this (by simp))];rfl
theorem getD_some{l:List V}{i:Nat}(h:i<l.length)(d:V):l[i]?=some ((l[i]?).getD d):=by
 rw[List.getElem?_eq_getElem h];rfl
def cG9(b:Nat)(x:bL):Option Mem→Option Mem
 |some M=>some (M.set b x)
 |none=>none
theorem MH(b:Nat)(x:bL)(M:Mem):cG9 b x (some M)=some (M.set b x):=rfl
theorem FB(M:Mem){b b':Nat}(o:Nat)(x:bL)(vs:List V)(h:b'≠b):dK (M.set b x) b' o vs=cG9 b x (dK M b' o vs):=by
 cases hs:dK M b' o vs with
 |some M'=>rw[Ns M o x vs h hs];rfl
 |none=>
  cases hs2:dK (M.set b x) b' o vs with
  |none=>rfl
  |some M2=>
   exfalso;obtain⟨ty,n,ex,fz,str,d,cs,hM,h1,h2,h3,_⟩:=ow hs2;rw[Tr.get_set,ab h]at hM;have:dK M b' o vs=some (M.set b' (.cells ty n ex fz str d (bz vs o cs))):=by
    show Option.rec (motive:=fun _=>Option Mem) none (fun blk=>oY M b' o vs blk) (M.get b')=_;rw[hM];show(Bool.rec (motive:=fun _=>Option Mem) none (Bool.rec (motive:=fun _=>Option Mem) none (Bool.rec (motive:=fun _=>Option Mem) none (fR M b' o vs ty n ex fz str d cs) (bj vs)) (Nat.ble fz o)) (Nat.ble (Nat.add o vs.length) n))=_;rw[bb,bb,bb,cE,cE,af (show Nat.add o vs.length≤n from h1),af h2,h3];simp only[if_true];unfold fR;rw[Tr.force_eq,Tr.force_eq]
   rw[hs]at this;cases this
theorem au7(c n:Nat):(c≠c+(n+1))=True:=eq_true (by omega)
theorem au8(c n:Nat):(c+(n+1)≠c)=True:=eq_true (by omega)
theorem bL3(c i j:Nat)(h:(i==j)=false):(c+i≠c+j)=True:=eq_true (fun e=>by
 have:i=j:=by omega
 rw[beq_eq_false_iff_ne]at h
 exact h this)
def To(Φ:Nat→Option CF)(f:Nat)(args:List V)(ct:Nat)(v:V):Prop:=∃M1 ct1,eX (lU Φ) [] f args .e ct (Φ f)= .k v M1 ct1
theorem dw{f n:Nat}{res:List RV}{body:CC}{args:List V}{c:Nat}{v:V}(hf:Φ f=some (.mk n res body))
 (h:Wp body (K Φ none f []) (.mk (aU n args) [] .e c) (dA [] res fun v' _ _=>v'=v)):To Φ f args c v:=by
 obtain⟨v',M',c',h1,rfl⟩:=yI hf h
 exact⟨M',c',h1⟩
end
theorem Bu(n:Int):IntKind.u8.wrap n=n%256:=oC .u8 n 256 rfl rfl
theorem aa6(n:Int):IntKind.u16.wrap n=n%65536:=oC .u16 n 65536 rfl rfl
theorem ix(n:Int):IntKind.u32.wrap n=n%4294967296:=oC .u32 n 4294967296 rfl rfl
theorem sv(n:Int):IntKind.u64.wrap n=n%18446744073709551616:=oC .u64 n 18446744073709551616 rfl rfl
theorem eQ{n:Int}(h1: -9223372036854775808≤n)(h2:n<9223372036854775808):IntKind.i64.wrap n=n:=by
 rw[tB .i64 n 18446744073709551616 9223372036854775808 rfl rfl rfl]
 split<;>omega
theorem aa5(n:Int):IntKind.i16.wrap n=if n%65536≥32768 then n%65536-65536 else n%65536:=tB .i16 n 65536 32768 rfl rfl rfl
theorem vh(n:Int):toU .u32 n=(n%4294967296).toNat:=rfl
theorem KG(n:Int):toU .i64 n=(n%18446744073709551616).toNat:=rfl
theorem WI(k:IntKind)(a b:Int):bX .mul (.i k a) (.i k b)=some (.i k (k.wrap (a*b))):=by
 show _=some (V.i k (k.wrap (Int.mul a b)))
 cases k<;>simp[bX,gd,fc,qh,bn0,je,sZ,fe,jg,QR.val]
theorem cw3(k:IntKind)(a b:Int):bX .or (.i k a) (.i k b)=some (.i k (k.wrap ((toU k a|||toU k b:Nat):Int))):=by
 show _=some (V.i k (k.wrap ((Nat.lor (toU k a) (toU k b):Nat):Int)))
 cases k<;>simp[bX,gd,fc,qh,cD5,je,sZ,jW,QR.val]
theorem Eh(k:IntKind)(a b:Int):bX .and (.i k a) (.i k b)=some (.i k (k.wrap ((toU k a&&&toU k b:Nat):Int))):=by
 show _=some (V.i k (k.wrap ((Nat.land (toU k a) (toU k b):Nat):Int)))
 cases k<;>simp[bX,gd,fc,qh,bm4,je,sZ,jW,QR.val]
theorem A7(k k':IntKind)(a:Int)(n:Nat):bX .shl (.i k a) (.i k' (n:Int))=some (.i k (k.wrap (a*((2^en k n:Nat):Int)))):=by
 show(az5 k a (Int.ofNat n)).val=_
 show(vI k (wr k (Int.mul a (.ofNat (Nat.pow 2 (en k n)))))).val=_
 rw[fe,jg];rfl
theorem A8(k k':IntKind)(a:Int)(n:Nat):bX .shr (.i k a) (.i k' (n:Int))=some (.i k (Int.fdiv a ((2^en k n:Nat):Int))):=by
 show(az6 k a (Int.ofNat n)).val=_
 show(vI k (Int.fdiv a (.ofNat (Nat.pow 2 (en k n))))).val=_
 rw[fe];rfl
theorem qK(a b:Nat)(ha:a<4294967296)(hb:b<4294967296):bX .or (.i .u32 (a:Int)) (.i .u32 (b:Int))=some (.i .u32 ((a|||b:Nat):Int)):=by
 rw[cw3,vh,vh,ix]
 have e1:((a:Int)%4294967296).toNat=a:=by omega
 have e2:((b:Int)%4294967296).toNat=b:=by omega
 rw[e1,e2]
 have:a|||b<2^32:=Nat.or_lt_two_pow ha hb
 congr 2
 omega
theorem Nv(a:Nat)(ha:a<1048576):bX .shl (.i .u32 (a:Int)) (.i .u64 12)=some (.i .u32 ((4096*a:Nat):Int)):=by
 have:=A7 .u32 .u64 (a:Int) 12
 rw[show((12:Nat):Int)=12 from rfl]at this
 rw[this,ix]
 congr 2
 show(a:Int)*4096%4294967296=_
 omega
theorem xM(a:Nat)(ha:a<16777216):bX .shl (.i .u32 (a:Int)) (.i .u64 8)=some (.i .u32 ((256*a:Nat):Int)):=by
 have:=A7 .u32 .u64 (a:Int) 8
 rw[show((8:Nat):Int)=8 from rfl]at this
 rw[this,ix]
 congr 2
 show(a:Int)*256%4294967296=_
 omega
theorem pf(a:Nat)(ha:a<65536):bX .shl (.i .u32 (a:Int)) (.i .u64 16)=some (.i .u32 ((65536*a:Nat):Int)):=by
 have:=A7 .u32 .u64 (a:Int) 16
 rw[show((16:Nat):Int)=16 from rfl]at this
 rw[this,ix]
 congr 2
 show(a:Int)*65536%4294967296=_
 omega
theorem zI(a:Nat)(ha:a<256):bX .shl (.i .u32 (a:Int)) (.i .u64 24)=some (.i .u32 ((16777216*a:Nat):Int)):=by
 have:=A7 .u32 .u64 (a:Int) 24
 rw[show((24:Nat):Int)=24 from rfl]at this
 rw[this,ix]
 congr 2
 show(a:Int)*16777216%4294967296=_
 omega
theorem B2(a n:Nat)(hn:n≤32):bX .shr (.i .u32 (a:Int)) (.i .u64 (n:Int))=some (.i .u32 ((a/2^n:Nat):Int)):=by
 rw[A8]
 have:en .u32 n=n:=by
  unfold en;rw[cE,af (show n≤kd .u32 from hn)];rfl
 rw[this]
 congr 2
 rw[Int.fdiv_eq_ediv_of_nonneg _ (Int.natCast_nonneg _)]
 exact(Int.natCast_ediv a (2^n)).symm
theorem KK(a b:Nat)(ha:a<4294967296)(hb:b<4294967296):bX .and (.i .u32 (a:Int)) (.i .u32 (b:Int))=some (.i .u32 ((a&&&b:Nat):Int)):=by
 rw[Eh,vh,vh,ix]
 have e1:((a:Int)%4294967296).toNat=a:=by omega
 have e2:((b:Int)%4294967296).toNat=b:=by omega
 rw[e1,e2]
 have:a&&&b<2^32:=Nat.and_lt_two_pow _ hb
 congr 2
 omega
theorem dF(n:Nat)(h:n<4294967296):IntKind.u32.wrap (n:Int)=(n:Int):=by rw[ix];omega
theorem Aq(i:Int):bX .and (.i .i64 i) (.i .i64 65535)=some (.i .i64 (i%65536)):=by
 rw[Eh,KG,KG]
 have e:((65535:Int)%18446744073709551616).toNat=2^16-1:=by decide
 rw[e,Nat.and_two_pow_sub_one_eq_mod]
 have e2:(((i%18446744073709551616).toNat%2^16:Nat):Int)=i%65536:=by omega
 rw[e2,eQ (by omega) (by omega)]
theorem kU(a b:Nat)(h:a+b<4294967296):bX .add (.i .u32 (a:Int)) (.i .u32 (b:Int))=some (.i .u32 ((a+b:Nat):Int)):=by
 rw[WH,ix]
 congr 2
 omega
theorem vj(a b:Nat)(h:a*b<4294967296):bX .mul (.i .u32 (a:Int)) (.i .u32 (b:Int))=some (.i .u32 ((a*b:Nat):Int)):=by
 rw[WI,ix]
 congr 2
 rw[←Int.natCast_mul]
 omega
theorem aN(a b:Int)(h1: -9223372036854775808≤a+b)(h2:a+b<9223372036854775808):bX .add (.i .i64 a) (.i .i64 b)=some (.i .i64 (a+b)):=by
 rw[WH,eQ h1 h2]
theorem mr(a b:Int)(h1: -9223372036854775808≤a*b)(h2:a*b<9223372036854775808):bX .mul (.i .i64 a) (.i .i64 b)=some (.i .i64 (a*b)):=by
 rw[WI,eQ h1 h2]
end
end Go.Proofs.YtcnblipfcihcpaaGreatDoor.Ev
